/- Pe -/
import Derived.Test.YthlhadhipnokfaaGreatDoorPd
import Derived.Test.YthlhadhipnokfaaGreatDoorPq
namespace Go.Proofs.YthlhadhipnokfaaGreatDoor
open Go Go.RowKit Go.Proofs.YthlhadhipnokfaaGreatDoor.Abs Go.Sort
set_option linter.unusedSimpArgs false
set_option linter.unusedVariables false
set_option maxHeartbeats 1000000
section
variable{α:Type}{c:α->α->Int}
theorem jq7{β γ:Type}(f:β->β->γ)(ys:List β):∀(xs:List β)(i j:Nat)(x y:β),xs[i]? = some x->ys[j]? = some y->(xs.flatMap λx=>ys.map λy=>f x y)[i*ys.length+j]? = some (f x y)
 | [],i,j,x,y,h,_=>by simp at h
 |a::xs,i,j,x,y,h,hy=>by
  have hj:=(Zn.1 hy).1;rw[List.flatMap_cons];cases i with
  |zero=>simp at h;subst h;rw[Nat.zero_mul,yd,Kl (by simpa using hj),qu,hy];rfl
  |succ i=>
   rw[JX (by simp[yy];omega)]
   have:(i+1)*ys.length+j-(ys.map λy=>f a y).length=i*ys.length+j:=by simp[yy];omega
   rw[this];exact jq7 f ys xs i j x y (by simpa using h) hy
theorem extract_all{β:Type}(e:Array β){n:Nat}(h:e.size=n):e.extract 0 n=e:=by subst h;simp
theorem Law3.swo(h:Law3 c){β:Type}(g:β->α){lt:β->β->Bool}(hl:∀i j,lt i j=decide (c (g i) (g j)<0)):SWO lt:=by
 refine⟨λx=>?_,λx y z h1 h2=>?_,λx y z h1 h2=>?_⟩
 .rw [hl,(h.zero _ _).2 rfl];rfl
 .rw [hl,ky]at *;exact h.trans _ _ _ h1 h2
 .rw [hl,decide_eq_false_iff_not]at *;intro h3;have f1:=h.flip (g x) (g y);have f2:=h.flip (g y) (g z);by_cases e1:c (g x) (g y)=0
  .rw [(h.zero _ _).1 e1]at h3;exact h2 h3
  by_cases e2:c (g y) (g z)=0
  .rw [<-(h.zero _ _).1 e2]at h3;exact h1 h3
  have:=h.trans (g z) (g y) (g x) (by omega) (by omega);have f3:=h.flip (g x) (g z);omega
theorem joP{γ:Type}{c:γ->γ->Int}(hc:Law3 c)(f:α->γ)(enc:α->Xd)(k:Nat)(l:List α)(hl:l.length<4611686018427387904):∃s:List α,s.Perm l/\s.Pairwise (λa b=>¬c (f b) (f a)<0)/\jka k (l.map enc) (l.flatMap λx=>l.map λy=>c (f x) (f y))=some (.top,[.sl k (s.map enc)]):=by
 cases l with
 |nil=>exact⟨[],List.Perm.refl _,List.Pairwise.nil,rfl⟩
 |cons a l'=>
  generalize hcs:((a::l').flatMap λx=>(a::l').map λy=>c (f x) (f y))=cs;rw[kK];have hN:(l'.map enc).length+1=(a::l').length:=by simp
  let g:Fin ((l'.map enc).length+1)->α:=λi=>(a::l')[i.val]'(by rw[<-hN];exact i.isLt)
  have hg:∀i:Fin ((l'.map enc).length+1),(a::l')[i.val]? = some (g i):=λi=>j7 _;have hT:∀i j,ltO (jg7 ((l'.map enc).length+1) cs) i j=decide (c (f (g i)) (f (g j))<0):=λi j=>by
   have:=jq7 (λx y=>c (f x) (f y)) (a::l') (a::l') i.val j.val _ _ (hg i) (hg j);rw[hcs,<-hN]at this;unfold ltO jg7;rw[zP,this];rfl
  have hS:=hc.swo (λi=>f (g i)) hT;have hsz:(l'.map enc).length+1<4611686018427387904:=by rw[hN];exact hl
  generalize hd:(Array.ofFn (n:=(l'.map enc).length+1) id)=d;have hds:d.size=(l'.map enc).length+1:=by rw[<-hd];simp
  obtain⟨hp,hs⟩:=pdq_sorts (ltO (jg7 ((l'.map enc).length+1) cs)) hS d 0 ((l'.map enc).length+1) (Lib.bitLen ((l'.map enc).length+1)) true true (Nat.zero_le _) (by omega) (Or.inl rfl);have hrow:jka k (enc a::l'.map enc) cs=some (.top,[.sl k ((pdq (ltO (jg7 ((l'.map enc).length+1) cs)) d 0 ((l'.map enc).length+1) (Lib.bitLen ((l'.map enc).length+1)) true true).toList.map λi=>(enc a::l'.map enc).getD i.val [])]):=by
   unfold jka;simp only;rw[jg ⟨hS,hsz⟩,hd]
  rw[hrow];generalize pdq (ltO (jg7 ((l'.map enc).length+1) cs)) d 0 ((l'.map enc).length+1) (Lib.bitLen ((l'.map enc).length+1)) true true=D at *;obtain⟨p1,_,p3⟩:=hp;rw[extract_all D (by omega),extract_all d hds]at p3;refine⟨D.toList.map g,?_,?_,?_⟩
  .have h1:(D.toList.map g).Perm (d.toList.map g):=p3.map g;have h2:d.toList.map g=a::l':=by
    refine Qk λi=>?_;rw[<-hd];by_cases hi:i<(l'.map enc).length+1
    .rw [qu,jaW,jaY (by simpa using hi)];simp only[Array.getElem_ofFn,qR,id];exact(hg ⟨i,hi⟩).symm
    .rw [qF (by simp at hi⊢;omega),qF (by simp at hi⊢;omega)]
   rw[h2]at h1;exact h1
  .rw [List.pairwise_map];rw[List.pairwise_iff_getElem];intro i j hi hj hij;have hD:D.size=(l'.map enc).length+1:=by omega
   rw[Zq]at hi hj;have:=hs i j (Nat.zero_le _) hij (by omega);rw[jaX D i hi,jaX D j hj,hT,decide_eq_false_iff_not]at this;simpa using this
  .congr 3;rw[YT];refine congrArg (A.sl k) (List.map_congr_left λi _=>?_);rw[<-kK,zP,qu,hg i];rfl
end
theorem jiv{β:Type}(f:β->FuncId×Xd)(r:β->Int):∀qs:List β,(∀b∈qs,K.pureF (f b).1=true/\G (f b).1 (f b).2=some (vi (r b),[]))->askAll K (MM K) (qs.map f)=some (qs.map λb=>(vi (r b),[]))
 | [],_=>rfl
 |b::qs,h=>by
  have ih:=jiv f r qs λb' hb=>h b' (by simp[hb]);obtain⟨h1,h2⟩:=h b (by simp);rw[kK,kK];show(if K.pureF (f b).1 then(MM K (.call (f b).1 (f b).2)).bind λo=>(askAll K (MM K) (qs.map f)).bind λos=>some (o::os)else none)=_;have h2:MM K (.call (f b).1 (f b).2)=some (vi (r b),[]):=h2;rw[h1,jg rfl,h2,ih];rfl
theorem jlO{β:Type}(r:β->Int):∀qs:List β,jgW (qs.map λb=>(vi (r b),[]))=some (qs.map r)
 | []=>rfl
 |b::qs=>by
  rw[kK,kK,jgW,jlO r qs];rfl
theorem jpN{α γ:Type}{c:γ->γ->Int}(hc:Law3 c)(f:α->γ)(enc:α->Xd)(k:Nat)(g:FuncId)(hp:K.pureF g=true)(l:List α)(hl:l.length<4611686018427387904)(h:∀x∈l,∀y∈l,G g [.agg (enc x),.agg (enc y)]=some (vi (c (f x) (f y)),[])):∃s:List α,s.Perm l/\s.Pairwise (λa b=>¬c (f b) (f a)<0)/\extRun K (MM K) (sfE k) [V.row 0,V.fn g []] [.row k (l.map enc)]=some (.top,[.sl k (s.map enc)]):=by
 obtain⟨s,h1,h2,h3⟩:=joP hc f enc k l hl;refine⟨s,h1,h2,?_⟩;have hq:jrG [V.row 0,V.fn g []] [.row k (l.map enc)]=some ((l.flatMap λx=>l.map λy=>(x,y)).map λq=>(g,[A.agg (enc q.1),A.agg (enc q.2)])):=by
  show some ((l.map enc).flatMap λx=>(l.map enc).map λy=>(g,[A.agg x,A.agg y]++[]))=_;congr 1;rw[List.flatMap_map,List.map_flatMap];refine congrArg (λh=>l.flatMap h) (funext λx=>?_);rw[YT,YT];rfl
 have ha:=jiv (λq:α×α=>(g,[A.agg (enc q.1),A.agg (enc q.2)])) (λq=>c (f q.1) (f q.2)) (l.flatMap λx=>l.map λy=>(x,y)) λq hq=>by
  obtain⟨x,hx,hq⟩:=List.mem_flatMap.1 hq;obtain⟨y,hy,rfl⟩:=yn.1 hq;exact⟨hp,h x hx y hy⟩
 have hc':((l.flatMap λx=>l.map λy=>(x,y)).map λq=>c (f q.1) (f q.2))=l.flatMap λx=>l.map λy=>c (f x) (f y):=by
  rw[List.map_flatMap];refine congrArg (λh=>l.flatMap h) (funext λx=>?_);rw[YT];rfl
 have ho:=jlO (λq:α×α=>c (f q.1) (f q.2)) (l.flatMap λx=>l.map λy=>(x,y));rw[hc']at ho;show(jrG [V.row 0,V.fn g []] [.row k (l.map enc)]).bind _=_;rw[hq,Option.bind_some,ha,Option.bind_some];show(if Nat.beq k k then(jgW _).bind λcs=>jka k (l.map enc) cs else none)=_;rw[Nat.beq_refl,jg rfl,ho];exact h3
open Go Go.RowKit Go.Proofs.YthlhadhipnokfaaGreatDoor.Abs
theorem jE2:∀d:Nat,d<10->Z1 (sv [48,49,50,51,52,53,54,55,56,57]) (some (vi (d:Nat))) (some (vi ((d+1:Nat):Int)))=some (sv [UInt8.ofNat (48+d)])
 |0,_=>rfl|1,_=>rfl|2,_=>rfl|3,_=>rfl|4,_=>rfl|5,_=>rfl|6,_=>rfl|7,_=>rfl|8,_=>rfl|9,_=>rfl
theorem jqp:∀n:Nat,n<=1000000->G 115 [vi (n:Nat)]=some (sv (Lib.decDigits n),[]):=by
 intro n;induction n using Nat.strongRecOn with
 |ind n ih=>
  intro hn;have h0:¬((n:Nat):Int)<0:=by omega
  rw[jJC];by_cases h:n<10
  .have h1:((n:Nat):Int)<10:=by omega
   have h2:ck ((n:Int)+1)=some (vi ((n+1:Nat):Int)):=jV (by omega) (by omega);have h3:=jE2 n h;rw[Jn h];simp only[je,h0,h1,h2,h3]
  .have h1:¬((n:Nat):Int)<10:=by omega
   have hq:jy .quo false (vi (n:Nat)) (vi 10)=some (vi ((n / 10:Nat):Int)):=by
    show ck (((n:Nat):Int).tdiv 10)=_;rw[Int.tdiv_eq_ediv_of_nonneg (by omega)];exact jV (by omega) (by omega)
   have hr:jy .rem false (vi (n:Nat)) (vi 10)=some (vi ((n % 10:Nat):Int)):=by
    show some (vi (((n:Nat):Int).tmod 10))=_;rw[Int.tmod_eq_emod_of_nonneg (by omega)];rfl
   have h2:ck (((n % 10:Nat):Int)+1)=some (vi ((n % 10+1:Nat):Int)):=jV (by omega) (by omega);have h3:=jE2 (n % 10) (by omega);have h4:=ih (n / 10) (by omega) (by omega);have hl:(Lib.decDigits (n / 10)).length + [UInt8.ofNat (48+n % 10)].length<=9223372036854775807:=by
    have:=(Kt 6 (n / 10) (by omega)).2;simp only[j8,zO];omega
   have h5:=QN false (Lib.decDigits (n / 10)) [UInt8.ofNat (48+n % 10)];rw[jg hl]at h5;rw[KN h];simp only[je,h0,h1,hq,hr,h2,h3,h4,h5]
theorem juW(n:Nat)(hn:n<=1000000):G 156 [vi (n:Nat)]=some (sv (Lib.decDigits n),[]):=by
 have:K.ext 156=some juV:=rfl;rw[jG1 this];show(if -9223372036854775808<=((n:Nat):Int)/\((n:Nat):Int)<=9223372036854775807 then some (sv (Lib.itoa (n:Nat)),[])else none)=_;rw[jg (by omega)];unfold Lib.itoa;rw[jh (by omega),Int.toNat_natCast]
def jbT:Nat->Xa->Bool
 |_,[]=>true
 |i,n::r=>decide (n=JR 88 i) && jbT (i+1) r
theorem jqP:∀(l:Xa)(i:Nat),jbT i l=decide (l=(List.range' i l.length).map (JR 88))
 | [],i=>by simp[jbT]
 |n::r,i=>by
  rw[jbT,jqP r,j8,List.range'_succ,kK,<-Bool.decide_and];simp only[KH]
theorem ji3(c:kj):Kv c=jbT 0 (kV c):=by
 rw[jqP,<-List.range_eq_range'];rfl
theorem jId(i:Nat)(h:i<=1000000):jy .add false (sv [88]) (sv (Lib.decDigits i))=some (sv (JR 88 i)):=by
 rw[QN,jg]
 .rfl
 .have:=(Kt 6 i (by omega)).2;simp only[j8,zO];omega
theorem jaP(c:kj)(h:CN c):G 127 [cm c]=some (vb (Kv c),[]):=by
 have hlen:=Jp h;have e0:=jjv c (by have:=h.1;omega) h.rx h.tz λl hl=>by have:=(h.2 l hl).2;omega
 rw[ji3,jJH];generalize kV c=ns at *;have key:=upto (P:=λi=>jmQ (strs ns) (vi (ns.length:Nat)) (vi (i:Nat))=some (vb (jbT i (ns.drop i)),[])) (n:=ns.length) ?_ ?_ 0 (Nat.zero_le _)
 .simp only[Int.natCast_zero,List.drop_zero]at key;simp only[je,e0,key]
 .rw [jzb,List.drop_length];simp only[je,jbT]
 .intro i hi ih;have hlt:(i:Int)<((ns.length:Nat):Int):=by omega
  have h5:=jo hi (by show ns.length<=9223372036854775807;omega)
  have e1:=juW i (by omega);have e2:=jId i (by omega);have ld:j9 (.elt (cs ns[i]) 0)=some (sv ns[i]):=rfl;rw[jzb,ji hi,jbT];by_cases hc:ns[i]=JR 88 i
  .rw [decide_eq_true hc,Bool.true_and,<-ih];simp only[je,hlt,ja hi,e1,e2,hc,h5]
  .rw [decide_eq_false hc,Bool.false_and];simp only[je,hlt,ja hi,ld,e1,e2,hc]
theorem Qt(c:kj)(h:CN c):G 92 [cm c]=some (vb (Kv c),[]):=by
 have hlen:=Jp h;have e0:=jjg c (by have:=h.1;omega) h.tz λl hl=>by have:=(h.2 l hl).2;omega
 rw[ji3,g92];generalize kV c=ns at *;have key:=upto (P:=λi=>jus (strs ns) (vi (i:Nat))=some (vb (jbT i (ns.drop i)),[])) (n:=ns.length) ?_ ?_ 0 (Nat.zero_le _)
 .simp only[Int.natCast_zero,List.drop_zero]at key;simp only[je,e0,key]
 .rw [jEM,List.drop_length];simp only[je,jbT]
 .intro i hi ih;have hlt:(i:Int)<((ns.length:Nat):Int):=by omega
  have h5:=jo hi (by show ns.length<=9223372036854775807;omega)
  have e1:=jqp i (by omega);have e2:=jId i (by omega);have ld:j9 (.elt (cs ns[i]) 0)=some (sv ns[i]):=rfl;rw[jEM,ji hi,jbT];by_cases hc:ns[i]=JR 88 i
  .rw [decide_eq_true hc,Bool.true_and,<-ih];simp only[je,hlt,ja hi,e1,e2,hc,h5]
  .rw [decide_eq_false hc,Bool.false_and];simp only[je,hlt,ja hi,ld,e1,e2,hc]
theorem yl(c:kj)(hl:c.length<=1048576)(hz:∀l∈c,Tz l.2):G 105 [cm c]=some (vb (jJ c),[]):=by
 have e1:=QJ c hl hz;unfold jJ;rw[jJu];cases hv:qp c<;>rw[hv]at e1
 .simp only[je,e1,Bool.false_and]
 .have e2:=jaP c (JF hv).1;simp only[je,e1,e2,Bool.true_and]
theorem qa(c:kj)(hl:c.length<=1048576)(hz:∀l∈c,Tz l.2):G 65 [cm c]=some (vb (jJ c),[]):=by
 have e1:=jcw c hl hz;unfold jJ;rw[g65];cases hv:qp c<;>rw[hv]at e1
 .simp only[je,e1,Bool.false_and]
 .have e2:=Qt c (JF hv).1;simp only[je,e1,e2,Bool.true_and]
abbrev Nm':=List (Xb×Xb)
abbrev kn(p:Xb×Xb):Xd:=[sv p.1,sv p.2]
def yq:Nm'->Xb->Option Xb
 | [],_=>none
 |p::m,n=>if p.1=n then some p.2 else yq m n
theorem jtl(n:Xb):∀(m:Nm')(k:Nat),∃j,Ze none (sv n) (m.map kn) k=some ((yq m n).map λr=>(j,sv r))
 | [],k=>⟨0,rfl⟩
 |p::m,k=>by
  rw[kK,yq,Ze,jyD];by_cases h:p.1=n
  .rw [jg h,decide_eq_true h.symm];exact⟨k,rfl⟩
  .rw [jh h,decide_eq_false (λe=>h e.symm)];exact jtl n m (k+1)
theorem jGu(m:Nm')(n:Xb):KF none true true [sv []] (.mp (m.map kn)) (sv n)=some (match yq m n with|some r=>.tup [sv r,vb true]|none=>.tup [sv [],vb false]):=by
 show((some (m.map kn)).bind λxs=>(Ze none (sv n) xs 0).map (jvg true true [sv []]))=_;obtain⟨j,h⟩:=jtl n m 0;rw[Option.bind_some,h];cases yq m n<;>rfl
theorem jET{m:Nm'}{n:Xb}(h:yq m n=none)(r:Xb):jkT none (m.map kn) (sv n) (sv r)=some ((m++[(n,r)]).map kn):=by
 obtain⟨j,h2⟩:=jtl n m 0;show(Ze none (sv n) (m.map kn) 0).map _=_;rw[h2,h,List.map_append];rfl
theorem jf4:∀(m:Nm')(p:Xb×Xb)(n:Xb),yq (m++[p]) n=(match yq m n with|some r=>some r|none=>if p.1=n then some p.2 else none)
 | [],p,n=>rfl
 |q::m,p,n=>by
  rw[Zp,yq,yq,jf4 m p n];by_cases h:q.1=n
  .rw [jg h,jg h]
  .rw [jh h,jh h]
def KG(p:UInt8):Nat->Xa->Nm'
 |_,[]=>[]
 |i,n::r=>(n,JR p i)::KG p (i+1) r
theorem jjm(p:UInt8)(n:Xb):∀(ns:Xa)(k:Nat),yq (KG p k ns) n=(ns.findIdx? λx=>decide (x=n)).map λi=>JR p (k+i)
 | [],k=>rfl
 |x::ns,k=>by
  rw[KG,yq,List.findIdx?_cons];by_cases h:x=n
  .rw [jg h,jg (decide_eq_true h)];rfl
  .rw [jh h,jh (by simp[h]),jjm p n ns (k+1),Option.map_map];refine congrArg (λf=>Option.map f _) (funext λi=>?_);show JR p (k+1+i)=JR p (k+(i+1));rw[show k+1+i=k+(i+1) by omega]
theorem jsJ(p:UInt8)(ns:Xa):(λn=>(yq (KG p 0 ns) n).getD n)=zk p ns:=by
 funext n;rw[jjm];unfold zk;cases ns.findIdx? (λx=>decide (x=n))with
 |none=>rfl
 |some i=>show JR p (0+i)=_;rw[yd]
theorem jq6{p:UInt8} :∀{ns:Xa}{k:Nat},(∀n∈ns,js n=true)-> ∀q∈KG p k ns,js q.1=true
 | [],k,_,q,h=>by cases h
 |x::ns,k,hv,q,h=>by
  rw[KG]at h;rcases jK.1 h with e|e
  .rw [e];exact hv x (by simp)
  .exact jq6 (λn hn=>hv n (by simp[hn])) q e
theorem jGm(p:UInt8)(i:Nat)(h:i<=1000000):jy .add false (sv [p]) (sv (Lib.decDigits i))=some (sv (JR p i)):=by
 rw[QN,jg]
 .rfl
 .have:=(Kt 6 i (by omega)).2;simp only[j8,zO];omega
theorem jrq(p:UInt8)(ns:Xa)(hn:ns.Nodup)(hl:ns.length<=1000):G 246 [strs ns,sv [p]]=some (.mp ((KG p 0 ns).map kn),[]):=by
 have key:=upto (P:=λi=>∀m:Nm',(∀n∈ns.drop i,yq m n=none)->jnn (sv [p]) (strs ns) (vi (ns.length:Nat)) (vi (i:Nat)) (m.map kn)=some (.mp ((m++KG p i (ns.drop i)).map kn),[])) (n:=ns.length) ?_ ?_ 0 (Nat.zero_le _) [] (λn _=>rfl)
 .rw [List.drop_zero]at key;simp only[Int.natCast_zero,List.map_nil,yF]at key;rw[jK5];simp only[je,key]
 .intro m _;rw[jzV,List.drop_length,KG,zm];simp only[je]
 .intro i hi ih m hm;have hlt:(i:Int)<((ns.length:Nat):Int):=by omega
  have h5:=jo hi (by show ns.length<=9223372036854775807;omega)
  have e1:=juW i (by omega);have e2:=jGm p i (by omega);have ld:j9 (.elt (cs ns[i]) 0)=some (sv ns[i]):=rfl;have hd:(ns.drop i).Nodup:=hn.sublist (List.drop_sublist i ns);rw[ji hi]at hm hd⊢;have pt:=jET (hm ns[i] (List.mem_cons_self ..)) (JR p i);have ih:=ih (m++[(ns[i],JR p i)]) λn hn'=>by
   rw[jf4,hm n (List.mem_cons_of_mem _ hn')];show(if ns[i]=n then _ else none)=none;rw[jh];rintro e;exact(jdl.1 hd).1 (e ▸ hn')
  rw[ze]at ih;rw[jzV,KG];simp only[je,hlt,ja hi,ld,e1,e2,pt,h5,ih];rfl
theorem jwn{m:Nm'}(hm:∀p∈m,js p.1=true){n:Xb}(h:js n=false):yq m n=none:=by
 induction m with
 |nil=>rfl
 |cons p m ih=>
  rw[yq,jh,ih λq hq=>hm q (by simp[hq])];intro e;rw[<-e,hm p (by simp)]at h;cases h
theorem jtG(m:Nm')(hm:∀p∈m,js p.1=true):∀t:T,Rx' t->Tz t->G 271 [tm t,.mp (m.map kn)]=some (tm (kZ (λn=>(yq m n).getD n) t),[]):=by
 refine T.ind λt ih hk ht=>?_;have hz:=ht;unfold Tz at hz;rw[kH]at hz;have e0:=jGu m t.name;rw[jLo,Qc];cases hv:js t.name with
 |true=>
  have ha:=hk.va hv;rw[jg rfl];obtain⟨n,us⟩:=t;have ha:us=[]:=ha;subst ha;have lp:∀x:Xb,jfN (.mp (m.map kn)) (.sl 2 []) (vi 0) (vi 0) (sv []) (sv x) [] []=some (.agg [sv x,.sl 2 []],[]):=λx=>by
   rw[jtc];simp only[je]
  have e0:KF none true true [sv []] (.mp (m.map kn)) (sv n)=some (match yq m n with|some r=>.tup [sv r,vb true]|none=>.tup [sv [],vb false]):=e0;show Option.bind (jgc 2 (.agg [sv n,.sl 2 []])) _=some (A.agg [sv ((yq m n).getD n),.sl 2 []],[]);cases hl:yq m n with
  |none=>
   rw[hl]at e0;have lp:=lp n;simp only[je,e0,lp,Option.getD_none,Int.natCast_zero]
  |some r=>
   rw[hl]at e0;have lp:=lp r;simp only[je,e0,lp,Option.getD_some,Int.natCast_zero]
 |false=>
  rw[jwn hm hv]at e0;rw[jh Bool.false_ne_true];have key:=(upto (P:=λi=>jfN (.mp (m.map kn)) (jG t.args) (vi (t.args.length:Nat)) (vi i) (sv []) (sv t.name) [] (((t.args.map (kZ λn=>(yq m n).getD n)).take i).map jm)=some (tm (.mk t.name (t.args.map (kZ λn=>(yq m n).getD n))),[])) (n:=t.args.length) ?_ ?_ 0 (Nat.zero_le _))
  .simp only[Int.natCast_zero,List.take_zero,List.map_nil]at key;simp only[je,e0,key]
  .rw [jtc,yN (by rw[List.length_map];omega)]
   simp only[je];rfl
  .intro i hi ih';have hlt:(i:Int)<((t.args.length:Nat):Int):=by omega
   have h5:=jo hi (by show t.args.length<=9223372036854775807;omega)
   have e2:=ih t.args[i] (jr _) (hk.args _ (jr _)) (ht.args _ (jr _));have hf:jM (i+1) 40=true:=jq0 (by omega);have hi2:i<(t.args.map (kZ λn=>(yq m n).getD n)).length:=by rw[List.length_map];exact hi
   have hl:(((t.args.map (kZ λn=>(yq m n).getD n)).take i).map jm).length=i:=by rw[List.length_map,List.length_take,List.length_map];omega
   have ha:jR (((t.args.map (kZ λn=>(yq m n).getD n)).take i).map jm) [[sv (kZ (λn=>(yq m n).getD n) t.args[i]).name,jG (kZ (λn=>(yq m n).getD n) t.args[i]).args]]=((t.args.map (kZ λn=>(yq m n).getD n)).take (i+1)).map jm:=by
    rw[show[sv (kZ (λn=>(yq m n).getD n) t.args[i]).name,jG (kZ (λn=>(yq m n).getD n) t.args[i]).args]=jm (kZ (λn=>(yq m n).getD n) t.args[i]) from(kU _).symm,List.take_add_one,j7 hi2,List.map_append,List.getElem_map];rfl
   generalize ((t.args.map (kZ λn=>(yq m n).getD n)).take i).map jm=R at *;generalize kZ (λn=>(yq m n).getD n) t.args[i]=u at *;rw[jtc];simp only[je,hlt,ja hi,jd,e2,hl,hf,ha,h5,ih']
theorem jrp(p:UInt8)(ns:Xa)(hv:∀n∈ns,js n=true)(t:T)(hk:Rx' t)(ht:Tz t):G 271 [tm t,.mp ((KG p 0 ns).map kn)]=some (tm (kZ (zk p ns) t),[]):=by
 rw[jtG _ (jq6 hv) t hk ht,jsJ]
theorem jqz(p:UInt8)(ns:Xa)(hn:ns.length<=1000):∀t:T,Tz t->G 247 [tm t,strs ns,sv [p]]=some (tm (kZ (zk p ns) t),[]):=by
 refine T.ind λt ih ht=>?_;have hz:=ht;unfold Tz at hz;rw[kH]at hz;have e0:=zL t.name (((kE t).1 ht.wf).1);rw[jK6,Qc];cases hv:js t.name<;>rw[hv]at e0
 .rw [jh Bool.false_ne_true];have key:=(upto (P:=λi=>jnp (strs ns) (sv [p]) (vi i) (sv t.name) (jG t.args) (sv []) (sv t.name) [] (((t.args.map (kZ (zk p ns))).take i).map jm)=some (tm (.mk t.name (t.args.map (kZ (zk p ns)))),[])) (n:=t.args.length) ?_ ?_ 0 (Nat.zero_le _))
  .simp only[Int.natCast_zero,List.take_zero,List.map_nil]at key;simp only[je,e0,key]
  .rw [jzX,yN (by rw[List.length_map];omega)]
   simp only[je];rfl
  .intro i hi ih';have hlt:(i:Int)<((t.args.length:Nat):Int):=by omega
   have h5:=jo hi (by show t.args.length<=9223372036854775807;omega)
   have e2:=ih t.args[i] (jr _) (ht.args _ (jr _));have hf:jM (i+1) 40=true:=jq0 (by omega);have hi2:i<(t.args.map (kZ (zk p ns))).length:=by rw[List.length_map];exact hi
   have hl:(((t.args.map (kZ (zk p ns))).take i).map jm).length=i:=by rw[List.length_map,List.length_take,List.length_map];omega
   have ha:jR (((t.args.map (kZ (zk p ns))).take i).map jm) [[sv (kZ (zk p ns) t.args[i]).name,jG (kZ (zk p ns) t.args[i]).args]]=((t.args.map (kZ (zk p ns))).take (i+1)).map jm:=by
    rw[show[sv (kZ (zk p ns) t.args[i]).name,jG (kZ (zk p ns) t.args[i]).args]=jm (kZ (zk p ns) t.args[i]) from(kU _).symm,List.take_add_one,j7 hi2,List.map_append,List.getElem_map];rfl
   generalize ((t.args.map (kZ (zk p ns))).take i).map jm=R at *;generalize kZ (zk p ns) t.args[i]=u at *;rw[jzX];simp only[je,hlt,ja hi,jd,e2,hl,hf,ha,h5,ih']
 .rw [jg rfl];have key:=(upto (P:=λi=>(∀j,(h:j<i)-> ∀h':j<ns.length,ns[j]≠t.name)->jno (strs ns) (sv [p]) (vi i) (sv t.name) (jG t.args) (sv []) []=some (tm (.mk (zk p ns t.name) []),[])) (n:=ns.length) ?_ ?_ 0 (Nat.zero_le _)) (λj h=>by omega)
  .simp only[Int.natCast_zero]at key;simp only[je,e0,key]
  .intro hall;have:zk p ns t.name=t.name:=by
    unfold zk;have:ns.findIdx? (λx=>decide (x=t.name))=none:=by
     rw[List.findIdx?_eq_none_iff];intro x hx;obtain⟨j,hj,rfl⟩:=List.mem_iff_getElem.1 hx;simpa using hall j hj hj
    rw[this]
   rw[jzW,this];simp only[je];rfl
  .intro i hi ih' hall;have hlt:(i:Int)<((ns.length:Nat):Int):=by omega
   have h5:=jo hi (by show ns.length<=9223372036854775807;omega)
   have ld:j9 (.elt (cs ns[i]) 0)=some (sv ns[i]):=rfl;rw[jzW];by_cases he:ns[i]=t.name
   .have e1:=jqp i (by omega);have e2:=jGm p i (by omega);have:zk p ns t.name=JR p i:=by
     unfold zk;have:ns.findIdx? (λx=>decide (x=t.name))=some i:=by
      rw[List.findIdx?_eq_some_iff_getElem];exact⟨hi,by simp[he],λj hj=>by simpa using hall j hj (by omega)⟩
     rw[this]
    rw[this];simp only[je,hlt,ja hi,he,e1,e2];rfl
   .have ih':=ih' λj hj hj'=>by
     by_cases h:j=i
     .subst h;exact he
     .exact hall j (by omega) hj'
    simp only[je,hlt,ja hi,ld,he,h5,ih']
theorem QO{n:Nat}(h:n<=1000000):jM n 48=true:=by
 unfold jM;exact decide_eq_true ⟨by omega,by omega⟩
theorem QU{α:Type}{f:α->Xd}{xs:List α}{i:Nat}(h:i<xs.length):jR ((xs.take i).map f) [f xs[i]]=(xs.take (i+1)).map f:=by
 rw[List.take_add_one,j7 h,List.map_append];rfl
theorem take_len{α:Type}{f:α->Xd}{xs:List α}{i:Nat}(h:i<=xs.length):((xs.take i).map f).length=i:=by rw[List.length_map,List.length_take];omega
noncomputable def eqL(a b:Lt):Bool:=decide (a.1=b.1) && dq a.2 b.2
theorem jan(a b:Lt):eqL a b=true↔a=b:=by
 obtain⟨p,t⟩:=a;obtain⟨q,u⟩:=b;unfold eqL;rw[jI,ky,y7,Jd]
theorem YK(a b:Lt)(ha:Tz a.2)(hb:Tz b.2):G 137 [ltm a,ltm b]=some (vb (eqL a b),[]):=by
 have e1:=yi a.2 ha.wf b.2 hb.wf;unfold eqL;rw[jJL];by_cases h:a.1=b.1
 .rw [decide_eq_true h,Bool.true_and];simp only[je,h,e1]
 .rw [decide_eq_false h,Bool.false_and];simp only[je,h]
theorem jbz(l:Lt)(h:Tz l.2):G 110 [ltm l]=some (ltm l,[]):=by
 have e1:=Jm l.2 h;rw[jJy];simp only[je,e1];generalize hB:zH _ _ _=B;have hB':B=some (ltm l):=by rw[<-hB];kernel_rfl
 rw[hB'];simp only[je]
noncomputable def cpG:Lt->List Lt->List Lt
 |_,[]=>[]
 |p,b::l=>if eqL b p then cpG b l else b::cpG b l
theorem jpG:∀(l:List Lt)(a:Lt),jeB eqL (a::l)=a::cpG a l
 | [],a=>rfl
 |b::l,a=>by
  rw[jeB,jpG l b,cpG];show(if eqL a b then b::cpG b l else a::b::cpG b l)=_;by_cases h:a=b
  .subst h;rw[jg ((jan a a).2 rfl),jg ((jan a a).2 rfl)]
  .rw [jh (λe=>h ((jan a b).1 e)),jh (λe=>h ((jan b a).1 e).symm)]
theorem jIy{α:Type}{f:α->Xd}{xs:List α}{i:Nat}(h:i<xs.length)(n:Nat):ZJ (xs.map f) i 0 n=some (.agg ((f xs[i]).take n)):=by unfold ZJ;simp[h]
theorem jru{xs:List Lt}{i:Nat}(h:i<xs.length):ZJ (xs.map jN) i 0 3=some (ltm xs[i]):=jIy h 3
theorem jIl{α:Type}{f:α->Xd}{xs:List α}{i:Nat}(h:i<xs.length):Zt (jv (xs.map f)) (vi (i:Nat))=some i:=by
 rw[jjT,List.length_map];exact zg h
theorem jiL{α:Type}{R s:List α}{k i:Nat}(h:R.drop k=s.drop k)(hk:k<=i)(hi:i<R.length)(hs:i<s.length):R[i]=s[i]:=by
 have:=congrArg (λl=>l[i-k]?) h;simp only[jcn,show k+(i-k)=i by omega,j7 hi,j7 hs]at this;exact jaZ this
theorem jyo(s:List Lt)(hl:s.length<=1000000)(hz:∀x∈s,Tz x.2)(k:Nat)(hk:k<s.length):∀j,j<=s.length-k->1<=j-> ∀(w:Nat)(R:List Lt),R.length=s.length->R.drop (k+j-1)=s.drop (k+j-1)->w+1<=k+j-> ∀p:Lt,(∃h:k+j-1<s.length,s[k+j-1]=p)->
  jbp (vi (w:Nat)) (nA k) (nA (s.length-k)) (vi (j:Nat)) (R.map jN)=some (.top,[.sl 3 ((R.take w++cpG p (s.drop (k+j))).map jN)]):=by
 refine upto ?_ ?_
 .intro _ w R hR hag hw p hp;have hd:s.drop (k+(s.length-k))=[]:=List.drop_eq_nil_of_le (by omega);have hlt:¬((s.length-k:Nat):Int)<((s.length-k:Nat):Int):=by omega
  have hlt':jy .lss false (vi ((s.length-k:Nat):Int)) (nA (s.length-k))=some (vb false):=by
   show some (vb (decide _))=_;rw[decide_eq_false hlt]
  have b1:pB (zX (R.map jN)) (zj (R.map jN) 0) none=some R.length:=by
   rw[yf,show zj (R.map jN) 0=R.length by rw[yu,List.length_map];rfl];exact zn (j4 _)
  have b2:pB 0 R.length (some (vi (w:Nat)))=some w:=yW (by omega);have ln:(yt (R.map jN) (0+w) (yH (kz R.length w) [vb false,sv [],.sl 2 []])).length=R.length:=by
   rw[YE];simp[yH,yV];omega
  have b3:pB (zX (yt (R.map jN) (0+w) (yH (kz R.length w) [vb false,sv [],.sl 2 []]))) (zj (yt (R.map jN) (0+w) (yH (kz R.length w) [vb false,sv [],.sl 2 []])) 0) (some (vi (w:Nat)))=some w:=by
   rw[joD,yu,ln];exact yW (by omega)
  have tk:List.take (kz w 0) (yt (R.map jN) (0+w) (yH (kz R.length w) [vb false,sv [],.sl 2 []]))=(R.take w).map jN:=by
   rw[YE,yV,Nat.sub_zero,yd,ze,jfx (by rw[List.length_take,List.length_map];omega),List.take_take,Nat.min_self,List.map_take]
  have h1:zq (nA (s.length-k))=s.length-k:=rfl;rw[jqu];simp only[cev];rw[hd,cpG,zm,h1,hlt'];simp only[Option.bind_some,Yu,Z9,b1,b2,b3,tk]
 .intro j hj ih hj1 w R hR hag hw p hp;obtain⟨hp1,hp2⟩:=hp;have hi:k+j<s.length:=by omega
  have hlt':jy .lss false (vi ((j:Nat):Int)) (nA (s.length-k))=some (vb true):=by
   show some (vb (decide (((j:Nat):Int)<((s.length-k:Nat):Int))))=_;rw[decide_eq_true (by omega)]
  have h1:zq (nA (s.length-k))=s.length-k:=rfl;have h2:zq (nA k)=k:=rfl;have x1:Zt (s.length-k) (vi ((j:Nat):Int))=some j:=zg hj;have c1:jy .sub false (vi ((j:Nat):Int)) (vi 1)=some (vi ((j-1:Nat):Int)):=by
   rw[jqY,show((j:Nat):Int)-1=((j-1:Nat):Int) by omega];exact jV (by omega) (by omega)
  have x2:Zt (s.length-k) (vi ((j-1:Nat):Int))=some (j-1):=zg (by omega);have a1:R[k+j]'(by omega)=s[k+j]:=jiL hag (by omega) (by omega) hi;have a2:R[k+(j-1)]'(by omega)=p:=by
   rw[<-hp2];have:=jiL hag (i:=k+(j-1)) (by omega) (by omega) (by omega);rw[this];congr 1;omega
  have r1:ZJ (R.map jN) (k+j) 0 3=some (ltm s[k+j]):=by rw[jru (by omega),a1]
  have r2:ZJ (R.map jN) (k+(j-1)) 0 3=some (ltm p):=by rw[jru (by omega),a2]
  have zp:Tz p.2:=by rw[<-hp2];exact hz _ (jr _)
  have e1:=YK s[k+j] p (hz _ (jr _)) zp;have h5:jy .add false (vi ((j:Nat):Int)) (vi 1)=some (vi ((j+1:Nat):Int)):=jo (i:=j) (n:=j+1) (by omega) (by omega);have hdr:s.drop (k+j)=s[k+j]::s.drop (k+(j+1)):=ji hi;have hag':R.drop (k+(j+1)-1)=s.drop (k+(j+1)-1):=by
   have:=congrArg (List.drop 1) hag;rw[List.drop_drop,List.drop_drop]at this;rwa[show k+j-1+1=k+(j+1)-1 by omega]at this
  have hx:∃h:k+(j+1)-1<s.length,s[k+(j+1)-1]=s[k+j]:=⟨by omega,by congr 1⟩;rw[jqu];simp only[cev];rw[hdr,cpG,h1,h2,hlt'];cases hq:eqL s[k+j] p<;>rw[hq]at e1
  .rw [jh Bool.false_ne_true];have x3:Zt R.length (vi (w:Nat))=some w:=zg (by omega);have rg:YD (R.map jN) w=some (jN (R[w]'(by omega))):=by unfold YD;simp[show w<R.length by omega]
   have co:∀x y:Lt,jS (jN x) 0 [vb y.1,sv y.2.name,jG y.2.args]=jN y:=λx y=>rfl;have rs:kX (R.map jN) w (jN s[k+j])=(R.set w s[k+j]).map jN:=by unfold kX;rw[List.map_set]
   have h6:jy .add false (vi ((w:Nat):Int)) (vi 1)=some (vi ((w+1:Nat):Int)):=jo (i:=w) (n:=w+1) (by omega) (by omega);have:=ih (by omega) (w+1) (R.set w s[k+j]) (by rw[ja0];exact hR) (by rw[List.drop_set_of_lt (by omega)];exact hag') (by omega) s[k+j] hx;have tk:(R.set w s[k+j]).take (w+1)=R.take w++[s[k+j]]:=by
    rw[List.take_add_one,List.take_set_of_le (j4 _),List.getElem?_set_self (by omega)];rfl
   rw[tk,ze]at this;simp only[je,x1,r1,c1,x2,r2,e1,x3,rg,co,rs,h6,h5];rw[this];rfl
  .rw [jg rfl];have:=ih (by omega) w R hR hag' (by omega) s[k+j] hx;simp only[je,x1,r1,c1,x2,r2,e1,h5];exact this
theorem jyn(s:List Lt)(hl:s.length<=1000000)(hz:∀x∈s,Tz x.2):∀k,k<=s.length->1<=k-> ∀p:Lt,(∃h:k-1<s.length,s[k-1]=p)->jef (vi (k:Nat)) (s.map jN)=some (.top,[.sl 3 ((s.take k++cpG p (s.drop k)).map jN)]):=by
 refine upto ?_ ?_
 .intro _ p _;rw[jqt,List.drop_length,cpG,zm,List.take_length];simp only[je]
 .intro k hk ih hk1 p hp;obtain⟨hp1,hp2⟩:=hp;have hlt:((k:Nat):Int)<((s.length:Nat):Int):=by omega
  have x1:Zt (jv (s.map jN)) (vi (k:Nat))=some k:=jIl hk;have c1:ck (((k:Nat):Int)-1)=some (vi ((k-1:Nat):Int)):=by
   rw[show((k:Nat):Int)-1=((k-1:Nat):Int) by omega];exact jV (by omega) (by omega)
  have x2:Zt (jv (s.map jN)) (vi ((k-1:Nat):Int))=some (k-1):=jIl hp1;have r1:=jru hk;have r2:ZJ (s.map jN) (k-1) 0 3=some (ltm p):=by rw[jru hp1,hp2]
  have zp:Tz p.2:=by rw[<-hp2];exact hz _ (jr _)
  have e1:=YK s[k] p (hz _ (jr _)) zp;have h5:=jo hk (by show s.length<=9223372036854775807;omega);rw[jqt,ji hk,cpG];rw[jjT,List.length_map]at x1 x2;cases hq:eqL s[k] p<;>rw[hq]at e1
  .have ih:=ih (by omega) s[k] ⟨by omega,by congr 1⟩;rw[List.take_add_one,j7 hk,ze]at ih;rw[jh Bool.false_ne_true];simp only[je,hlt,x1,r1,c1,x2,r2,e1,h5];exact ih
  .have b1:pB (zX (s.map jN)) (zj (s.map jN) 0) none=some s.length:=by
    rw[yf,show zj (s.map jN) 0=s.length by rw[yu,List.length_map];rfl];exact zn (j4 _)
   have b2:pB 0 s.length (some (vi (k:Nat)))=some k:=yW (by omega);have:=jyo s hl hz k hk 1 (by omega) (j4 _) k s rfl rfl (j4 _) s[k] ⟨by omega,rfl⟩;rw[jg rfl];simp only[je,hlt,x1,r1,c1,x2,r2,e1,b1,b2,yV];exact this
theorem jsP(s:List Lt)(hl:s.length<=1000000)(hz:∀x∈s,Tz x.2):jss (s.map jN)=some (.top,[.sl 3 ((jeB eqL s).map jN)]):=by
 rw[jFH]
 match s,hl,hz with
 | [],_,_=>simp only[je];rfl
 | [a],_,_=>simp only[je];rfl
 |a::b::r,hl,hz=>
  have:=jyn (a::b::r) hl hz 1 (by simp) (j4 _) a ⟨by simp,rfl⟩;rw[jpG];have hlt:¬(((a::b::r).length:Nat):Int)<2:=by simp only[j8];omega
  generalize hx:a::b::r=x at *;simp only[je,hlt];rw[<-hx]at this⊢;exact this
theorem jw7(l:List Lt)(hl:l.length<=1000000)(hk:∀x∈l,Rx' x.2)(hz:∀x∈l,Tz x.2):∃s:List Lt,s.Perm l/\s.Pairwise (λa b=>¬cmpL b a<0)/\jsr (l.map jN)=some (.top,[.sl 3 (s.map jN)]):=by
 obtain⟨s,h1,h2,h3⟩:=jpN Kr id jN 3 154 rfl l (by omega) λx hx y hy=>Yl x y (hk x hx) (hz x hx) (hk y hy) (hz y hy);exact⟨s,h1,h2,by rw[jFG];exact h3⟩
theorem jgC(l:List Lt)(hl:l.length<=1000000)(hk:∀x∈l,Rx' x.2)(hz:∀x∈l,Tz x.2):G 245 [.sl 3 (l.map jN)]=some (cm (yR cmpL l),[]):=by
 obtain⟨s,h1,h2,h3⟩:=jw7 l hl hk hz;have h4:=jsP s (by rw[h1.length_eq];exact hl) λx hx=>hz x (h1.mem_iff.1 hx);rw[jDh Kr jan h2 λx=>h1.mem_iff]at h4;have key:=upto (P:=λi=>jnm (.sl 3 (l.map jN)) (vi (l.length:Nat)) (vi (i:Nat)) [] ((l.take i).map jN)=some (cm (yR cmpL l),[])) (n:=l.length) ?_ ?_ 0 (Nat.zero_le _)
 .simp only[Int.natCast_zero,List.take_zero,List.map_nil]at key;rw[jK4];simp only[je,key]
 .have r1:∀s:List Lt,hR 3 (A.top,[.sl 3 (s.map jN)]) 0=some (s.map jN):=λs=>rfl;rw[jzU,List.take_length];simp only[je,h3,r1,h4]
 .intro i hi ih;have hlt:(i:Int)<((l.length:Nat):Int):=by omega
  have h5:=jo hi (by show l.length<=9223372036854775807;omega)
  have e1:=jbz l[i] (hz _ (jr _));have ta:=QU (f:=jN) hi;have tl:=take_len (f:=jN) (Nat.le_of_lt hi);have hf:jM (i+1) 48=true:=QO (by omega);generalize (l.take i).map jN=R at *;rw[jzU];simp only[je,hlt,ja hi,kR,e1,tl,hf,ta,h5,ih]
theorem jkI(l:kj)(hl:l.length<=1000000)(hz:∀x∈l,Tz x.2):G 87 [cm l]=some (cm l,[]):=by
 have key:=upto (P:=λi=>juq (.sl 3 (l.map jN)) (vi (l.length:Nat)) (vi (i:Nat)) [] ((l.take i).map jN)=some (cm l,[])) (n:=l.length) ?_ ?_ 0 (Nat.zero_le _)
 .simp only[Int.natCast_zero,List.take_zero,List.map_nil]at key;rw[g87];simp only[je,key]
 .rw [jEK,List.take_length];simp only[je]
 .intro i hi ih;have hlt:(i:Int)<((l.length:Nat):Int):=by omega
  have h5:=jo hi (by show l.length<=9223372036854775807;omega)
  have e1:=jbz l[i] (hz _ (jr _));have ta:=QU (f:=jN) hi;have tl:=take_len (f:=jN) (Nat.le_of_lt hi);have hf:jM (i+1) 48=true:=QO (by omega);generalize (l.take i).map jN=R at *;rw[jEK];simp only[je,hlt,ja hi,kR,e1,tl,hf,ta,h5,ih]
theorem jp3(c:kj)(hl:c.length<=1048576)(hz:∀l∈c,Tz l.2):G 244 [cm c]=J6 (if qp c then some c else none):=by
 have e1:=QJ c hl hz;rw[jK3];cases hv:qp c<;>rw[hv]at e1
 .rw [jh Bool.false_ne_true];simp only[je,e1];rfl
 .rw [jg rfl];simp only[je,e1];rfl
noncomputable def sameC(a b:kj):Bool:=dq a b
theorem jyE(a b:Lt):dq a b=eqL a b:=by
 cases h:eqL a b with
 |true=>exact y7.2 ((jan a b).1 h)
 |false=>exact jiK.2 λe=>by rw[(jan a b).2 e]at h;cases h
theorem jdi(a b:kj)(hl:a.length<=1048576)(ha:∀l∈a,Tz l.2)(hb:∀l∈b,Tz l.2):G 109 [cm a,cm b]=some (vb (dq a b),[]):=by
 rw[jJx];have key:G 136 [.sl 3 (a.map jN),.sl 3 (b.map jN),.fn 137 []]=some (vb (dq a b),[]):=by
  rw[jJK];by_cases hlen:a.length=b.length
  .have key:=upto (P:=λi=>jmS (.sl 3 (b.map jN)) (.fn 137 []) (.sl 3 (a.map jN)) (vi (a.length:Nat)) (vi (i:Nat))=some (vb (dq (a.drop i) (b.drop i)),[])) (n:=a.length) ?_ ?_ 0 (Nat.zero_le _)
   .simp only[Int.natCast_zero,List.drop_zero]at key;rw[hlen]at key;simp only[je,hlen,key]
   .rw [jzf,List.drop_length,List.drop_eq_nil_of_le (by omega),jct];simp only[je]
   .intro i hi ih;have hi2:i<b.length:=by omega
    have hlt:(i:Int)<((a.length:Nat):Int):=by omega
    have h5:=jo hi (by show a.length<=9223372036854775807;omega)
    have e1:=YK a[i] b[i] (ha _ (jr _)) (hb _ (jr _));have hp:K.pureF 137=true:=rfl;have cc:DX.run K (MM K) (.callc (.fn 137 []) [ltm a[i],ltm b[i]] false)=some (vb (eqL a[i] b[i])):=by
     rw[qx hp,zm,e1];rfl
    rw[jzf,ji hi,ji hi2,jhE,jyE];cases hq:eqL a[i] b[i]<;>rw[hq]at cc
    .rw [Bool.false_and];simp only[je,hlt,ja hi,ja hi2,kR,cc]
    .rw [Bool.true_and];simp only[je,hlt,ja hi,ja hi2,kR,cc,h5,ih]
  .have hne:¬((a.length:Nat):Int)=((b.length:Nat):Int):=by omega
   rw[jnW hlen];simp only[je,hne]
 simp only[je,key]
theorem jlE(a b:kj)(hl:a.length<=1048576)(ha:∀l∈a,Tz l.2)(hb:∀l∈b,Tz l.2):G 94 [cm a,cm b]=some (vb (dq a b),[]):=by
 rw[g94];by_cases hlen:a.length=b.length
 .have key:=upto (P:=λi=>jut (vi (i:Nat)) (.sl 3 (a.map jN)) (.sl 3 (b.map jN))=some (vb (dq (a.drop i) (b.drop i)),[])) (n:=a.length) ?_ ?_ 0 (Nat.zero_le _)
  .simp only[Int.natCast_zero,List.drop_zero]at key;simp only[je,hlen,key]
  .rw [jEN,List.drop_length,List.drop_eq_nil_of_le (by omega),jct];simp only[je]
  .intro i hi ih;have hi2:i<b.length:=by omega
   have hlt:(i:Int)<((a.length:Nat):Int):=by omega
   have h5:=jo hi (by show a.length<=9223372036854775807;omega)
   have e1:=Kd a[i].2 (ha _ (jr _)).wf b[i].2 (hb _ (jr _)).wf;have ld:∀l:Lt,j9 (.elt (jN l) 0)=some (vb l.1):=λl=>rfl;have ad:∀(l:Lt)(n:Nat),qe (.elt (jN l) 0) n=some (.elt (jN l) n):=λl n=>by rw[qA,yd]
   have ld2:∀l:Lt,kC 2 (.elt (jN l) 1)=some (tm l.2):=λl=>rfl;rw[jEN,ji hi,ji hi2,jhE,jyE,eqL];by_cases hs:a[i].1=b[i].1
   .rw [decide_eq_true hs,Bool.true_and];cases hq:dq a[i].2 b[i].2<;>rw[hq]at e1
    .rw [Bool.false_and];simp only[je,hlt,ja hi,ja hi2,ad,ld,ld2,hs,e1]
    .rw [Bool.true_and];simp only[je,hlt,ja hi,ja hi2,ad,ld,ld2,hs,e1,h5,ih]
   .rw [decide_eq_false hs,Bool.false_and,Bool.false_and];simp only[je,hlt,ja hi,ja hi2,ad,ld,hs]
 .have hne:¬((a.length:Nat):Int)=((b.length:Nat):Int):=by omega
  rw[jnW hlen];simp only[je,hne]
theorem jE3{α:Type}{p:α->Bool}{l:List α}{k:Nat}(hk:k<=l.length)(h1:∀j,(h:j<k)-> ∀h':j<l.length,p l[j]=true)(h2:(∃h:k<l.length,p l[k]=false)\/k=l.length):l.takeWhile p=l.take k/\l.dropWhile p=l.drop k:=by
 have hp:∀a∈l.take k,p a=true:=λa ha=>by
  obtain⟨j,hj,rfl⟩:=List.mem_iff_getElem.1 ha;rw[List.length_take]at hj;rw[List.getElem_take];exact h1 j (by omega) (by omega)
 have e:=List.takeWhile_append_of_pos (l₂:=l.drop k) hp;have e':=List.dropWhile_append_of_pos (l₂:=l.drop k) hp;rw[Qj]at e e';rw[e,e'];rcases h2 with⟨h,h2⟩|h
 .rw [ji h,List.takeWhile_cons_of_neg (by simp[h2]),List.dropWhile_cons_of_neg (by simp[h2]),zm];exact⟨rfl,rfl⟩
 .rw [h,List.drop_length];simp
theorem juT(u:List Lt)(hl:u.length<=900000)(i:Nat)(hi:i<=u.length)(x:Lt) :
  pB (zX (u.map jN)) (zj (u.map jN) 0) (some (vi (i:Nat)))=some i/\yI (u.map jN) 0 (kz i 0)=(u.take i).map jN/\jM (u.take i).length 48=true/\pB (zX (u.map jN)) (zj (u.map jN) 0) none=some u.length/\pB 0 u.length (some (vi (i:Nat)))=some i/\yI (u.map jN) i (kz u.length i)=(u.drop i).map jN/\
  jM ((u.take i).length+1) 48=true/\jM ((jR ((u.take i).map jN) [jN x]).length+((u.drop i).map jN).length) 48=true/\jR (jR ((u.take i).map jN) [jN x]) ((u.drop i).map jN)=(u.take i++x::u.drop i).map jN:=by
 have e1:zX (u.map jN)=u.length:=yf jN u;have e2:zj (u.map jN) 0=u.length:=by rw[yu,List.length_map];rfl
 refine⟨by rw[e1,e2];exact yW hi,by rw[Z2,yV,Nat.sub_zero,List.drop_zero,List.map_take],?_,by rw[e1,e2];exact zn (j4 _),yW hi,?_,?_,?_,?_⟩
 .rw [List.length_take];exact QO (by omega)
 .rw [Z2,yV,<-List.map_drop,yN (by rw[List.length_map,List.length_drop];omega)]
 .rw [List.length_take];exact QO (by omega)
 .exact QO (by unfold jR;rw[zv,List.length_map,List.length_map,List.length_take,List.length_drop];simp only[j8,zO];omega)
 .unfold jR;rw[List.map_append,ze];rfl
theorem jqC(l:List Lt)(hl:l.length<=1000)(hz:∀x∈l,Tz x.2)(i:Nat)(hi:i<l.length)(u:List Lt)(hu:u.length<=1000)(hzu:∀x∈u,Tz x.2):∀k,k<=u.length->(∀j,(h:j<k)-> ∀h':j<u.length,cmpL u[j] l[i]<0)->
  jnq (.sl 3 (l.map jN)) (vi (i:Nat)) (vi (k:Nat)) (u.map jN) []=jfK (.sl 3 (l.map jN)) (vi ((i+1:Nat):Int)) ((ja6 cmpL u l[i]).map jN) []:=by
 have h5:=jo hi (by show l.length<=9223372036854775807;omega)
 have ld:∀l:Lt,j9 (.elt (jN l) 0)=some (vb l.1):=λl=>rfl;have ad:∀(l:Lt)(n:Nat),qe (.elt (jN l) 0) n=some (.elt (jN l) n):=λl n=>by rw[qA,yd]
 have ld2:∀l:Lt,kC 2 (.elt (jN l) 1)=some (tm l.2):=λl=>rfl;have e2:=jbW l[i].2 (hz _ (jr _));have hck:ck ((i:Int)+1)=some (vi ((i+1:Nat):Int)):=jV (by omega) (by omega);refine upto ?_ ?_
 .intro hall;obtain⟨t1,t2⟩:=jE3 (p:=λa=>decide (cmpL a l[i]<0)) (j4 u.length) (λj h h'=>decide_eq_true (hall j h h')) (Or.inr rfl);obtain⟨k1,k2,k3,k4,k5,k6,k7,k8,k9⟩:=juT u (by omega) u.length (j4 _) l[i];have hins:ja6 cmpL u l[i]=u.take u.length++l[i]::u.drop u.length:=by
   unfold ja6;rw[t1,t2,List.drop_length,jh (by simp)]
  rw[hins,jzZ];simp only[cev];have hlt:jy .lss false (vi (u.length:Nat)) (yB (u.map jN))=some (vb false):=by
   rw[je9,List.length_map,je1,decide_eq_false (by omega)]
  simp only[hlt,Option.bind_some,jq5,jAR,KI,if_false,decide_false,jjK,Yu,Z9,ja hi,ad,ld,ld2];simp only[je,e2];generalize hB:zH _ _ _=B;have hB':B=some (ltm l[i]):=by rw[<-hB];kernel_rfl
  rw[hB'];simp only[je,k1,k2,k4,k5];rw[jg k3,jg k7,k6,jg k8,hck,Option.bind_some,k9]
 .intro k hk ih hall;have hlt:((k:Nat):Int)<((u.length:Nat):Int):=by omega
  have x1:Zt u.length (vi (k:Nat))=some k:=zg hk;have r1:=jru hk;have e1:=jdc u[k] l[i] (hzu _ (jr _)) (hz _ (jr _));rw[jzZ];by_cases hc:cmpL u[k] l[i]<0
  .have ih:=ih λj h h'=>by
    by_cases hj:j=k
    .subst hj;exact hc
    .exact hall j (by omega) h'
   have hk1:ck ((k:Int)+1)=some (vi ((k+1:Nat):Int)):=jV (by omega) (by omega);generalize cmpL u[k] l[i]=d at *;simp only[je,hlt,x1,r1,ja hi,kR,e1,hc,hk1];exact ih
  .obtain ⟨t1,t2⟩:=jE3 (p:=λa=>decide (cmpL a l[i]<0)) (Nat.le_of_lt hk) (λj h h'=>decide_eq_true (hall j h h')) (Or.inl ⟨hk,decide_eq_false hc⟩);have hins:ja6 cmpL u l[i]=if cmpL u[k] l[i]=0 then u else u.take k++l[i]::u.drop k:=by
    unfold ja6;rw[t1,t2,ji hk];by_cases h0:cmpL u[k] l[i]=0
    .rw [jg h0];exact jg (decide_eq_true h0)
    .rw [jh h0];exact jh (λe=>h0 (of_decide_eq_true e))
   rw[hins];by_cases h0:cmpL u[k] l[i]=0
   .rw [jg h0];rw[h0]at e1;simp only[je,hlt,x1,r1,ja hi,kR,e1,hck]
   .obtain ⟨k1,k2,k3,k4,k5,k6,k7,k8,k9⟩:=juT u (by omega) k (Nat.le_of_lt hk) l[i];rw[jh h0];generalize cmpL u[k] l[i]=d at *;simp only[je,hlt,x1,r1,ja hi,kR,e1,hc,h0,ad,ld,ld2,e2];generalize hB:zH _ _ _=B;have hB':B=some (ltm l[i]):=by rw[<-hB];kernel_rfl
    rw[hB'];simp only[je,k1,k2,k4,k5];rw[jg k3,jg k7,k6,jg k8,hck,Option.bind_some,k9]
theorem jyW{u:List Lt}(hu:Asc cmpL u)(x:Lt){y:Lt} :y∈ja6 cmpL u x↔y∈u\/y=x:=(jiW Kr hu x).2 y
theorem jf3(l:List Lt)(hl:l.length<=900)(hz:∀x∈l,Tz x.2):G 248 [.sl 3 (l.map jN)]=some (cm (yR cmpL l),[]):=by
 have key:=upto (P:=λi=>∀u:List Lt,Asc cmpL u->u.length<=i->(∀x∈u,Tz x.2)->jfK (.sl 3 (l.map jN)) (vi (i:Nat)) (u.map jN) []=some (cm ((l.drop i).foldl (ja6 cmpL) u),[])) (n:=l.length) ?_ ?_ 0 (Nat.zero_le _) [] List.Pairwise.nil (j4 _) (λx h=>by cases h)
 .rw [List.drop_zero]at key;simp only[Int.natCast_zero,List.map_nil]at key;rw[jK7,key];rfl
 .intro u _ _ _;rw[jzY,List.drop_length];simp only[je];rfl
 .intro i hi ih u ha hu hzu;have hlt:(i:Int)<((l.length:Nat):Int):=by omega
  have:=jqC l (by omega) hz i hi u (by omega) hzu 0 (Nat.zero_le _) (λj h=>absurd h (Nat.not_lt_zero _));simp only[Int.natCast_zero]at this;have h2:=ih (ja6 cmpL u l[i]) (jiW Kr ha l[i]).1 (by have:=jp5 cmpL u l[i];omega) λx hx=>by
   rcases(jyW ha l[i]).1 hx with h|h
   .exact hzu x h
   .rw [h];exact hz _ (jr _)
  rw[jzY,ji hi,List.foldl_cons];simp only[je,hlt,this,h2]
theorem CN.ren_tz{p:UInt8}(hp:upc p=true){c:kj}(h:CN c):∀x∈c.map (λl=>(l.1,kZ (zk p (kV c)) l.2)),Rx' x.2/\Tz x.2:=λx hx=>⟨(h.ren hp x hx).1.rx,(h.ren hp x hx).1.tz (by have:=(h.ren hp x hx).2;omega)⟩
theorem jdg(p:UInt8)(c:kj)(h:CN c)(ns:Xa)(hn:∀n∈ns,js n=true)(hr:∀x∈c.map (λl=>(l.1,kZ (zk p ns) l.2)),Rx' x.2/\Tz x.2):G 227 [cm c,.mp ((KG p 0 ns).map kn)]=some (cm (yR cmpL (c.map λl=>(l.1,kZ (zk p ns) l.2))),[]):=by
 have h8:=h.1;have e3:=jgC (c.map λl=>(l.1,kZ (zk p ns) l.2)) (by rw[List.length_map];omega) (λx hx=>(hr x hx).1) λx hx=>(hr x hx).2;generalize hd:c.map (λl=>(l.1,kZ (zk p ns) l.2))=d at *;have hdl:d.length=c.length:=by rw[<-hd,List.length_map]
 have key:=upto (P:=λi=>jnh (.mp ((KG p 0 ns).map kn)) (.sl 3 (c.map jN)) (vi (c.length:Nat)) (vi (i:Nat)) ((d.take i).map jN) []=some (cm (yR cmpL d),[])) (n:=c.length) ?_ ?_ 0 (Nat.zero_le _)
 .simp only[Int.natCast_zero,List.take_zero,List.map_nil]at key;rw[jKU];simp only[je,key]
 .rw [jzN,<-hdl,List.take_length];simp only[je,e3]
 .intro i hi ih;have hi2:i<d.length:=by omega
  have hlt:(i:Int)<((c.length:Nat):Int):=by omega
  have h5:=jo hi (by show c.length<=9223372036854775807;omega)
  have e1:=jrp p ns hn c[i].2 (h.rx _ (jr _)) (h.tz _ (jr _));have hdi:d[i]=(c[i].1,kZ (zk p ns) c[i].2):=by simp only[<-hd,List.getElem_map]
  have ta:=QU (f:=jN) hi2;have tl:=take_len (f:=jN) (Nat.le_of_lt hi2);have hf:jM (i+1) 48=true:=QO (by omega);rw[hdi]at ta;generalize (d.take i).map jN=R at *;generalize kZ (zk p ns) c[i].2=u at *;rw[jzN];simp only[je,hlt,ja hi,kR,e1];generalize hB:zH _ _ _=B;have hB':B=some (ltm (c[i].1,u)):=by rw[<-hB];kernel_rfl
  rw[hB'];have hck:ck ((i:Int)+1)=some (vi ((i+1:Nat):Int)):=jV (by omega) (by omega);simp only[je,tl,hf,ta,hck,ih]
theorem jon(p:UInt8)(c:kj)(h:CN c)(ns:Xa)(hl:ns.length<=1000)(hr:∀x∈c.map (λl=>(l.1,kZ (zk p ns) l.2)),Rx' x.2/\Tz x.2):G 210 [cm c,strs ns,sv [p]]=some (cm (yR cmpL (c.map λl=>(l.1,kZ (zk p ns) l.2))),[]):=by
 have h8:=h.1;have e3:=jf3 (c.map λl=>(l.1,kZ (zk p ns) l.2)) (by rw[List.length_map];omega) (λx hx=>(hr x hx).2);generalize hd:c.map (λl=>(l.1,kZ (zk p ns) l.2))=d at *;have hdl:d.length=c.length:=by rw[<-hd,List.length_map]
 have key:=upto (P:=λi=>jnd (strs ns) (sv [p]) (vi (i:Nat)) (.sl 3 (c.map jN)) ((d.take i).map jN) []=some (cm (yR cmpL d),[])) (n:=c.length) ?_ ?_ 0 (Nat.zero_le _)
 .simp only[Int.natCast_zero,List.take_zero,List.map_nil]at key;rw[jKF];simp only[je,key]
 .rw [jzH,<-hdl,List.take_length];have hlt:¬((d.length:Nat):Int)<((c.length:Nat):Int):=by omega
  simp only[je,hlt,e3]
 .intro i hi ih;have hi2:i<d.length:=by omega
  have hlt:(i:Int)<((c.length:Nat):Int):=by omega
  have h5:=jo hi (by show c.length<=9223372036854775807;omega)
  have e1:=jqz p ns hl c[i].2 (h.tz _ (jr _));have hdi:d[i]=(c[i].1,kZ (zk p ns) c[i].2):=by simp only[<-hd,List.getElem_map]
  have ta:=QU (f:=jN) hi2;have tl:=take_len (f:=jN) (Nat.le_of_lt hi2);have hf:jM (i+1) 48=true:=QO (by omega);have ld:∀l:Lt,j9 (.elt (jN l) 0)=some (vb l.1):=λl=>rfl;have ad:∀(l:Lt)(n:Nat),qe (.elt (jN l) 0) n=some (.elt (jN l) n):=λl n=>by rw[qA,yd]
  have ld2:∀l:Lt,kC 2 (.elt (jN l) 1)=some (tm l.2):=λl=>rfl;rw[hdi]at ta;generalize (d.take i).map jN=R at *;generalize kZ (zk p ns) c[i].2=u at *;rw[jzH];simp only[je,hlt,ja hi,ad,ld,ld2,e1];generalize hB:zH _ _ _=B;have hB':B=some (ltm (c[i].1,u)):=by rw[<-hB];kernel_rfl
  rw[hB'];have hck:ck ((i:Int)+1)=some (vi ((i+1:Nat):Int)):=jV (by omega) (by omega);simp only[je,tl,hf,ta,hck,ih]
theorem jgk(p:UInt8)(hp:upc p=true)(c:kj)(h:CN c):G 227 [cm c,.mp ((KG p 0 (kV c)).map kn)]=some (cm (renC p c),[]):=jdg p c h (kV c) (λn=>jdL) (h.ren_tz hp)
theorem jgN(p:UInt8)(hp:upc p=true)(c:kj)(h:CN c):G 210 [cm c,strs (kV c),sv [p]]=some (cm (renC p c),[]):=jon p c h (kV c) (by have:=Jp h;omega) (h.ren_tz hp)
theorem jlL(c:kj)(h:CN c):G 155 [cm c]=some (strs (kV c),[]):=jjv c (by have:=h.1;omega) h.rx h.tz λl hl=>by have:=(h.2 l hl).2;omega
theorem jlM(c:kj)(h:CN c):G 114 [cm c]=some (strs (kV c),[]):=jjg c (by have:=h.1;omega) h.tz λl hl=>by have:=(h.2 l hl).2;omega
theorem jjy:∀(k i:Nat),k+i=10-> ∀c:kj,CN c->jnb (vi (i:Nat)) (.sl 3 (c.map jN)) []=some (cm (normF k c),[])
 |0,i,hk,c,h=>by
  have hi:((i:Nat):Int)=10:=by omega
  rw[jzF,normF,hi];simp only[je]
 |k+1,i,hk,c,h=>by
  have hlt:((i:Nat):Int)<10:=by omega
  have e1:=jaP c h;rw[jzF,normF];cases hn:Kv c<;>rw[hn]at e1
  .have hl:=Jp h;have e2:=jlL c h;have e3:=jrq 88 (kV c) (jaw c) (by omega);have e4:=jgk 88 (by decide) c h;have hck:ck ((i:Int)+1)=some (vi ((i+1:Nat):Int)):=jV (by omega) (by omega);have ih:=jjy k (i+1) (by omega) (renC 88 c) (h.renC (by decide));rw[jh Bool.false_ne_true];simp only[je,hlt,e1,e2,e3,e4,hck,ih]
  .rw [jg rfl];simp only[je,hlt,e1]
theorem jov(c:kj)(h:CN c):G 207 [cm c]=some (cm (normC c),[]):=by
 have e1:=jkI c (by have:=h.1;omega) h.tz
 have e2:=jjy 10 0 rfl c h;simp only[Int.natCast_zero]at e2;rw[jKC];simp only[je,e1,e2];rfl
theorem jjz:∀(k i:Nat),k+i=10-> ∀c:kj,CN c->jnf (vi (i:Nat)) (.sl 3 (c.map jN)) []=some (.tup [cm (normF k c),vb (qp (normF k c))],[])
 |0,i,hk,c,h=>by
  have hi:((i:Nat):Int)=10:=by omega
  have e0:=jcw c (by have:=h.1;omega) h.tz
  rw[jzJ,normF,hi];simp only[je,e0]
 |k+1,i,hk,c,h=>by
  have hlt:((i:Nat):Int)<10:=by omega
  have e0:=jcw c (by have:=h.1;omega) h.tz
  have e1:=Qt c h;rw[jzJ,normF];cases hn:Kv c<;>rw[hn]at e1
  .have e2:=jlM c h;have e4:=jgN 88 (by decide) c h;have hck:ck ((i:Int)+1)=some (vi ((i+1:Nat):Int)):=jV (by omega) (by omega);have ih:=jjz k (i+1) (by omega) (renC 88 c) (h.renC (by decide));rw[jh Bool.false_ne_true];simp only[je,hlt,e1,e2,e4,hck,ih]
  .rw [jg rfl];simp only[je,hlt,e1,e0]
theorem jqD(c:kj)(h:CN c)(ha:Asc cmpL c):G 214 [cm c]=some (.tup [cm (normC c),vb (qp (normC c))],[]):=by
 have e1:=jf3 c (by have:=h.1;omega) h.tz
 rw[jqH ha]at e1;have e2:=jjz 10 0 rfl c h;simp only[Int.natCast_zero]at e2;rw[jKJ];simp only[je,e1,e2];rfl
theorem joL(x y:Xb):(yK x y || decide (x=y))=!yK y x:=by
 rw[YJ,YJ];by_cases h1:x<y
 .rw [decide_eq_true h1,decide_eq_false (λh2=>List.lt_irrefl _ (List.lt_trans h1 h2))];rfl
 .by_cases h2:x=y
  .subst h2;rw[decide_eq_false h1,decide_eq_true rfl];rfl
  .rw [decide_eq_false h1,decide_eq_false h2,decide_eq_true (jAs h1 h2)];rfl
theorem jwH(b:Bool)(x y:Xb):jy .leq b (sv x) (sv y)=some (vb (!yK y x)):=by rw[<-joL];rfl
theorem jwG(b:Bool)(x y:Xb):jy .geq b (sv x) (sv y)=some (vb (!yK x y)):=rfl
def jcZ:Option Xb->jw->Bool
 |_,[]=>true
 |none,q::r=>js q.1 && (kQ q.2 && (!decide (q.2.name=q.1) && jcZ (some q.1) r))
 |some m,q::r=>yK m q.1 && (js q.1 && (kQ q.2 && (!decide (q.2.name=q.1) && jcZ (some q.1) r)))
def okB(q:Xb×T):Bool:=js q.1 && (kQ q.2 && !decide (q.2.name=q.1))
theorem jmv:∀(s:jw)(m:Xb)(t:T),jcZ (some m) s=(jpp ((m,t)::s) && s.all okB)
 | [],m,t=>rfl
 |q::r,m,t=>by
  rw[jcZ,jmv r q.1 q.2,jpp,zR,okB];cases yK m q.1<;>cases js q.1<;>cases kQ q.2<;>cases decide (q.2.name=q.1)<;>simp
theorem jmu(s:jw):(jcZ none s && decide (s.length<=12))=jL s:=by
 have hd:∀q:Xb×T,dq q.2.name q.1=decide (q.2.name=q.1):=λq=>by
  by_cases h:q.2.name=q.1
  .rw [y7.2 h,decide_eq_true h]
  .rw [jiK.2 h,decide_eq_false h]
 have ha:s.all (λq=>js q.1 && (kQ q.2 && !dq q.2.name q.1))=s.all okB:=by
  unfold okB;congr 1;funext q;rw[hd]
 unfold jL;rw[ha];cases s with
 |nil=>rfl
 |cons q r=>
  rw[jcZ,jmv r q.1 q.2,zR];unfold okB;cases js q.1<;>cases kQ q.2<;>cases decide (q.2.name=q.1)<;>simp[Bool.and_comm]
def SzB(s:jw):Prop:=s.length<=1000000/\ ∀q∈s,q.1.length<=1000000/\Tz q.2
theorem SzB.sz{s:jw}(h:SzB s):Sz 1048576 s:=⟨by have:=h.1;omega,λq hq=>⟨by have:=(h.2 q hq).1;omega,(h.2 q hq).2⟩⟩
theorem yw{s:jw}(h:jL s=true):SzB s:=by
 obtain⟨h1,_,h3⟩:=j5 h;refine⟨by omega,λq hq=>⟨?_,?_⟩⟩
 .have:=jft (h3 q hq).1;omega
 .have:=jf8 q.2 (jcQ (h3 q hq).2.1);have:=Z7 h q hq;unfold Tz;omega
theorem ZB(q:Xb×T):kC 3 (.elt (bc q) 0)=some (.agg [sv q.1,sv q.2.name,jG q.2.args]):=rfl
theorem jmy(s:jw)(hs:SzB s):G 273 [sb s]=some (vb (jL s),[]):=by
 have hl:=hs.1;have key:=upto (P:=λi=>∀p:Option Xb,(p=none↔i=0)->(∀m,p=some m-> ∃h:i-1<s.length,s[i-1].1=m)->jnu (ZN s) (vi (s.length:Nat)) (vi (i:Nat)) (ZN s)=some (vb (jcZ p (s.drop i) && decide (s.length<=12)),[])) (n:=s.length) ?_ ?_ 0 (Nat.zero_le _) none (by simp) (λm h=>by cases h)
 .simp only[Int.natCast_zero,List.drop_zero]at key;rw[jmu]at key;rw[jLq];simp only[je,key]
 .intro p _ _;have e:decide (((s.length:Nat):Int)<=12)=decide (s.length<=12):=by congr 1;exact propext (by omega)
  have:jcZ p []=true:=by cases p<;>rfl
  rw[jz5,List.drop_length,this,Bool.true_and,<-e];simp only[je]
 .intro i hi ih p hp hq;have hlt:(i:Int)<((s.length:Nat):Int):=by omega
  have h5:=jo hi (by show s.length<=9223372036854775807;omega)
  have hm:=hs.2 _ (jr hi);have e1:=jda s[i].1 (by show s[i].1.length<=9223372036854775807;omega);have e2:=jbK s[i].2 hm.2.wf hm.2;have ih:=ih (some s[i].1) (by simp) (λm h=>by cases h;exact⟨by simpa using hi,rfl⟩);rw[jz5,ji hi];have e3:decide (s[i].2.name=s[i].1)=decide (s[i].2.name=s[i].1):=rfl;generalize hn:decide (s[i].2.name=s[i].1)=nn at *;have e4:jy .eql false (sv s[i].2.name) (sv s[i].1)=some (vb nn):=by rw[jga,hn]
  generalize hv:jcZ (some s[i].1) (s.drop (i+1))=vv at *;cases p with
  |none=>
   have h0:¬(0:Int)<(i:Int):=by have:=hp.1 rfl;omega
   rw[jcZ,hn,hv];cases hb:js s[i].1<;>rw[hb]at e1
   .simp only[je,hlt,ja hi,ZB,e1,Bool.false_and]
   cases hk:kQ s[i].2<;>rw[hk]at e2
   .simp only[je,hlt,ja hi,ZB,e1,e2,h0,Bool.false_and,Bool.true_and]
   cases nn
   .simp only[je,hlt,ja hi,ZB,e1,e2,h0,e4,h5,ih,Bool.true_and]
   .simp only[je,hlt,ja hi,ZB,e1,e2,h0,e4,Bool.false_and,Bool.true_and]
  |some m=>
   obtain⟨hq1,rfl⟩:=hq m rfl;have h0:(0:Int)<(i:Int):=by
    have:¬i=0:=λh=>by have:=hp.2 h;cases this
    omega
   have c1:ck ((i:Int)-1)=some (vi ((i-1:Nat):Int)):=by rw[show(i:Int)-1=((i-1:Nat):Int) by omega];exact jV (by omega) (by omega)
   have e5:=jwH false s[i].1 s[i-1].1;rw[jcZ,hn,hv];cases hb:js s[i].1<;>rw[hb]at e1
   .rw [Bool.false_and,Bool.and_false];simp only[je,hlt,ja hi,ZB,e1,Bool.false_and]
   cases hc:yK s[i-1].1 s[i].1<;>rw[hc]at e5
   .simp only[je,hlt,ja hi,ja hq1,ZB,e1,h0,c1,e5,Bool.false_and]
   cases hk:kQ s[i].2<;>rw[hk]at e2
   .simp only[je,hlt,ja hi,ja hq1,ZB,e1,h0,c1,e5,e2,Bool.false_and,Bool.true_and]
   cases nn
   .simp only[je,hlt,ja hi,ja hq1,ZB,e1,h0,c1,e5,e2,e4,h5,ih,Bool.true_and]
   .simp only[je,hlt,ja hi,ja hq1,ZB,e1,h0,c1,e5,e2,e4,Bool.false_and,Bool.true_and]
theorem jcP(s:jw)(hs:SzB s):G 249 [sb s]=some (vb (jL s),[]):=by
 have hl:=hs.1;have key:=upto (P:=λi=>∀p:Option Xb,(p=none↔i=0)->(∀m,p=some m-> ∃h:i-1<s.length,s[i-1].1=m)->jnr (vi (i:Nat)) (ZN s)=some (vb (jcZ p (s.drop i) && decide (s.length<=12)),[])) (n:=s.length) ?_ ?_ 0 (Nat.zero_le _) none (by simp) (λm h=>by cases h)
 .simp only[Int.natCast_zero,List.drop_zero]at key;rw[jmu]at key;rw[jK8];simp only[je,key]
 .intro p _ _;have e:decide (((s.length:Nat):Int)<=12)=decide (s.length<=12):=by congr 1;exact propext (by omega)
  have:jcZ p []=true:=by cases p<;>rfl
  rw[jz0,List.drop_length,this,Bool.true_and,<-e];simp only[je]
 .intro i hi ih p hp hq;have hlt:(i:Int)<((s.length:Nat):Int):=by omega
  have h5:=jo hi (by show s.length<=9223372036854775807;omega)
  have hm:=hs.2 _ (jr hi);have e1:=zL s[i].1 (by show s[i].1.length<=9223372036854775807;omega);have e2:=KQ s[i].2 hm.2.wf hm.2;have ih:=ih (some s[i].1) (by simp) (λm h=>by cases h;exact⟨by simpa using hi,rfl⟩);rw[jz0,ji hi];generalize hn:decide (s[i].2.name=s[i].1)=nn at *;have e4:jy .eql false (sv s[i].2.name) (sv s[i].1)=some (vb nn):=by rw[jga,hn]
  generalize hv:jcZ (some s[i].1) (s.drop (i+1))=vv at *;cases p with
  |none=>
   have h0:¬(0:Int)<(i:Int):=by have:=hp.1 rfl;omega
   rw[jcZ,hn,hv];cases hb:js s[i].1<;>rw[hb]at e1
   .simp only[je,hlt,ja hi,ZB,e1,Bool.false_and]
   cases hk:kQ s[i].2<;>rw[hk]at e2
   .simp only[je,hlt,ja hi,ZB,e1,e2,Bool.false_and,Bool.true_and]
   cases nn
   .simp only[je,hlt,ja hi,ZB,e1,e2,h0,e4,h5,ih,Bool.true_and]
   .simp only[je,hlt,ja hi,ZB,e1,e2,e4,Bool.false_and,Bool.true_and]
  |some m=>
   obtain⟨hq1,rfl⟩:=hq m rfl;have h0:(0:Int)<(i:Int):=by
    have:¬i=0:=λh=>by have:=hp.2 h;cases this
    omega
   have c1:ck ((i:Int)-1)=some (vi ((i-1:Nat):Int)):=by rw[show(i:Int)-1=((i-1:Nat):Int) by omega];exact jV (by omega) (by omega)
   have e5:=jwG false s[i-1].1 s[i].1;rw[jcZ,hn,hv];cases hb:js s[i].1<;>rw[hb]at e1
   .rw [Bool.false_and,Bool.and_false];simp only[je,hlt,ja hi,ZB,e1,Bool.false_and]
   cases hk:kQ s[i].2<;>rw[hk]at e2
   .rw [Bool.false_and,Bool.and_false,Bool.and_false];simp only[je,hlt,ja hi,ZB,e1,e2,Bool.false_and]
   cases nn
   .cases hc:yK s[i-1].1 s[i].1<;>rw[hc]at e5
    .simp only[je,hlt,ja hi,ja hq1,ZB,e1,h0,c1,e5,e2,e4,Bool.false_and]
    .simp only[je,hlt,ja hi,ja hq1,ZB,e1,h0,c1,e5,e2,e4,h5,ih,Bool.true_and]
   .rw [Bool.not_true,Bool.false_and,Bool.and_false,Bool.and_false,Bool.and_false];simp only[je,hlt,ja hi,ZB,e1,e2,e4,Bool.false_and]
theorem jA2{α:Type}{R:α->α->Prop}(irr:∀a,¬R a a)(asy:∀a b,R a b-> ¬R b a):∀{l m:List α},l.Pairwise R->m.Pairwise R->(∀x,x∈l↔x∈m)->l=m
 | [],[],_,_,_=>rfl
 | [],b::m,_,_,hx=>absurd ((hx b).2 (by simp)) (by simp)
 |a::l,[],_,_,hx=>absurd ((hx a).1 (by simp)) (by simp)
 |a::l,b::m,h1,h2,hx=>by
  obtain⟨g1,g2⟩:=List.pairwise_cons.1 h1;obtain⟨k1,k2⟩:=List.pairwise_cons.1 h2;have hab:a=b:=by
   rcases jK.1 ((hx a).1 (by simp))with e|e
   .exact e
   rcases jK.1 ((hx b).2 (by simp))with e'|e'
   .exact e'.symm
   .exact (asy _ _ (k1 a e) (g1 b e')).elim
  subst hab;have:l=m:=jA2 irr asy g2 k2 λx=>by
   constructor
   .intro hxl;rcases jK.1 ((hx x).1 (by simp[hxl]))with e|e
    .exact (irr x (e ▸ g1 x hxl)).elim
    .exact e
   .intro hxm;rcases jK.1 ((hx x).2 (by simp[hxm]))with e|e
    .exact (irr x (e ▸ k1 x hxm)).elim
    .exact e
  rw[this]
theorem QR{x y z:Xb}(h1:yK x y=true)(h2:yK y z=true):yK x z=true:=by
 rw[YJ,ky]at *;exact List.lt_trans h1 h2
theorem jnN:∀{s:jw},jpp s=true->s.Pairwise λp q=>yK p.1 q.1=true
 | [],_=>List.Pairwise.nil
 | [p],_=>by simp
 |p::q::s,h=>by
  rw[jpp,jI]at h;have ih:=jnN h.2;refine List.pairwise_cons.2 ⟨λx hx=>?_,ih⟩;rcases jK.1 hx with e|e
  .rw [e];exact h.1
  .exact QR h.1 ((List.pairwise_cons.1 ih).1 x e)
theorem jH4{m:Nat}(h:m<=2000000):qB .u64 (vi (m:Nat))=some (.val (.int .u64 (m:Nat))):=by
 show some (A.val (.int .u64 (IntKind.u64.wrap (m:Nat))))=_;have:IntKind.u64.wrap ((m:Nat):Int)=(m:Nat):=by
  unfold IntKind.wrap;simp[IntKind.bits,IntKind.signed];omega
 rw[this]
theorem jH5{m:Nat}(h:m<=2000000):jy .shr false (.val (.int .u64 (m:Nat))) (.val (.int .u64 1))=some (.val (.int .u64 ((m / 2:Nat):Int))):=by
 show some (A.val (.int .u64 (((m:Nat):Int).fdiv (2 ^ min 1 64))))=_;rw[Int.fdiv_eq_ediv_of_nonneg _ (by decide)];rfl
theorem jH6{m:Nat}(h:m<=2000000):qB .i64 (.val (.int .u64 (m:Nat)))=some (vi (m:Nat)):=jV (by omega) (by omega)
theorem juF(x y:Xb):zs x y<0↔yK x y=true:=by
 unfold zs;cases h:yK x y with
 |true=>simp
 |false=>
  rw[jh Bool.false_ne_true];split<;>simp
theorem jrT(q:Xb×T)(n:Xb):G 301 [.agg (bc q),sv n]=some (vi (zs q.1 n),[]):=by
 have e:=jbx q.1 n;rw[jLG];simp only[je,e]
theorem jgO{s:jw}(hs:s.Pairwise λp q=>yK p.1 q.1=true){n:Xb}{i:Nat}(h1:∀k,(h:k<s.length)->k<i->yK s[k].1 n=true)(h2:∀k,(h:k<s.length)->i<=k->yK s[k].1 n=false):look s n=if h:i<s.length then(if s[i].1=n then some s[i].2 else none)else none:=by
 have hne:∀k,(h:k<s.length)->k≠i->s[k].1≠n:=λk h hk e=>by
  rcases Nat.lt_or_ge k i with hl|hl
  .have:=h1 k h hl;rw[e,jaI]at this;cases this
  .have hi:i<k:=by omega
   have:=(List.pairwise_iff_getElem.1 hs) i k (by omega) h hi;rw[e]at this;rw[h2 i (by omega) (j4 _)]at this;cases this
 split
 .rename_i hi;split
  .rename_i he;have hm:(n,s[i].2)∈s:=by rw[<-he];exact jr hi
   cases hl:look s n with
   |none=>exact(JB.1 hl _ hm rfl).elim
   |some r=>
    obtain⟨k,hk,e⟩:=List.mem_iff_getElem.1 (JA hl);have:k=i:=Classical.byContradiction λh=>hne k hk h (by rw[e]);subst this;rw[e]
  .rename_i he;refine JB.2 λp hp=>?_;obtain⟨k,hk,rfl⟩:=List.mem_iff_getElem.1 hp;by_cases h:k=i
   .subst h;exact he
   .exact hne k hk h
 .rename_i hi;refine JB.2 λp hp=>?_;obtain⟨k,hk,rfl⟩:=List.mem_iff_getElem.1 hp;exact hne k hk (by omega)
theorem jrF(s:jw)(hl:s.length<=1000000)(hs:s.Pairwise λp q=>yK p.1 q.1=true)(n:Xb):∀(d i j:Nat),j-i<=d->i<=j->j<=s.length->(∀k,(h:k<s.length)->k<i->yK s[k].1 n=true)->(∀k,(h:k<s.length)->j<=k->yK s[k].1 n=false)->
  ∃(i':Nat)(b:Bool),jir (ZN s) (sv n) (.fn 301 []) (vi (s.length:Nat)) (vi (i:Nat)) (vi (j:Nat))=some (.tup [vi (i':Nat),vb b],[])/\look s n=(if h:i'<s.length then(if b then some s[i'].2 else none)else none)/\(b=true->i'<s.length):=by
 intro d;induction d with
 |zero=>
  intro i j hd hij hj h1 h2;have hij:i=j:=by omega
  subst hij;have hlt:¬(i:Int)<(i:Int):=by omega
  have hp:K.pureF 301=true:=rfl;rw[jAj];by_cases hi:i<s.length
  .have hi':(i:Int)<((s.length:Nat):Int):=by omega
   have cc:DX.run K (MM K) (.callc (.fn 301 []) [.agg (bc s[i]),sv n] false)=some (vi (zs s[i].1 n)):=by
    rw[qx hp,zm,jrT];rfl
   refine⟨i,decide (s[i].1=n),?_,?_,λ_=>hi⟩
   .have hz:decide (zs s[i].1 n=0)=decide (s[i].1=n):=decide_eq_decide.2 (K9.zero _ _);rw[<-hz];simp only[je,hlt,hi',ja hi,ZB,cc]
   .rw [jgO hs h1 h2,dif_pos hi,dif_pos hi];by_cases he:s[i].1=n
    .rw [jg he,decide_eq_true he,jg rfl]
    .rw [jh he,decide_eq_false he,jh Bool.false_ne_true]
  .have hi':¬(i:Int)<((s.length:Nat):Int):=by omega
   refine⟨i,false,?_,?_,λh=>by cases h⟩
   .simp only[je,hlt,hi']
   .rw [jgO hs h1 h2,dif_neg hi,dif_neg hi]
 |succ d ih=>
  intro i j hd hij hj h1 h2;by_cases hlt0:i<j;rotate_left
  .exact ih i j (by omega) hij hj h1 h2
  have hlt:(i:Int)<(j:Int):=by omega
  have hp:K.pureF 301=true:=rfl;have hm:(i+j) / 2<s.length:=by omega
  have c0:ck ((i:Int)+(j:Int))=some (vi ((i+j:Nat):Int)):=jV (by omega) (by omega);have c1:=jH4 (m:=i+j) (by omega);have c2:=jH5 (m:=i+j) (by omega);have c3:=jH6 (m:=(i+j) / 2) (by omega);have cc:DX.run K (MM K) (.callc (.fn 301 []) [.agg (bc s[(i+j) / 2]),sv n] false)=some (vi (zs s[(i+j) / 2].1 n)):=by
   rw[qx hp,zm,jrT];rfl
  have ix:=ja (k:=3) (f:=bc) hm;have hpw:=List.pairwise_iff_getElem.1 hs;rw[jAj];have hc:=juF s[(i+j) / 2].1 n;generalize hg:zs s[(i+j) / 2].1 n=c at *;generalize hme:(i+j) / 2=m at *;by_cases hneg:c<0
  .have hs1:=hc.1 hneg;have h5:ck ((m:Int)+1)=some (vi ((m+1:Nat):Int)):=jV (by omega) (by omega);have:=ih (m+1) j (by omega) (by omega) hj (λk hk hk2=>by
    by_cases e:k=m
    .subst e;exact hs1
    .exact QR (hpw k m hk hm (by omega)) hs1) h2
   obtain⟨i',b,e1,e2⟩:=this;exact⟨i',b,by simp only[je,hlt,c0,c1,c2,c3,ix,ZB,cc,hneg,h5];exact e1,e2⟩
  .have hs1:yK s[m].1 n=false:=by
    cases h:yK s[m].1 n with
    |false=>rfl
    |true=>exact(hneg (hc.2 h)).elim
   have:=ih i m (by omega) (by omega) (by omega) h1 (λk hk hk2=>by
    by_cases e:k=m
    .subst e;exact hs1
    .cases h:yK s[k].1 n with
     |false=>rfl
     |true=>rw[QR (hpw m k hm hk (by omega)) h]at hs1;cases hs1)
   obtain⟨i',b,e1,e2⟩:=this;exact⟨i',b,by simp only[je,hlt,c0,c1,c2,c3,ix,ZB,cc,hneg];exact e1,e2⟩
def outT(o:Option T):Xe:=match o with|some t=>some (.tup [tm t,vb true],[])|none=>some (.tup [.agg [sv [],.sl 2 []],vb false],[])
theorem jke(s:jw)(hs:jL s=true)(n:Xb):G 274 [sb s,sv n]=outT (look s n):=by
 have hl:=(j5 hs).1;obtain⟨i,b,e1,e2,e3⟩:=jrF s (by omega) (jnN (j5 hs).2.1) n s.length 0 s.length (by omega) (Nat.zero_le _) (j4 _) (λk _ h=>by omega) (λk h1 h2=>by omega);simp only[Int.natCast_zero]at e1;have e4:G 300 [ZN s,sv n,.fn 301 []]=some (.tup [vi (i:Nat),vb b],[]):=by
  rw[jLF];simp only[je,e1]
 rw[jLr,e2];cases b with
 |false=>
  have:(if h:i<s.length then(if false=true then some s[i].2 else none)else none)=(none:Option T):=by split<;>simp
  rw[this];simp only[je,e4];rfl
 |true=>
  have hi:=e3 rfl;rw[dif_pos hi,jg rfl];simp only[je,e4,ja hi,Yy];rfl
theorem jlb(s:jw)(hs:jL s=true):∀t:T,Rx' t->Tz t->G 234 [sb s,tm t]=some (tm (sub s t),[]):=by
 refine T.ind λt ih hk ht=>?_;have hz:=ht;unfold Tz at hz;rw[kH]at hz;rw[jKY];by_cases ha:t.args=[]
 .have e1:=jke s hs t.name;have h0:kP (jG t.args)=some (vi 0):=by rw[ha];rfl
  cases hl:look s t.name with
  |some r=>
   rw[hl]at e1;have e1:G 274 [sb s,sv t.name]=some (.tup [tm r,vb true],[]):=e1;have hv:js t.name=true:=((j5 hs).2.2 _ (JA hl)).1;have e2:=Jm r ((yw hs).2 _ (JA hl)).2;have:sub s t=r:=by rw[Jc hv,qY,hl];rfl
   rw[this];simp only[je,h0,e1,e2]
  |none=>
   rw[hl]at e1;have e1:G 274 [sb s,sv t.name]=some (.tup [.agg [sv [],.sl 2 []],vb false],[]):=e1;have:sub s t = .mk t.name []:=by
    cases hv:js t.name with
    |true=>rw[Jc hv,qY,hl];rfl
    |false=>rw[qh hv,ha];rfl
   rw[this];simp only[je,h0,e1];rfl
 .have hv:js t.name=false:=by
   cases hv:js t.name with
   |false=>rfl
   |true=>exact(ha (hk.va hv)).elim
  have hpos:0<t.args.length:=by
   cases h:t.args with
   |nil=>exact(ha h).elim
   |cons _ _=>simp
  have h0:¬((t.args.length:Nat):Int)=0:=by omega
  rw[qh hv];generalize hus:t.args.map (sub s)=us at *;have hul:us.length=t.args.length:=by rw[<-hus,List.length_map]
  have hm:=qV (b:=40) (n:=t.args.length) (by omega) (by omega);have hz0:(0:Int)<((t.args.length:Nat):Int):=by omega
  have step:∀i,(hi:i<t.args.length)->G 234 [sb s,tm t.args[i]]=some (tm (us[i]'(by omega)),[]):=λi hi=>by
   rw[ih t.args[i] (jr _) (hk.args _ (jr _)) (ht.args _ (jr _))];simp only[<-hus,List.getElem_map]
  have stepR:∀i,(hi:i<t.args.length)->Zt (part jm [sv [],.sl 2 []] us i).length (vi (i:Nat))=some i/\YD (part jm [sv [],.sl 2 []] us i) i=some [sv [],.sl 2 []]/\kX (part jm [sv [],.sl 2 []] us i) i [sv (us[i]'(by omega)).name,jG (us[i]'(by omega)).args]=part jm [sv [],.sl 2 []] us (i+1):=λi hi=>by
   have h4:=YB (f:=jm) (z:=[sv [],.sl 2 []]) (xs:=us) (i:=i) (by omega);rw[kU]at h4;refine⟨zg (by rw[Jq (by omega)];omega),YA (by omega),h4⟩
  have key:=(upto (P:=λi=>1<=i->jsB (jG t.args) (vi (t.args.length:Nat)) (vi (i:Nat)) (ZN s) (sv []) (sv t.name) [] (part jm [sv [],.sl 2 []] us i)=some (tm (.mk t.name us),[])) (n:=t.args.length) ?_ ?_ 1 hpos (j4 _));rotate_left
  .intro _;rw[jzQ,<-hul,Yz];simp only[je];rfl
  .intro i hi ih' _;have hlt:(i:Int)<((t.args.length:Nat):Int):=by omega
   have h5:=jo hi (by show t.args.length<=9223372036854775807;omega)
   have e2:=step i hi;obtain⟨h2,h3,h4⟩:=stepR i hi;have ih':=ih' (by omega);rw[jzQ];simp only[je,hlt,ja hi,jd,e2,h2,h3,jhB,h4,h5,ih']
  have e2:=step 0 hpos;obtain⟨h2,h3,h4⟩:=stepR 0 hpos;rw[<-KT]at h2 h3 h4;simp only[Int.natCast_zero,yd]at h2 h4 key;have ix:=ja (k:=2) (f:=jm) hpos;simp only[Int.natCast_zero]at ix;have h5:ck (0+1)=some (vi ((1:Nat):Int)):=jV (n:=0+1) (by omega) (by omega);have first:jsA (jG t.args) (vi (t.args.length:Nat)) (vi 0) (ZN s) (sv []) (sv t.name) (yH us.length [sv [],.sl 2 []]) []=some (tm (.mk t.name us),[]):=by
   rw[jGe];simp only[je,hz0,ix,jd,e2,h2,h3,jhB,h4,h5,key]
  rw[hul]at first
  simp only[je,h0,hm,first]
theorem jGF(s:jw):∀t:T,Rx' t->nodes t<=nodes (sub s t)/\YU t<=YU (sub s t):=by
 refine T.ind λt ih hk=>?_;cases hv:js t.name with
 |true=>
  have ha:=hk.va hv;rw[jO t,Zw t,ha];have:=qz (sub s t);have:=Zw (sub s t);simp only[ju,Qr];omega
 |false=>
  have hL:∀us:Xg,(∀u∈us,nodes u<=nodes (sub s u)/\YU u<=YU (sub s u))->ju us<=ju (us.map (sub s))/\Qr us<=Qr (us.map (sub s)):=by
   intro us;induction us with
   |nil=>intro _;exact⟨j4 _,j4 _⟩
   |cons v vs ih2=>
    intro h;have h1:=h v (by simp);have h2:=ih2 λw hw=>h w (by simp[hw]);simp only[kK,ju,Qr];omega
  have:=hL t.args λu hu=>ih u hu (hk.args u hu);rw[jO t,Zw t,jO (sub s t),Zw (sub s t),jcc hv];omega
def YY(t:T):Prop:=zy t=true\/(t.name=[61]/\t.args.length=2/\ ∀u∈t.args,zy u=true)
theorem YY.rx{t:T}(h:YY t):Rx' t:=h.elim Or.inl λh=>Or.inr ⟨h.1,h.2.2⟩
theorem YY.tz{t:T}(h:YY t)(hn:nodes t<=100000):Tz t:=by
 rcases h with h|h
 .have:=jf8 t h;unfold Tz;omega
 .unfold Tz;rw[jO]at hn;rw[kH,h.1,h.2.1];have:=jvn h.2.2;simp only[j8,zO];omega
theorem YY.sub{s:jw}(hs:jL s=true){t:T}(h:YY t):YY (sub s t):=by
 rcases h with h|h
 .exact Or.inl (YM (JG hs) t h)
 .have hvn:js t.name=false:=by rw[h.1];decide
  right;rw[qh hvn];refine⟨h.1,by show(t.args.map _).length=2;rw[List.length_map,h.2.1],λu hu=>?_⟩;obtain⟨a,ha,rfl⟩:=yn.1 hu;exact YM (JG hs) a (h.2.2 a ha)
theorem YY.sub_tz{s:jw}(hs:jL s=true){t:T}(h:YY t)(hn:nodes t<=3000):Tz (Go.Proofs.YthlhadhipnokfaaGreatDoor.sub s t):=by
 have:=jmi (u:=s) (Z:=30) (by decide) (Z7 hs) t;exact(h.sub hs).tz (by omega)
theorem jw5{s:jw}{t:T}(h:Rx' t)(hs:jF (sub s t)=true):jF t=true:=by
 have:=jGF s t h;simp only[jF,jI,ky]at hs⊢;omega
theorem Ji(s:jw)(hs:jL s=true)(t:T)(h:YY t)(hn:nodes t<=3000):G 198 [sb s,tm t]=outT (if jF (sub s t)then some (sub s t)else none):=by
 have ht:=h.tz (by omega);have hu:=h.sub_tz hs hn;have e1:=jlb s hs t h.rx ht;have e2:=jas (sub s t) hu.wf hu;rw[jKv];cases hsm:jF (sub s t)<;>rw[hsm]at e2
 .rw [jh Bool.false_ne_true];simp only[je,e1,e2];rfl
 .rw [jg rfl];simp only[je,e1,e2];rfl
theorem YZ(s:jw)(hs:jL s=true)(t:T)(h:YY t)(hn:nodes t<=3000):G 211 [sb s,tm t]=outT (if jF (sub s t)then some (sub s t)else none):=by
 have ht:=h.tz (by omega);have hu:=h.sub_tz hs hn;have e0:=jcP s (yw hs);have e1:=jnL ht h;have e2:=KR s (yw hs).sz t ht;have e3:=jnL hu (h.sub hs);rw[hs]at e0;rw[jKG];cases hsm:jF (sub s t)<;>rw[hsm]at e3
 .rw [jh Bool.false_ne_true];cases hs1:jF t<;>rw[hs1]at e1
  .simp only[je,e0,e1];rfl
  .simp only[je,e0,e1,e2,e3];rfl
 .rw [jg rfl];rw[jw5 h.rx hsm]at e1;simp only[je,e0,e1,e2,e3];rfl
abbrev LtB(p q:Xb×T):Prop:=yK p.1 q.1=true
theorem jgY(n:Xb)(t:T):∀s:jw,s.Pairwise LtB->(∀q∈s,q.1≠n)->(YC s n t).Pairwise LtB
 | [],_,_=>by unfold YC;simp
 |p::s,h,hn=>by
  obtain⟨h1,h2⟩:=List.pairwise_cons.1 h;cases hc:yK p.1 n with
  |true=>
   have e:YC (p::s) n t=p::YC s n t:=by
    unfold YC;rw[List.takeWhile_cons_of_pos (p:=λp:Xb×T=>yK p.1 n) hc,List.dropWhile_cons_of_pos (p:=λp:Xb×T=>yK p.1 n) hc,Zp]
   rw[e];refine List.pairwise_cons.2 ⟨λx hx=>?_,jgY n t s h2 λq hq=>hn q (by simp[hq])⟩;rcases jjS.1 hx with hx|hx
   .exact h1 x hx
   .rw [hx];exact hc
  |false=>
   have e:YC (p::s) n t=(n,t)::p::s:=by
    unfold YC;rw[List.takeWhile_cons_of_neg (p:=λp:Xb×T=>yK p.1 n) (by simp[hc]),List.dropWhile_cons_of_neg (p:=λp:Xb×T=>yK p.1 n) (by simp[hc])];rfl
   have hlt:yK n p.1=true:=by
    have h3:=joL n p.1;rw[hc]at h3;have h4:decide (n=p.1)=false:=decide_eq_false λe=>hn p (by simp) e.symm;rw[h4,Bool.or_false]at h3;exact h3
   rw[e];refine List.pairwise_cons.2 ⟨λx hx=>?_,h⟩;rcases jK.1 hx with e|e
   .rw [e];exact hlt
   .exact QR hlt (h1 x e)
theorem jaz:∀(m s:jw),s.Pairwise LtB->(m.map Prod.fst).Nodup->(∀p∈m,∀q∈s,q.1≠p.1)->(m.foldl (λs p=>JW s p.1 p.2) s).Pairwise LtB
 | [],s,h,_,_=>h
 |p::m,s,h,hn,hd=>by
  rw[kK,jdl]at hn;rw[List.foldl_cons];by_cases he:p.2.name=p.1
  .have:JW s p.1 p.2=s:=jg he;rw[this];exact jaz m s h hn.2 λq hq r hr=>hd q (by simp[hq]) r hr
  .have:JW s p.1 p.2=YC s p.1 p.2:=jh he;rw[this];refine jaz m _ (jgY p.1 p.2 s h (hd p (by simp))) hn.2 λq hq r hr=>?_;rcases jjS.1 hr with hr|hr
   .exact hd q (by simp[hq]) r hr
   .rw [hr];intro e;exact hn.1 (yn.2 ⟨q,hq,e.symm⟩)
theorem jdQ:∀(m s:jw),m.foldl (λs p=>JW s p.1 p.2) s=(m.filter λp=> !decide (p.2.name=p.1)).foldl (λs p=>JW s p.1 p.2) s
 | [],s=>rfl
 |p::m,s=>by
  rw[List.foldl_cons,List.filter_cons];by_cases he:p.2.name=p.1
  .rw [jh (by simp[he]),show JW s p.1 p.2=s from jg he];exact jdQ m s
  .rw [jg (by simp[he]),List.foldl_cons];exact jdQ m _
theorem joT{l s:jw}(hn:(l.map Prod.fst).Nodup)(hk:∀p∈l,p.2.name≠p.1)(hp:s.Perm l)(hs:s.Pairwise λa b=>¬zs b.1 a.1<0):s=JK l:=by
 have h1:=jaz l [] List.Pairwise.nil hn λp _ q h=>by cases h
 have h2:=(Y9 l [] hk).2;refine jA2 (R:=LtB) (λa h=>by unfold LtB at h;rw[jaI]at h;cases h) (λa b h h'=>by have:=QR h h';rw[jaI]at this;cases this) ?_ h1 λx=>?_
 .have hne:s.Pairwise λa b=>a.1≠b.1:=by
   have:(s.map Prod.fst).Nodup:=(hp.map Prod.fst).nodup_iff.2 hn;rw[List.nodup_iff_pairwise_ne]at this;exact List.pairwise_map.1 this
  refine(hs.and hne).imp λ{a b} h=>?_;have h3:=joL a.1 b.1;rw[decide_eq_false h.2,Bool.or_false]at h3;show yK a.1 b.1=true;rw[h3];cases hc:yK b.1 a.1 with
  |false=>rfl
  |true=>exact(h.1 ((juF _ _).2 hc)).elim
 .rw [hp.mem_iff];have:=h2 x;simp only[List.not_mem_nil,false_or]at this;exact this.symm
def qc(o:Option jw):Xe:=match o with|some s=>some (.tup [sb s,vb true],[])|none=>some (.tup [.agg [.sl 3 []],vb false],[])
theorem jvs{n:Nat}(h:n<=1000000):jM n 56=true:=jwK (by omega)
theorem jAp(p q:Xb×T):G 276 [.agg (bc p),.agg (bc q)]=some (vi (zs p.1 q.1),[]):=by
 have e:=jbx p.1 q.1;rw[jLs];simp only[je,e]
def jlu(l:jw):jw:=l.filter λp=> !decide (p.2.name=p.1)
theorem jbS{s:jw}(h:jL s=true):(s.map Prod.fst).Nodup:=by
 rw[List.nodup_iff_pairwise_ne,List.pairwise_map];exact(jnN (j5 h).2.1).imp λ{a b} h e=>by rw[e,jaI]at h;cases h
def Y6(s u:jw):jw:=jlu (s.map λq=>(q.1,sub u q.2))++u.filter λq=>(look s q.1).isNone
theorem juP{s u:jw}(hu:jL u=true):JK (Y6 s u)=zz s u:=by
 unfold zz Y6;unfold JK;rw[List.foldl_append,List.foldl_append,jdQ (s.map _)];rfl
theorem jiT{s u:jw}(hs:jL s=true)(hu:jL u=true):(Y6 s u).length<=24/\((Y6 s u).map Prod.fst).Nodup/\(∀p∈Y6 s u,p.2.name≠p.1)/\ ∀p∈Y6 s u,p.1.length<=1000000/\Tz p.2:=by
 obtain⟨ls,_,vs⟩:=j5 hs;obtain⟨lu,_,vu⟩:=j5 hu;have hs2:∀p∈jlu (s.map λq=>(q.1,sub u q.2)),p.2.name≠p.1/\ ∃q∈s,p.1=q.1/\p.2=sub u q.2:=λp hp=>by
  obtain⟨h1,h2⟩:=List.mem_filter.1 hp;obtain⟨q,hq,rfl⟩:=yn.1 h1;exact⟨by simpa using h2,q,hq,rfl,rfl⟩
 refine⟨?_,?_,λp hp=>?_,λp hp=>?_⟩
 .unfold Y6 jlu;have h1:=List.length_filter_le (λp:Xb×T=> !decide (p.2.name=p.1)) (s.map λq=>(q.1,sub u q.2));have h2:=List.length_filter_le (λq:Xb×T=>(look s q.1).isNone) u;rw[zv];rw[List.length_map]at h1;omega
 .unfold Y6;rw[List.map_append];refine ja1.2 ⟨?_,?_,λa ha b hb=>?_⟩
  .have:((jlu (s.map λq=>(q.1,sub u q.2))).map Prod.fst).Sublist (s.map Prod.fst):=by
    have h:=(List.filter_sublist (p:=λp:Xb×T=> !decide (p.2.name=p.1)) (l:=s.map λq=>(q.1,sub u q.2))).map Prod.fst;rw[YT]at h;exact h
   exact(jbS hs).sublist this
  .exact (jbS hu).sublist (List.filter_sublist.map Prod.fst)
  .obtain ⟨p,hp,rfl⟩:=yn.1 ha;obtain⟨q,hq,rfl⟩:=yn.1 hb;obtain⟨_,r,hr,e,_⟩:=hs2 p hp;have h3:=(List.mem_filter.1 hq).2;rw[Option.isNone_iff_eq_none]at h3;intro e2;exact JB.1 h3 r hr (by rw[<-e,e2])
 .rcases kW.1 hp with hp|hp
  .exact (hs2 p hp).1
  .exact (vu p (List.mem_filter.1 hp).1).2.2
 .rcases kW.1 hp with hp|hp
  .obtain ⟨_,q,hq,e1,e2⟩:=hs2 p hp;rw[e1,e2];have h1:=(yw hs).2 q hq;exact⟨h1.1,YY.sub_tz hu (Or.inl (JG hs q hq)) (by have:=Z7 hs q hq;omega)⟩
  .exact (yw hu).2 p (List.mem_filter.1 hp).1
theorem juH{s u:jw}(hs:jL s=true)(hu:jL u=true):SzB (zz s u):=by
 obtain⟨h1,h2,h3,h4⟩:=jiT hs hu;rw[<-juP hu];obtain⟨f1,f2⟩:=Y9 (Y6 s u) [] h3;refine⟨by unfold JK;rw[f1];simp;omega,λq hq=>?_⟩;have:=(f2 q).1 hq;simp only[List.not_mem_nil,false_or]at this;exact h4 q this
theorem jgE(s u:jw)(hs:jL s=true)(hu:jL u=true):G 229 [sb s,sb u]=qc (if jL (zz s u)then some (zz s u)else none):=by
 obtain⟨g1,g2,g3,g4⟩:=jiT hs hu;have ls:=(j5 hs).1;have lu:=(j5 hu).1;obtain⟨so,p1,p2,p3⟩:=jpN K9 Prod.fst bc 3 276 rfl (Y6 s u) (by omega) λx _ y _=>jAp x y;have hso:=joT g2 g3 p1 p2;rw[juP hu]at hso;subst hso;have e1:=jmy (zz s u) (juH hs hu);have fin:jfJ (ZN u) (vi (u.length:Nat)) (vi (u.length:Nat)) (ZN s) [] ((Y6 s u).map bc)=qc (if jL (zz s u)then some (zz s u)else none):=by
  have hC:jsq ((Y6 s u).map bc)=some (.top,[.sl 3 ((zz s u).map bc)]):=by rw[jFF];exact p3
  have r1:hR 3 (A.top,[.sl 3 ((zz s u).map bc)]) 0=some ((zz s u).map bc):=rfl;rw[jzP];cases hv:jL (zz s u)<;>rw[hv]at e1
  .rw [jh Bool.false_ne_true];have e1:(G 273 [sb (zz s u)]).bind (fin true)=some (vb false):=by rw[e1];rfl
   simp only[je,hC,r1,e1];rfl
  .rw [jg rfl];have e1:(G 273 [sb (zz s u)]).bind (fin true)=some (vb true):=by rw[e1];rfl
   simp only[je,hC,r1,e1];rfl
 have k1:=upto (P:=λi=>∀R:jw,R.length<=12+i->R++(u.drop i).filter (λq=>(look s q.1).isNone)=Y6 s u->jfJ (ZN u) (vi (u.length:Nat)) (vi (i:Nat)) (ZN s) [] (R.map bc)=qc (if jL (zz s u)then some (zz s u)else none)) (n:=u.length) ?_ ?_ 0 (Nat.zero_le _);rotate_left
 .intro R _ hR;rw[List.drop_length,List.filter_nil,zm]at hR;rw[hR];exact fin
 .intro i hi ih R hRl hR;have hlt:(i:Int)<((u.length:Nat):Int):=by omega
  have h5:ck ((i:Int)+1)=some (vi ((i+1:Nat):Int)):=jV (by omega) (by omega);have e2:=jke s hs u[i].1;rw[ji hi,List.filter_cons]at hR;rw[jzP];cases hl:look s u[i].1 with
  |some r=>
   rw[hl]at e2 hR;have e2:G 274 [sb s,sv u[i].1]=some (.tup [tm r,vb true],[]):=e2;rw[jh (by simp)]at hR;have:=ih R (by omega) hR;simp only[je,hlt,ja hi,ZB,e2,h5,this]
  |none=>
   rw[hl]at e2 hR;have e2:G 274 [sb s,sv u[i].1]=some (.tup [.agg [sv [],.sl 2 []],vb false],[]):=e2;rw[jg (by simp)]at hR;have:=ih (R++[u[i]]) (by rw[zv];simp only[j8,zO];omega) (by rw[ze];exact hR);have e3:=Jm u[i].2 ((yw hu).2 _ (jr hi)).2;have hf:jM (R.length+1) 56=true:=jvs (by omega);have ha:jR (R.map bc) [[sv u[i].1,sv u[i].2.name,jG u[i].2.args]]=(R++[u[i]]).map bc:=by rw[List.map_append];rfl
   simp only[je,hlt,ja hi,ZB,e2,e3];generalize hB:zH _ _ _=B;have hB':B=some (.agg (bc u[i])):=by rw[<-hB];kernel_rfl
   rw[hB'];simp only[je,hf,ha,h5,this]
 have k0:=upto (P:=λi=>∀R:jw,R.length<=i->R++(jlu ((s.drop i).map λq=>(q.1,sub u q.2))++u.filter λq=>(look s q.1).isNone)=Y6 s u->jih (ZN s) (vi (s.length:Nat)) (vi (i:Nat)) (ZN s) (ZN u) [] (R.map bc)=qc (if jL (zz s u)then some (zz s u)else none)) (n:=s.length) ?_ ?_ 0 (Nat.zero_le _) [] (Nat.zero_le _) rfl
 .simp only[Int.natCast_zero,List.map_nil]at k0;rw[jKW];simp only[je,k0]
 .intro R hRl hR;have:=k1 R (by omega) (by rw[List.drop_zero];rw[List.drop_length]at hR;exact hR);simp only[Int.natCast_zero]at this;rw[jzO];simp only[je,this]
 .intro i hi ih R hRl hR;have hlt:(i:Int)<((s.length:Nat):Int):=by omega
  have h5:ck ((i:Int)+1)=some (vi ((i+1:Nat):Int)):=jV (by omega) (by omega);have hm:=(yw hs).2 _ (jr hi);have e2:=jlb u hu s[i].2 (Or.inl (JG hs _ (jr hi))) hm.2;rw[ji hi,kK,jlu,List.filter_cons]at hR;rw[jzO];by_cases he:(sub u s[i].2).name=s[i].1
  .rw [jh (by simp[he])]at hR;have:=ih R (by omega) hR;simp only[je,hlt,ja hi,ZB,e2,he,h5,this]
  .rw [jg (by simp[he])]at hR;have:=ih (R++[(s[i].1,sub u s[i].2)]) (by rw[zv];simp only[j8,zO];omega) (by rw[ze];exact hR);have hf:jM (R.length+1) 56=true:=jvs (by omega);have ha:jR (R.map bc) [[sv s[i].1,sv (sub u s[i].2).name,jG (sub u s[i].2).args]]=(R++[(s[i].1,sub u s[i].2)]).map bc:=by rw[List.map_append];rfl
   simp only[je,hlt,ja hi,ZB,e2,he,hf,ha,h5,this]
theorem jom(s u:jw)(hs:jL s=true)(hu:jL u=true):G 286 [sb s,sb u]=some (sb (zz s u),[]):=by
 have ls:=(j5 hs).1;have lu:=(j5 hu).1;have r1:∀x:jw,hR 3 (A.top,[ZN x]) 0=some (x.map bc):=λx=>rfl;have k1:=upto (P:=λi=>∀R:jw,R.length<=12+i->(∀q∈R,Tz q.2)->jin (vi (i:Nat)) (ZN s) (ZN u) [] (R.map bc)=some (sb (((u.drop i).filter λq=>(look s q.1).isNone).foldl (λs p=>JW s p.1 p.2) R),[])) (n:=u.length) ?_ ?_ 0 (Nat.zero_le _);rotate_left
 .intro R _ _;rw[jz8,List.drop_length];simp only[je];rfl
 .intro i hi ih R hR hz;have hlt:(i:Int)<((u.length:Nat):Int):=by omega
  have h5:ck ((i:Int)+1)=some (vi ((i+1:Nat):Int)):=jV (by omega) (by omega);have hm:=(yw hu).2 _ (jr hi);rw[jz8,ji hi,List.filter_cons];rcases jlB s (by omega) u[i].1 with⟨h1,h2⟩|⟨k,hk,h1,h2⟩
  .have e3:=joC R (by omega) u[i].1 u[i].2 hm.2;have:=ih (JW R u[i].1 u[i].2) (by have:=je8 R u[i].1 u[i].2;omega) λq hq=>(jjR hq).elim (hz q) λe=>by rw[e];exact hm.2
   rw[h1,jg (by simp),List.foldl_cons];simp only[je,hlt,ja hi,Yy,h2,e3,r1,h5,this]
  .have:=ih R (by omega) hz;have hk0:¬((k:Nat):Int)<0:=by omega
   rw[h1,jh (by simp)];simp only[je,hlt,ja hi,h2,hk0,h5,this]
 have k0:=upto (P:=λi=>∀R:jw,R.length<=i->(∀q∈R,Tz q.2)->jnw (vi (i:Nat)) (ZN s) (ZN u) [] (R.map bc)=some (sb ((u.filter λq=>(look s q.1).isNone).foldl (λs p=>JW s p.1 p.2) (((s.drop i).map λq=>(q.1,sub u q.2)).foldl (λs p=>JW s p.1 p.2) R)),[])) (n:=s.length) ?_ ?_ 0 (Nat.zero_le _) [] (Nat.zero_le _) (λq h=>by cases h)
 .simp only[Int.natCast_zero,List.map_nil,List.drop_zero]at k0;rw[jLw];simp only[je,k0];rw[<-List.foldl_append];rfl
 .intro R hR hz;have:=k1 R (by omega) hz;simp only[Int.natCast_zero,List.drop_zero]at this;rw[jz7,List.drop_length];simp only[je,this];rfl
 .intro i hi ih R hR hz;have hlt:(i:Int)<((s.length:Nat):Int):=by omega
  have h5:ck ((i:Int)+1)=some (vi ((i+1:Nat):Int)):=jV (by omega) (by omega);have hm:=(yw hs).2 _ (jr hi);have ht:Tz (sub u s[i].2):=YY.sub_tz hu (Or.inl (JG hs _ (jr hi))) (by have:=Z7 hs _ (jr hi);omega);have e2:=KR u (yw hu).sz s[i].2 hm.2;have e3:=joC R (by omega) s[i].1 (sub u s[i].2) ht;have:=ih (JW R s[i].1 (sub u s[i].2)) (by have:=je8 R s[i].1 (sub u s[i].2);omega) λq hq=>(jjR hq).elim (hz q) λe=>by rw[e];exact ht
  rw[jz7,ji hi,kK,List.foldl_cons];simp only[je,hlt,ja hi,Yy,e2,e3,r1,h5,this]
theorem jpA(s u:jw)(hs:jL s=true)(hu:SzB u):G 252 [sb s,sb u]=qc (if jL u && jL (zz s u)then some (zz s u)else none):=by
 have e1:=jcP s (yw hs);have e2:=jcP u hu;rw[hs]at e1;rw[jLb];cases hv:jL u<;>rw[hv]at e2
 .rw [Bool.false_and,jh Bool.false_ne_true];simp only[je,e1,e2];rfl
 .have e3:=jom s u hs hv;have e4:=jcP (zz s u) (juH hs hv);rw[Bool.true_and];cases hc:jL (zz s u)<;>rw[hc]at e4
  .rw [jh Bool.false_ne_true];simp only[je,e1,e2,e3,e4];rfl
  .rw [jg rfl];simp only[je,e1,e2,e3,e4];rfl
inductive Hgt(s:jw):Nat->Jy->Prop
 |nil (r:Nat):Hgt s r []
 |blk (r τ δ:Nat) (b es:Jy):9*τ+(8-δ)<r->τ<=s.length+1->δ<=8->b.length<=4->(τ=s.length+1-> ∀p∈b,sub s p.1=p.1/\sub s p.2=p.2/\YU p.1<=δ/\YU p.2<=δ)->Hgt s (9*τ+(8-δ)) es->Hgt s r (b++es)
theorem Hgt.len{s:jw}{r:Nat}{es:Jy}(h:Hgt s r es):es.length<=4*r:=by
 induction h with
 |nil r=>exact Nat.zero_le _
 |blk r τ δ b es h1 _ _ h4 _ _ ih=>rw[zv];omega
theorem Hgt.mono{s:jw}{r r':Nat}{es:Jy}(h:Hgt s r es)(hr:r<=r'):Hgt s r' es:=by
 induction h with
 |nil=>exact Hgt.nil _
 |blk r τ δ b es h1 h2 h3 h4 h5 h6 _=>exact Hgt.blk r' τ δ b es (by omega) h2 h3 h4 h5 h6
theorem Hgt.grow{s s':jw}(hs:s.length<s'.length){r:Nat}{es:Jy}(h:Hgt s r es):Hgt s' r es:=by
 induction h with
 |nil r=>exact Hgt.nil _
 |blk r τ δ b es h1 h2 h3 h4 h5 _ ih=>exact Hgt.blk r τ δ b es h1 (by omega) h3 h4 (λh=>by omega) ih
theorem Hgt.pop{s:jw}{r:Nat}{es:Jy}(h:Hgt s r es):∀{p:T×T}{rest:Jy},es=p::rest-> ∃τ δ,9*τ+(8-δ)<r/\τ<=s.length+1/\δ<=8/\(τ=s.length+1->sub s p.1=p.1/\sub s p.2=p.2/\YU p.1<=δ/\YU p.2<=δ)/\Hgt s (9*τ+(8-δ)+1) rest:=by
 induction h with
 |nil r=>intro p rest h;cases h
 |blk r τ δ b es h1 h2 h3 h4 h5 h6 ih=>
  intro p rest he;cases b with
  |nil=>
   obtain⟨τ',δ',g1,g2⟩:=ih he;exact⟨τ',δ',by omega,g2⟩
  |cons q b=>
   rw[Zp,KH]at he;obtain⟨rfl,rfl⟩:=he;rw[j8]at h4;exact⟨τ,δ,h1,h2,h3,λh=>h5 h q (by simp),Hgt.blk _ τ δ b es (by omega) h2 h3 (by omega) (λh x hx=>h5 h x (by simp[hx])) h6⟩
theorem jeY{t:T}(h:YY t):t.args.length<=4:=by
 rcases h with h|h
 .cases hv:js t.name with
  |true=>rw[qP h hv];simp
  |false=>
   rw[yA,hv,jh Bool.false_ne_true,jI,jI,ky]at h;exact h.2.1
 .omega
theorem qO{s:jw}{l r:T}{rest:Jy}(h:K6 s ((l,r)::rest))(hg:Hgt s 126 ((l,r)::rest)){s':jw}{es:Jy}(hst:yM s l r rest=some (s',es)):Hgt s' 126 es:=by
 obtain⟨τ,δ,g1,g2,g3,g4,g5⟩:=hg.pop rfl;have hrest:Hgt s 126 rest:=g5.mono (by omega);have hl:=(j5 h.1).1;obtain⟨_,hor⟩:=ym h hst;by_cases hlen:s'.length=s.length+1
 .have hst':=hst;unfold yM at hst;split at hst
  .cases hst
  split at hst
  .cases hst;omega
  split at hst
  .split at hst
   .cases hst
   .cases hst;exact hrest.grow (by omega)
  .split at hst
   .cases hst;omega
   .cases hst
 .have hs:s'=s:=hor.elim (λh=>h.1) λh=>(hlen h).elim;subst hs;obtain⟨hv,hi,he⟩:=h;obtain⟨el,er⟩:=he (l,r) (by simp);unfold yM at hst;split at hst
  .cases hst
  rename_i hsm;split at hst
  .cases hst;exact hrest
  split at hst
  .rename_i hvar;split at hst
   .cases hst
   .rename_i hno;simp only[zI,Jd]at hst;rw[<-hst.2];exact hrest
  rename_i hnv;split at hst;rotate_left
  .cases hst
  simp only[zI,Jd,true_and]at hst;subst hst;have sm:∀t,¬jF t=false->YU t<=8:=λt ht=>by
   have:jF t=true:=by cases h:jF t with|true=>rfl|false=>exact(ht h).elim
   simp only[jF,jI,ky]at this;exact this.2
  have d1:=sm (sub s' l) λh=>hsm (Or.inl h);have d2:=sm (sub s' r) λh=>hsm (Or.inr h);have v1:js (sub s' l).name=false:=by
   cases h:js (sub s' l).name with
   |false=>rfl
   |true=>exact absurd (Or.inl h) hnv
  have v2:js (sub s' r).name=false:=by
   cases h:js (sub s' r).name with
   |false=>rfl
   |true=>exact absurd (Or.inr h) hnv
  have xl:YY (sub s' l):=YY.sub hv el.1;have xr:YY (sub s' r):=YY.sub hv er.1;have arg:∀w:T,YY (sub s' w)->js (sub s' w).name=false->IdS s'-> ∀u∈(sub s' w).args,sub s' u=u/\YU u+1<=YU (sub s' w):=λw xw vw hi u hu=>by
   refine⟨jgm u (xw.elim (λh=>kO h u hu) λh=>h.2.2 u hu) λx hx=>YQ hi w (by rw[vsf vw,qt];exact⟨u,hu,hx⟩),?_⟩
   have:=jpI hu;rw[Zw (sub s' w)];omega
  have p1:=Zw (sub s' l);have p2:=Zw (sub s' r);refine Hgt.blk 126 (s'.length+1) (max (YU (sub s' l)) (YU (sub s' r))-1) _ rest (by omega) (j4 _) (by omega) ?_ (λ_ p hp=>?_) (g5.mono ?_)
  .rw [List.length_zip];have:=jeY xl;omega
  .have hm:=List.of_mem_zip (a:=p.1) (b:=p.2) hp;have q1:=arg l xl v1 hi p.1 hm.1;have q2:=arg r xr v2 hi p.2 hm.2;exact⟨q1.1,q2.1,by omega,by omega⟩
  .by_cases hτ:τ=s'.length+1
   .obtain ⟨w1,w2,w3,w4⟩:=g4 hτ;have w3:YU l<=δ:=w3;have w4:YU r<=δ:=w4;have w1:YU (sub s' l)=YU l:=congrArg YU w1;have w2:YU (sub s' r)=YU r:=congrArg YU w2;omega
   .omega
theorem jH7(a b:T):Hgt [] 126 [(a,b)]:=Hgt.blk 126 0 8 [(a,b)] [] (by omega) (by omega) (by omega) (by simp) (λh=>by simp at h) (Hgt.nil _)
theorem jhf{n:Nat}(h:n<=100000):jM n 80=true:=by
 unfold jM;exact decide_eq_true ⟨by omega,by omega⟩
theorem jiz{x y:T}(h:js x.name=true\/js y.name=true):js (jE x y).1=true/\(((jE x y).1=y.name/\(jE x y).2=x)\/((jE x y).1=x.name/\(jE x y).2=y)):=by
 unfold jE;split
 .rename_i hc;refine⟨?_,Or.inl ⟨rfl,rfl⟩⟩;rcases hc with hc|hc
  .rcases h with h|h
   .rw [hc]at h;cases h
   .exact h
  .exact hc.1
 .rename_i hc;refine⟨?_,Or.inr ⟨rfl,rfl⟩⟩;rcases Bool.eq_false_or_eq_true (js x.name)with h2|h2
  .exact h2
  .exact absurd (Or.inl h2) hc
theorem jws{p:Xb×T}(hn:js p.1=true):(!decide ((0:Int)<(cnt p.1 p.2:Nat)) && jL [p])=(!decide (p.1∈kL p.2) && jL [p]):=by
 cases hv:jL [p]with
 |false=>rw[Bool.and_false,Bool.and_false]
 |true=>
  have hk:zy p.2=true:=JG hv p (by simp);have:=jBO hn p.2 hk;rw[Bool.and_true,Bool.and_true];congr 1;exact decide_eq_decide.2 (by rw[this];omega)
theorem jAH{p:Xb×T}(hn:js p.1=true)(hz:Tz p.2):SzB [p]:=⟨by simp,λq hq=>by
 rw[zx.1 hq];exact⟨by have:=jft hn;omega,hz⟩⟩
theorem jet(x y:T)(hx:YY x)(hy:YY y)(nx:nodes x<=3000)(ny:nodes y<=3000)(h:js x.name=true\/js y.name=true):G 228 [.agg [sv x.name,jG x.args,sv y.name,jG y.args]]=some (.tup [sb [jE x y],vb (!decide ((jE x y).1∈kL (jE x y).2) && jL [jE x y])],[]):=by
 have e1:=qS x (hx.imp id λh=>h.1);have e2:=qS y (hy.imp id λh=>h.1);obtain⟨hv,hor⟩:=jiz h;have hz:Tz (jE x y).2:=by
  rcases hor with h|h
  .rw [h.2];exact hx.tz (by omega)
  .rw [h.2];exact hy.tz (by omega)
 have hn:nodes (jE x y).2<=3000:=by
  rcases hor with h|h
  .rw [h.2];exact nx
  .rw [h.2];exact ny
 have e3:=Ks (jE x y).1 (jE x y).2 hz.wf (by omega);have e4:G 272 [sv (jE x y).1,tm (jE x y).2]=some (vb (decide ((0:Int)<(cnt (jE x y).1 (jE x y).2:Nat))),[]):=by
  rw[jLp];simp only[je,e3]
 have e5:=jmy [jE x y] (jAH hv hz);have e5:G 273 [.agg [.sl 3 [[sv (jE x y).1,sv (jE x y).2.name,jG (jE x y).2.args]]]]=some (vb (jL [jE x y]),[]):=e5;rw[<-jws hv,jKV];generalize hb:jL [jE x y]=vv at *;generalize ho:decide ((0:Int)<(cnt (jE x y).1 (jE x y).2:Nat))=oo at *;have hsb:sb [jE x y] = .agg [.sl 3 [[sv (jE x y).1,sv (jE x y).2.name,jG (jE x y).2.args]]]:=rfl;rw[hsb];have e5:(G 273 [.agg [.sl 3 [[sv (jE x y).1,sv (jE x y).2.name,jG (jE x y).2.args]]]]).bind (fin true)=some (vb vv):=by rw[e5];rfl
 cases hx1:js x.name<;>rw[hx1]at e1
 .have hbd:jE x y=(y.name,x):=jg (Or.inl hx1);rw[hbd]at e4 e5⊢;have e4:G 272 [sv y.name,tm x]=some (vb oo,[]):=e4;have e5:(G 273 [.agg [.sl 3 [[sv y.name,sv x.name,jG x.args]]]]).bind (fin true)=some (vb vv):=e5;cases oo
  .simp only[je,e1,e4,e5,Bool.true_and]
  .simp only[je,e1,e4,Bool.false_and]
 .cases hy1:js y.name<;>rw[hy1]at e2
  .have hbd:jE x y=(x.name,y):=jh (by rw[hx1,hy1];simp)
   rw[hbd]at e4 e5⊢;have e4:G 272 [sv x.name,tm y]=some (vb oo,[]):=e4;have e5:(G 273 [.agg [.sl 3 [[sv x.name,sv y.name,jG y.args]]]]).bind (fin true)=some (vb vv):=e5;cases oo
   .simp only[je,e1,e2,e4,e5,Bool.true_and]
   .simp only[je,e1,e2,e4,Bool.false_and]
  .have e6:=jgb false y.name x.name;cases hc:yK x.name y.name<;>rw[hc]at e6
   .have hbd:jE x y=(x.name,y):=jh (by rw[hx1,hy1,hc];simp)
    rw[hbd]at e4 e5⊢;have e4:G 272 [sv x.name,tm y]=some (vb oo,[]):=e4;have e5:(G 273 [.agg [.sl 3 [[sv x.name,sv y.name,jG y.args]]]]).bind (fin true)=some (vb vv):=e5;cases oo
    .simp only[je,e1,e2,e6,e4,e5,Bool.true_and]
    .simp only[je,e1,e2,e6,e4,Bool.false_and]
   .have hbd:jE x y=(y.name,x):=jg (Or.inr ⟨hy1,hc⟩);rw[hbd]at e4 e5⊢;have e4:G 272 [sv y.name,tm x]=some (vb oo,[]):=e4;have e5:(G 273 [.agg [.sl 3 [[sv y.name,sv x.name,jG x.args]]]]).bind (fin true)=some (vb vv):=e5;cases oo
    .simp only[je,e1,e2,e6,e4,e5,Bool.true_and]
    .simp only[je,e1,e2,e6,e4,Bool.false_and]
theorem jlC(s:jw)(hs:jL s=true)(n:Xb)(t:T)(hn:js n=true)(ht:Tz t)(hk:n∈kL t\/t.name≠n):∃z:jw,G 212 [sb s,sv n,tm t]=some (if !decide (n∈kL t) && (jL [(n,t)] && jL (zz s [(n,t)]))then .tup [sb (zz s [(n,t)]),vb true]else .tup [sb z,vb false],[]):=by
 obtain⟨r,e1,hr,hl⟩:=jlA t ht.wf (by have:=qN t;have:=ht;unfold Tz at this;omega)
 have e2:=jol r n hl;have hc:r.contains n=decide (n∈kL t):=by
  cases h:r.contains n with
  |true=>rw[List.contains_iff_mem,hr]at h;exact(decide_eq_true h).symm
  |false=>
   refine(decide_eq_false λh2=>?_).symm;rw[<-hr,<-List.contains_iff_mem,h]at h2;cases h2
 rw[hc]at e2;rw[jKH];by_cases hm:n∈kL t
 .refine ⟨s,?_⟩;rw[decide_eq_true hm]at e2;rw[decide_eq_true hm,Bool.not_true,Bool.false_and,jh Bool.false_ne_true];simp only[je,e1,e2]
 .refine ⟨[],?_⟩;have hne:¬t.name=n:=hk.resolve_left hm;rw[decide_eq_false hm]at e2;rw[decide_eq_false hm,Bool.not_false,Bool.true_and];have e3:jsp (sv n) (sv t.name) (jG t.args) []=some (.top,[.sl 3 [[sv n,sv t.name,jG t.args]]]):=by
   have k1:pB (zX []) (zj [] 0) (some (vi 0))=some 0:=rfl;have k2:pB (zX []) (zj [] 0) none=some 0:=rfl;have k3:pB 0 0 (some (vi 0))=some 0:=rfl;have k4:yI [] 0 (kz 0 0)=[]:=rfl;have k5:jR (jR [] [[sv n,sv t.name,jG t.args]]) []=[[sv n,sv t.name,jG t.args]]:=rfl;have f0:jM 0 56=true:=jvs (by omega);have f1:jM 1 56=true:=jvs (by omega);have f2:(jR [] [[sv n,sv t.name,jG t.args]]).length=1:=rfl;have eo:=jbW t ht;have h00:¬((0:Int)<((0:Nat):Int)):=by omega
   rw[jFD];simp only[je,hne];rw[jz1];simp only[je,h00,k1,k2,k3,k4,f0,f1,eo];generalize hB:zH _ _ _=B;have hB':B=some (.agg [sv n,sv t.name,jG t.args]):=by rw[<-hB];kernel_rfl
   rw[hB'];simp only[je,f1,k5,f2,j6]
  have e4:=jpA s [(n,t)] hs (jAH hn ht);have r1:hR 3 (A.top,[.sl 3 [[sv n,sv t.name,jG t.args]]]) 0=some [[sv n,sv t.name,jG t.args]]:=rfl;have e4:G 252 [sb s,.agg [.sl 3 [[sv n,sv t.name,jG t.args]]]]=_:=e4;cases hb:jL [(n,t)] && jL (zz s [(n,t)])
  .rw [hb,jh Bool.false_ne_true]at e4;have e4:G 252 [sb s,.agg [.sl 3 [[sv n,sv t.name,jG t.args]]]]=some (.tup [.agg [.sl 3 []],vb false],[]):=e4;rw[jh Bool.false_ne_true];simp only[je,e1,e2,e3,r1,e4];rfl
  .rw [hb,jg rfl]at e4;have e4:G 252 [sb s,.agg [.sl 3 [[sv n,sv t.name,jG t.args]]]]=some (.tup [sb (zz s [(n,t)]),vb true],[]):=e4;rw[jg rfl];simp only[je,e1,e2,e3,r1,e4]
abbrev ec(p:T×T):Xd:=[sv p.1.name,jG p.1.args,sv p.2.name,jG p.2.args]
theorem jb5{W:Jy}{i:Nat}{p:T×T}(h:W[i]? = some p):ZJ (W.map ec) i 0 2=some (tm p.1)/\ZJ (W.map ec) i 2 2=some (tm p.2):=by
 unfold ZJ;rw[qu,h];exact⟨rfl,rfl⟩
theorem Kh{W rest:Jy}{p:T×T}{off:Nat}(h:W.drop off=p::rest):W[off]? = some p/\W.drop (off+1)=rest/\W.length=off+rest.length+1:=by
 have h1:=congrArg (λl=>l[0]?) h;simp only[jcn,j6,List.getElem?_cons_zero]at h1;have h2:=congrArg (List.drop 1) h;rw[List.drop_drop]at h2;have h3:=congrArg List.length h;rw[List.length_drop,j8]at h3;exact⟨h1,h2,by omega⟩
theorem jfv{us vs:Xg}{i:Nat}(h1:i<us.length)(h2:i<vs.length):jR (((us.zip vs).take i).map ec) [[sv us[i].name,jG us[i].args,sv vs[i].name,jG vs[i].args]]=((us.zip vs).take (i+1)).map ec:=by
 have hl:i<(us.zip vs).length:=by rw[List.length_zip];omega
 rw[List.take_add_one,j7 hl,List.map_append,List.getElem_zip];rfl
theorem jck{W:Jy}(off:Nat):yI (W.map ec) off (W.length-off)=(W.drop off).map ec:=by
 rw[Z2,<-List.map_drop,yN (by rw[List.length_map,List.length_drop];omega)]
theorem jcM{s:jw}{l r:T}{rest:Jy}(h1:jF (sub s l)=true)(h2:jF (sub s r)=true)(h3:dq (sub s l) (sub s r)=true):yM s l r rest=some (s,rest):=by
 unfold yM;rw[jh (by rw[h1,h2];simp),jg h3]
theorem jcK{s:jw}{l r:T}{rest:Jy}(h1:jF (sub s l)=true)(h2:jF (sub s r)=true)(h3:dq (sub s l) (sub s r)=false)(h4:js (sub s l).name=true\/js (sub s r).name=true):yM s l r rest=if(!decide ((jE (sub s l) (sub s r)).1∈kL (jE (sub s l) (sub s r)).2) && jL [jE (sub s l) (sub s r)]) && jL (zz s [jE (sub s l) (sub s r)])then some (zz s [jE (sub s l) (sub s r)],rest)else none:=by
 unfold yM;rw[jh (by rw[h1,h2];simp),jh (by rw[h3];simp),jg h4];generalize jE (sub s l) (sub s r)=p;by_cases c1:p.1∈kL p.2
 .rw [jg (Or.inl c1),decide_eq_true c1];rfl
 .rw [decide_eq_false c1];cases c2:jL [p]
  .rw [jg (Or.inr (Or.inl rfl))];rfl
  .cases c3:jL (zz s [p])
   .rw [jg (Or.inr (Or.inr rfl))];rfl
   .rw [jh (by simp[c1])];rfl
theorem jcL{s:jw}{l r:T}{rest:Jy}(h1:jF (sub s l)=true)(h2:jF (sub s r)=true)(h3:dq (sub s l) (sub s r)=false)(h4:js (sub s l).name=false)(h5:js (sub s r).name=false):yM s l r rest=if(sub s l).name=(sub s r).name/\(sub s l).args.length=(sub s r).args.length then some (s,(sub s l).args.zip (sub s r).args++rest)else none:=by
 unfold yM;rw[jh (by rw[h1,h2];simp),jh (by rw[h3];simp),jh (by rw[h4,h5];simp)]
theorem kN{k:Nat}{s:jw}{l r:T}{rest:Jy}{res:Option jw}(hst:yM s l r rest=none)(h:zh (k+1) s ((l,r)::rest)=some res):res=none:=by
 rw[zh,hst]at h;exact(jaZ h).symm
theorem yC{k:Nat}{s:jw}{l r:T}{rest:Jy}{res:Option jw}{q:jw×Jy}(hst:yM s l r rest=some q)(h:zh (k+1) s ((l,r)::rest)=some res):zh k q.1 q.2=some res:=by
 rw[zh,hst]at h;exact h
theorem jaL{s:jw}{l r:T}{rest:Jy}(h:K6 s ((l,r)::rest)):YY l/\YY r/\nodes l<=31/\nodes r<=31:=by
 obtain⟨h1,h2⟩:=h.2.2 (l,r) (by simp);exact⟨h1.1,h2.1,h1.2,h2.2⟩
theorem jF2(s:jw)(W:Jy)(off:Nat)(hW:W.length<=1000)(x y:T)(hl:x.args.length=y.args.length)(h4:x.args.length<=4) :
  jm7 (nA off) (nA (W.length-off)) (jG x.args) (vi (x.args.length:Nat)) (vi 0) (ZN s) (sv y.name) (jG y.args) (W.map ec) [] []=jfH (ZN s) ((x.args.zip y.args++W.drop off).map ec) []:=by
 have h1:zq (nA off)=off:=rfl;have h2:zq (nA (W.length-off))=W.length-off:=rfl;have hend:jM (((x.args.zip y.args).map ec).length+((W.drop off).map ec).length) 80=true:=by
  rw[List.length_map,List.length_map,List.length_zip,List.length_drop];exact jhf (by omega)
 have hzl:((x.args.zip y.args).map ec).length=x.args.length:=by rw[List.length_map,List.length_zip];omega
 have happ:jR ((x.args.zip y.args).map ec) ((W.drop off).map ec)=(x.args.zip y.args++W.drop off).map ec:=by rw[List.map_append];rfl
 have step:∀i,(hi:i<x.args.length)->(hi2:i<y.args.length)->jR (((x.args.zip y.args).take i).map ec) [[sv x.args[i].name,jG x.args[i].args,sv y.args[i].name,jG y.args[i].args]]=((x.args.zip y.args).take (i+1)).map ec:=λi hi hi2=>jfv hi hi2;have key:=upto (P:=λi=>jsz (nA off) (nA (W.length-off)) (jG x.args) (vi (x.args.length:Nat)) (vi (i:Nat)) (ZN s) (sv y.name) (jG y.args) (W.map ec) (((x.args.zip y.args).take i).map ec) []=jfH (ZN s) ((x.args.zip y.args++W.drop off).map ec) []) (n:=x.args.length) ?_ ?_
 .have hend2:(x.args.zip y.args).take x.args.length=x.args.zip y.args:=yN (by rw[List.length_zip];omega)
  rw[jGc];by_cases h0:0<x.args.length
  .have hi:=h0;have hi2:0<y.args.length:=by omega
   have hlt:(0:Int)<((x.args.length:Nat):Int):=by omega
   have ix:=ja (k:=2) (f:=jm) hi;have ix2:=ja (k:=2) (f:=jm) hi2;have ta:=step 0 hi hi2;simp only[List.take_zero,List.map_nil,Int.natCast_zero,yd]at ta ix ix2;have hf:jM 1 80=true:=jhf (by omega);have hck:ck (0+1)=some (vi ((1:Nat):Int)):=jV (n:=0+1) (by omega) (by omega);have key:=key 1 (by omega);rw[<-key];simp only[je,hlt,ix,ix2,jd,hf,ta,hck,h1,h2]
  .have hlt:¬(0:Int)<((x.args.length:Nat):Int):=by omega
   have he:x.args=[]:=jfw (by omega);have hz:x.args.zip y.args=[]:=by rw[he];rfl
   rw[hz]at hend happ⊢;have hend:jM ((W.drop off).map ec).length 80=true:=by simpa using hend
   have happ:jR [] ((W.drop off).map ec)=(W.drop off).map ec:=rfl;simp only[je,hlt,h1,h2,jck,yF];rw[List.length_map]at hend;simp only[je,hend,happ]
 .have hend2:(x.args.zip y.args).take x.args.length=x.args.zip y.args:=yN (by rw[List.length_zip];omega)
  rw[hend2,jzz];have hlt:¬((x.args.length:Nat):Int)<((x.args.length:Nat):Int):=by omega
  rw[hzl,List.length_map]at hend;simp only[je,hlt,h1,h2,jck,happ];rw[List.length_zip,Nat.min_eq_left (by omega)];simp only[je,hend]
 .intro i hi ih;have hi2:i<y.args.length:=by omega
  have hlt:((i:Nat):Int)<((x.args.length:Nat):Int):=by omega
  have ta:=step i hi hi2;have li:(((x.args.zip y.args).take i).map ec).length=i:=take_len (by rw[List.length_zip];omega);have hf:jM (i+1) 80=true:=jhf (by omega);have hck:ck ((i:Int)+1)=some (vi ((i+1:Nat):Int)):=jV (by omega) (by omega);generalize ((x.args.zip y.args).take i).map ec=R at *;rw[jzz,<-ih];simp only[je,hlt,ja hi,ja hi2,jd,li,hf,ta,hck,h1,h2]
theorem jF1(W:Jy)(off:Nat)(hW:W.length<=1000)(x y:T)(hl:x.args.length=y.args.length)(h4:x.args.length<=4) :
  jm6 (nA off) (nA (W.length-off)) (jG x.args) (vi (x.args.length:Nat)) (vi 0) (sv y.name) (jG y.args) (W.map ec) [] [] []=jdr ((x.args.zip y.args++W.drop off).map ec) [] []:=by
 have h1:zq (nA off)=off:=rfl;have h2:zq (nA (W.length-off))=W.length-off:=rfl;have hend:jM (((x.args.zip y.args).map ec).length+((W.drop off).map ec).length) 80=true:=by
  rw[List.length_map,List.length_map,List.length_zip,List.length_drop];exact jhf (by omega)
 have hzl:((x.args.zip y.args).map ec).length=x.args.length:=by rw[List.length_map,List.length_zip];omega
 have happ:jR ((x.args.zip y.args).map ec) ((W.drop off).map ec)=(x.args.zip y.args++W.drop off).map ec:=by rw[List.map_append];rfl
 have step:∀i,(hi:i<x.args.length)->(hi2:i<y.args.length)->jR (((x.args.zip y.args).take i).map ec) [[sv x.args[i].name,jG x.args[i].args,sv y.args[i].name,jG y.args[i].args]]=((x.args.zip y.args).take (i+1)).map ec:=λi hi hi2=>jfv hi hi2;have key:=upto (P:=λi=>jsy (nA off) (nA (W.length-off)) (jG x.args) (vi (x.args.length:Nat)) (vi (i:Nat)) (sv y.name) (jG y.args) (W.map ec) (((x.args.zip y.args).take i).map ec) [] []=jdr ((x.args.zip y.args++W.drop off).map ec) [] []) (n:=x.args.length) ?_ ?_
 .have hend2:(x.args.zip y.args).take x.args.length=x.args.zip y.args:=yN (by rw[List.length_zip];omega)
  rw[jGb];by_cases h0:0<x.args.length
  .have hi:=h0;have hi2:0<y.args.length:=by omega
   have hlt:(0:Int)<((x.args.length:Nat):Int):=by omega
   have ix:=ja (k:=2) (f:=jm) hi;have ix2:=ja (k:=2) (f:=jm) hi2;have ta:=step 0 hi hi2;simp only[List.take_zero,List.map_nil,Int.natCast_zero,yd]at ta ix ix2;have hf:jM 1 80=true:=jhf (by omega);have hck:ck (0+1)=some (vi ((1:Nat):Int)):=jV (n:=0+1) (by omega) (by omega);have key:=key 1 (by omega);rw[<-key];simp only[je,hlt,ix,ix2,jd,hf,ta,hck,h1,h2]
  .have hlt:¬(0:Int)<((x.args.length:Nat):Int):=by omega
   have he:x.args=[]:=jfw (by omega);have hz:x.args.zip y.args=[]:=by rw[he];rfl
   rw[hz]at hend happ⊢;have hend:jM ((W.drop off).map ec).length 80=true:=by simpa using hend
   have happ:jR [] ((W.drop off).map ec)=(W.drop off).map ec:=rfl;simp only[je,hlt,h1,h2,jck,yF];rw[List.length_map]at hend;simp only[je,hend,happ]
 .have hend2:(x.args.zip y.args).take x.args.length=x.args.zip y.args:=yN (by rw[List.length_zip];omega)
  rw[hend2,jzy];have hlt:¬((x.args.length:Nat):Int)<((x.args.length:Nat):Int):=by omega
  rw[hzl,List.length_map]at hend;simp only[je,hlt,h1,h2,jck,happ];rw[List.length_zip,Nat.min_eq_left (by omega)];simp only[je,hend]
 .intro i hi ih;have hi2:i<y.args.length:=by omega
  have hlt:((i:Nat):Int)<((x.args.length:Nat):Int):=by omega
  have ta:=step i hi hi2;have li:(((x.args.zip y.args).take i).map ec).length=i:=take_len (by rw[List.length_zip];omega);have hf:jM (i+1) 80=true:=jhf (by omega);have hck:ck ((i:Int)+1)=some (vi ((i+1:Nat):Int)):=jV (by omega) (by omega);generalize ((x.args.zip y.args).take i).map ec=R at *;rw[jzy,<-ih];simp only[je,hlt,ja hi,ja hi2,jd,li,hf,ta,hck,h1,h2]
def US(s:jw)(es:Jy)(o:Xe):Prop:=
 (∀(W:Jy)(off:Nat),W.drop off=es->off<=W.length->W.length<=1000->Q6 (nA off) (nA (W.length-off)) (ZN s) (W.map ec) []=o)/\jfH (ZN s) (es.map ec) []=o/\
 (s=[]->(∀(W:Jy)(off:Nat),W.drop off=es->off<=W.length->W.length<=1000->jic (nA off) (nA (W.length-off)) (W.map ec) [] []=o)/\jdr (es.map ec) [] []=o)
theorem un2(k:Nat)(ih:∀(s:jw)(es:Jy)(res:Option jw),K6 s es->Hgt s 126 es->zh k s es=some res->US s es (qc res))(s:jw)(l r:T)(rest:Jy)(hi:K6 s ((l,r)::rest))(hg:Hgt s 126 ((l,r)::rest))(res:Option jw)(hu:zh (k+1) s ((l,r)::rest)=some res)(W:Jy)(off:Nat)(hW:W.drop off=(l,r)::rest)(hlen:W.length<=1000):Q6 (nA off) (nA (W.length-off)) (ZN s) (W.map ec) []=qc res:=by
 obtain⟨d1,d2,d3⟩:=Kh hW;obtain⟨r1,r2⟩:=jb5 d1;obtain⟨al,ar,nl,nr⟩:=jaL hi;have hv:=hi.1;have e1:=Ji s hv l al (by omega);have e2:=Ji s hv r ar (by omega);have w1:zq (nA off)=off:=rfl;have w2:zq (nA (W.length-off))=W.length-off:=rfl;have g1:jy .gtr false (nA (W.length-off)) (vi 0)=some (vb true):=by
  show some (vb (decide ((0:Int)<((W.length-off:Nat):Int))))=_;rw[decide_eq_true (by omega)]
 have g2:Zt (W.length-off) (vi 0)=some 0:=zg (i:=0) (by omega);have g3:pB (W.length-off) (zj (W.map ec) off) none=some (W.length-off):=by
  rw[show zj (W.map ec) off=W.length-off by rw[yu,List.length_map]];exact zn (j4 _)
 have g4:pB 0 (W.length-off) (some (vi 1))=some 1:=yW (n:=1) (by omega);have hn:kz (W.length-off) 1=W.length-(off+1):=by unfold kz;omega
 rw[js7];cases sl:jF (sub s l)<;>rw[sl]at e1
 .have e1:G 198 [sb s,tm l]=some (.tup [.agg [sv [],.sl 2 []],vb false],[]):=e1;have hr:res=none:=kN (by unfold yM;rw[jg (Or.inl sl)]) hu;subst hr;obtain⟨q,e2⟩:∃q:T×Bool,G 198 [sb s,tm r]=some (.tup [tm q.1,vb q.2],[]):=by
   cases h:jF (sub s r)<;>rw[h]at e2
   .exact ⟨(.mk [] [],false),e2⟩
   .exact ⟨(sub s r,true),e2⟩
  simp only[je,w1,w2,g1,g2,g3,g4,j6,r1,r2,e1,e2];rfl
 have e1:G 198 [sb s,tm l]=some (.tup [tm (sub s l),vb true],[]):=e1;cases sr:jF (sub s r)<;>rw[sr]at e2
 .have e2:G 198 [sb s,tm r]=some (.tup [.agg [sv [],.sl 2 []],vb false],[]):=e2;have hr:res=none:=kN (by unfold yM;rw[jg (Or.inr sr)]) hu;subst hr;simp only[je,w1,w2,g1,g2,g3,g4,j6,r1,r2,e1,e2];rfl
 have e2:G 198 [sb s,tm r]=some (.tup [tm (sub s r),vb true],[]):=e2;have xl:YY (sub s l):=YY.sub hv al;have xr:YY (sub s r):=YY.sub hv ar;have ml:=zM sl;have mr:=zM sr;have tl:=xl.tz (by omega);have tr:=xr.tz (by omega);have e3:=yi (sub s l) tl.wf (sub s r) tr.wf;have ll:=(j5 hv).1;cases hd:dq (sub s l) (sub s r)<;>rw[hd]at e3
 rotate_left
 .have hst:=jcM (rest:=rest) sl sr hd;have hnext:=ih _ _ res (ym hi hst).1 (qO hi hg hst) (yC hst hu);have hnext:=hnext.1 W (off+1) d2 (by omega) hlen;simp only[je,w1,w2,g1,g2,g3,g4,j6,r1,r2,e1,e2,e3,hn];exact hnext
 have v1:=qS (sub s l) (xl.imp id λh=>h.1);have v2:=qS (sub s r) (xr.imp id λh=>h.1);have bindC:js (sub s l).name=true\/js (sub s r).name=true->(∃q:Bool,G 228 [.agg [sv (sub s l).name,jG (sub s l).args,sv (sub s r).name,jG (sub s r).args]]=some (.tup [sb [jE (sub s l) (sub s r)],vb q],[])/\(q=false->qc res=qc none)/\(q=true-> ∃q2:Bool,∃u:jw,G 229 [sb s,sb [jE (sub s l) (sub s r)]]=some (.tup [sb u,vb q2],[])/\(q2=false->qc res=qc none)/\(q2=true->Q6 (nA (off+1)) (nA (W.length-(off+1))) (ZN u) (W.map ec) []=qc res))):=by
  intro hvar;have hst:=jcK (rest:=rest) sl sr hd hvar;refine⟨_,jet _ _ xl xr (by omega) (by omega) hvar,λhq=>?_,λhq=>?_⟩
  .rw [hq,Bool.false_and,jh Bool.false_ne_true]at hst;rw[kN hst hu]
  .rw [hq,Bool.true_and]at hst;have hvp:jL [jE (sub s l) (sub s r)]=true:=by
    rw[jI]at hq;exact hq.2
   have ec1:=jgE s [jE (sub s l) (sub s r)] hv hvp;cases hc:jL (zz s [jE (sub s l) (sub s r)])
   .rw [hc,jh Bool.false_ne_true]at hst ec1;exact⟨false,[],ec1,λ_=>by rw[kN hst hu],λh=>by cases h⟩
   .rw [hc,jg rfl]at hst ec1;refine⟨true,_,ec1,(λh=>by cases h),λ_=>?_⟩;have hnext:=ih _ _ res (ym hi hst).1 (qO hi hg hst) (yC hst hu);exact hnext.1 W (off+1) d2 (by omega) hlen
 have close:js (sub s l).name=true\/js (sub s r).name=true->_:=bindC;clear bindC;cases vl:js (sub s l).name<;>rw[vl]at v1
 rotate_left
 .obtain ⟨q,b1,b2,b3⟩:=close (Or.inl vl);cases q
  .rw [b2 rfl];simp only[je,w1,w2,g1,g2,g3,g4,j6,r1,r2,e1,e2,e3,v1,v2,b1];rfl
  .obtain ⟨q2,u,b4,b5,b6⟩:=b3 rfl;cases q2
   .rw [b5 rfl];simp only[je,w1,w2,g1,g2,g3,g4,j6,r1,r2,e1,e2,e3,v1,v2,b1,b4];rfl
   .rw [<-b6 rfl];simp only[je,w1,w2,g1,g2,g3,g4,j6,r1,r2,e1,e2,e3,v1,v2,b1,b4,hn]
 cases vr:js (sub s r).name<;>rw[vr]at v2
 rotate_left
 .obtain ⟨q,b1,b2,b3⟩:=close (Or.inr vr);cases q
  .rw [b2 rfl];simp only[je,w1,w2,g1,g2,g3,g4,j6,r1,r2,e1,e2,e3,v1,v2,b1];rfl
  .obtain ⟨q2,u,b4,b5,b6⟩:=b3 rfl;cases q2
   .rw [b5 rfl];simp only[je,w1,w2,g1,g2,g3,g4,j6,r1,r2,e1,e2,e3,v1,v2,b1,b4];rfl
   .rw [<-b6 rfl];simp only[je,w1,w2,g1,g2,g3,g4,j6,r1,r2,e1,e2,e3,v1,v2,b1,b4,hn]
 have hst:=jcL (rest:=rest) sl sr hd vl vr;by_cases hnm:(sub s l).name=(sub s r).name;rotate_left
 .rw [jh (λh=>hnm h.1)]at hst;have hnd:=decide_eq_false hnm;rw[kN hst hu];simp only[je,w1,w2,g1,g2,g3,g4,j6,r1,r2,e1,e2,e3,v1,v2,hnd];rfl
 have hnd:=decide_eq_true hnm;by_cases hal:(sub s l).args.length=(sub s r).args.length;rotate_left
 .rw [jh (λh=>hal h.2)]at hst;have hal':decide ((((sub s l).args.length:Nat):Int)=(((sub s r).args.length:Nat):Int))=false:=decide_eq_false (by omega);rw[kN hst hu];simp only[je,w1,w2,g1,g2,g3,g4,j6,r1,r2,e1,e2,e3,v1,v2,hnd,hal'];rfl
 rw[jg ⟨hnm,hal⟩]at hst;have hnext:=ih _ _ res (ym hi hst).1 (qO hi hg hst) (yC hst hu);have hnext:=hnext.2.1;have hin:=jF2 s W (off+1) hlen (sub s l) (sub s r) hal (jeY xl);rw[d2]at hin;rw[hnext]at hin;have hal':decide ((((sub s l).args.length:Nat):Int)=(((sub s r).args.length:Nat):Int))=true:=decide_eq_true (by omega);simp only[je,w1,w2,g1,g2,g3,g4,j6,r1,r2,e1,e2,e3,v1,v2,hnd,hal',hn];exact hin
theorem un8(k:Nat)(ih:∀(s:jw)(es:Jy)(res:Option jw),K6 s es->Hgt s 126 es->zh k s es=some res->US s es (qc res))(s:jw)(l r:T)(rest:Jy)(hi:K6 s ((l,r)::rest))(hg:Hgt s 126 ((l,r)::rest))(res:Option jw)(hu:zh (k+1) s ((l,r)::rest)=some res)(W:Jy)(hW:W=(l,r)::rest)(hlen:W.length<=1000):jfH (ZN s) (W.map ec) []=qc res:=by
 have hW0:W.drop 0=(l,r)::rest:=hW;rw[<-un2 k ih s l r rest hi hg res hu W 0 hW0 hlen];obtain⟨d1,d2,d3⟩:=Kh hW0;obtain⟨r1,r2⟩:=jb5 d1;have w1:zq (nA 0)=0:=rfl;have w2:zq (nA W.length)=W.length:=rfl;have f1:jy .gtr false (nA W.length) (vi 0)=some (vb true):=by
  show some (vb (decide ((0:Int)<((W.length:Nat):Int))))=_;rw[decide_eq_true (by omega)]
 have f3:pB W.length (zj (W.map ec) 0) none=some W.length:=by
  rw[show zj (W.map ec) 0=W.length by rw[yu,List.length_map];rfl];exact zn (j4 _)
 have g2:Zt W.length (vi 0)=some 0:=zg (i:=0) (by omega);have g3:pB (zX (W.map ec)) (zj (W.map ec) 0) none=some W.length:=by
  rw[yf,f3]
 have g4:pB 0 W.length (some (vi 1))=some 1:=yW (n:=1) (by omega);have g0:(0:Int)<((W.length:Nat):Int):=by omega
 rw[jzA,js7,Nat.sub_zero];simp only[je,w1,w2,f1,f3,g0,g2,g3,g4,r1,r2]
theorem un1(k:Nat)(ih:∀(s:jw)(es:Jy)(res:Option jw),K6 s es->Hgt s 126 es->zh k s es=some res->US s es (qc res))(l r:T)(rest:Jy)(hi:K6 [] ((l,r)::rest))(hg:Hgt [] 126 ((l,r)::rest))(res:Option jw)(hu:zh (k+1) [] ((l,r)::rest)=some res)(W:Jy)(off:Nat)(hW:W.drop off=(l,r)::rest)(hlen:W.length<=1000):jic (nA off) (nA (W.length-off)) (W.map ec) [] []=qc res:=by
 obtain⟨d1,d2,d3⟩:=Kh hW;obtain⟨r1,r2⟩:=jb5 d1;obtain⟨al,ar,nl,nr⟩:=jaL hi;have hv:=hi.1;have e1:=Ji [] hv l al (by omega);have e2:=Ji [] hv r ar (by omega);have w1:zq (nA off)=off:=rfl;have w2:zq (nA (W.length-off))=W.length-off:=rfl;have g1:jy .gtr false (nA (W.length-off)) (vi 0)=some (vb true):=by
  show some (vb (decide ((0:Int)<((W.length-off:Nat):Int))))=_;rw[decide_eq_true (by omega)]
 have g2:Zt (W.length-off) (vi 0)=some 0:=zg (i:=0) (by omega);have g3:pB (W.length-off) (zj (W.map ec) off) none=some (W.length-off):=by
  rw[show zj (W.map ec) off=W.length-off by rw[yu,List.length_map]];exact zn (j4 _)
 have g4:pB 0 (W.length-off) (some (vi 1))=some 1:=yW (n:=1) (by omega);have hn:kz (W.length-off) 1=W.length-(off+1):=by unfold kz;omega
 rw[js6];cases sl:jF (sub [] l)<;>rw[sl]at e1
 .have e1:G 198 [.agg [.sl 3 []],tm l]=some (.tup [.agg [sv [],.sl 2 []],vb false],[]):=e1;have hr:res=none:=kN (by unfold yM;rw[jg (Or.inl sl)]) hu;subst hr;obtain⟨q,e2⟩:∃q:T×Bool,G 198 [.agg [.sl 3 []],tm r]=some (.tup [tm q.1,vb q.2],[]):=by
   cases h:jF (sub [] r)<;>rw[h]at e2
   .exact ⟨(.mk [] [],false),e2⟩
   .exact ⟨(sub [] r,true),e2⟩
  simp only[je,w1,w2,g1,g2,g3,g4,j6,r1,r2,e1,e2];rfl
 have e1:G 198 [.agg [.sl 3 []],tm l]=some (.tup [tm (sub [] l),vb true],[]):=e1;cases sr:jF (sub [] r)<;>rw[sr]at e2
 .have e2:G 198 [.agg [.sl 3 []],tm r]=some (.tup [.agg [sv [],.sl 2 []],vb false],[]):=e2;have hr:res=none:=kN (by unfold yM;rw[jg (Or.inr sr)]) hu;subst hr;simp only[je,w1,w2,g1,g2,g3,g4,j6,r1,r2,e1,e2];rfl
 have e2:G 198 [.agg [.sl 3 []],tm r]=some (.tup [tm (sub [] r),vb true],[]):=e2;have xl:YY (sub [] l):=YY.sub hv al;have xr:YY (sub [] r):=YY.sub hv ar;have ml:=zM sl;have mr:=zM sr;have tl:=xl.tz (by omega);have tr:=xr.tz (by omega);have e3:=yi (sub [] l) tl.wf (sub [] r) tr.wf;have ll:=(j5 hv).1;cases hd:dq (sub [] l) (sub [] r)<;>rw[hd]at e3
 rotate_left
 .have hst:=jcM (rest:=rest) sl sr hd;have hnext:=ih _ _ res (ym hi hst).1 (qO hi hg hst) (yC hst hu);have hnext:=(hnext.2.2 rfl).1 W (off+1) d2 (by omega) hlen;simp only[je,w1,w2,g1,g2,g3,g4,j6,r1,r2,e1,e2,e3,hn];exact hnext
 have v1:=qS (sub [] l) (xl.imp id λh=>h.1);have v2:=qS (sub [] r) (xr.imp id λh=>h.1);have bindC:js (sub [] l).name=true\/js (sub [] r).name=true->(∃q:Bool,G 228 [.agg [sv (sub [] l).name,jG (sub [] l).args,sv (sub [] r).name,jG (sub [] r).args]]=some (.tup [sb [jE (sub [] l) (sub [] r)],vb q],[])/\(q=false->qc res=qc none)/\(q=true-> ∃q2:Bool,∃u:jw,G 229 [.agg [.sl 3 []],sb [jE (sub [] l) (sub [] r)]]=some (.tup [sb u,vb q2],[])/\(q2=false->qc res=qc none)/\(q2=true->Q6 (nA (off+1)) (nA (W.length-(off+1))) (ZN u) (W.map ec) []=qc res))):=by
  intro hvar;have hst:=jcK (rest:=rest) sl sr hd hvar;refine⟨_,jet _ _ xl xr (by omega) (by omega) hvar,λhq=>?_,λhq=>?_⟩
  .rw [hq,Bool.false_and,jh Bool.false_ne_true]at hst;rw[kN hst hu]
  .rw [hq,Bool.true_and]at hst;have hvp:jL [jE (sub [] l) (sub [] r)]=true:=by
    rw[jI]at hq;exact hq.2
   have ec1:=jgE [] [jE (sub [] l) (sub [] r)] hv hvp;cases hc:jL (zz [] [jE (sub [] l) (sub [] r)])
   .rw [hc,jh Bool.false_ne_true]at hst ec1;exact⟨false,[],ec1,λ_=>by rw[kN hst hu],λh=>by cases h⟩
   .rw [hc,jg rfl]at hst ec1;refine⟨true,_,ec1,(λh=>by cases h),λ_=>?_⟩;have hnext:=ih _ _ res (ym hi hst).1 (qO hi hg hst) (yC hst hu);exact hnext.1 W (off+1) d2 (by omega) hlen
 have close:js (sub [] l).name=true\/js (sub [] r).name=true->_:=bindC;clear bindC;cases vl:js (sub [] l).name<;>rw[vl]at v1
 rotate_left
 .obtain ⟨q,b1,b2,b3⟩:=close (Or.inl vl);cases q
  .rw [b2 rfl];simp only[je,w1,w2,g1,g2,g3,g4,j6,r1,r2,e1,e2,e3,v1,v2,b1];rfl
  .obtain ⟨q2,u,b4,b5,b6⟩:=b3 rfl;cases q2
   .rw [b5 rfl];simp only[je,w1,w2,g1,g2,g3,g4,j6,r1,r2,e1,e2,e3,v1,v2,b1,b4];rfl
   .rw [<-b6 rfl];simp only[je,w1,w2,g1,g2,g3,g4,j6,r1,r2,e1,e2,e3,v1,v2,b1,b4,hn]
 cases vr:js (sub [] r).name<;>rw[vr]at v2
 rotate_left
 .obtain ⟨q,b1,b2,b3⟩:=close (Or.inr vr);cases q
  .rw [b2 rfl];simp only[je,w1,w2,g1,g2,g3,g4,j6,r1,r2,e1,e2,e3,v1,v2,b1];rfl
  .obtain ⟨q2,u,b4,b5,b6⟩:=b3 rfl;cases q2
   .rw [b5 rfl];simp only[je,w1,w2,g1,g2,g3,g4,j6,r1,r2,e1,e2,e3,v1,v2,b1,b4];rfl
   .rw [<-b6 rfl];simp only[je,w1,w2,g1,g2,g3,g4,j6,r1,r2,e1,e2,e3,v1,v2,b1,b4,hn]
 have hst:=jcL (rest:=rest) sl sr hd vl vr;by_cases hnm:(sub [] l).name=(sub [] r).name;rotate_left
 .rw [jh (λh=>hnm h.1)]at hst;have hnd:=decide_eq_false hnm;rw[kN hst hu];simp only[je,w1,w2,g1,g2,g3,g4,j6,r1,r2,e1,e2,e3,v1,v2,hnd];rfl
 have hnd:=decide_eq_true hnm;by_cases hal:(sub [] l).args.length=(sub [] r).args.length;rotate_left
 .rw [jh (λh=>hal h.2)]at hst;have hal':decide ((((sub [] l).args.length:Nat):Int)=(((sub [] r).args.length:Nat):Int))=false:=decide_eq_false (by omega);rw[kN hst hu];simp only[je,w1,w2,g1,g2,g3,g4,j6,r1,r2,e1,e2,e3,v1,v2,hnd,hal'];rfl
 rw[jg ⟨hnm,hal⟩]at hst;have hnext:=ih _ _ res (ym hi hst).1 (qO hi hg hst) (yC hst hu);have hnext:=(hnext.2.2 rfl).2;have hin:=jF1 W (off+1) hlen (sub [] l) (sub [] r) hal (jeY xl);rw[d2]at hin;rw[hnext]at hin;have hal':decide ((((sub [] l).args.length:Nat):Int)=(((sub [] r).args.length:Nat):Int))=true:=decide_eq_true (by omega);simp only[je,w1,w2,g1,g2,g3,g4,j6,r1,r2,e1,e2,e3,v1,v2,hnd,hal',hn];exact hin
theorem un6(k:Nat)(ih:∀(s:jw)(es:Jy)(res:Option jw),K6 s es->Hgt s 126 es->zh k s es=some res->US s es (qc res))(l r:T)(rest:Jy)(hi:K6 [] ((l,r)::rest))(hg:Hgt [] 126 ((l,r)::rest))(res:Option jw)(hu:zh (k+1) [] ((l,r)::rest)=some res)(W:Jy)(hW:W=(l,r)::rest)(hlen:W.length<=1000):jdr (W.map ec) [] []=qc res:=by
 have hW0:W.drop 0=(l,r)::rest:=hW;rw[<-un1 k ih l r rest hi hg res hu W 0 hW0 hlen];obtain⟨d1,d2,d3⟩:=Kh hW0;obtain⟨r1,r2⟩:=jb5 d1;have w1:zq (nA 0)=0:=rfl;have w2:zq (nA W.length)=W.length:=rfl;have f1:jy .gtr false (nA W.length) (vi 0)=some (vb true):=by
  show some (vb (decide ((0:Int)<((W.length:Nat):Int))))=_;rw[decide_eq_true (by omega)]
 have f3:pB W.length (zj (W.map ec) 0) none=some W.length:=by
  rw[show zj (W.map ec) 0=W.length by rw[yu,List.length_map];rfl];exact zn (j4 _)
 have g2:Zt W.length (vi 0)=some 0:=zg (i:=0) (by omega);have g3:pB (zX (W.map ec)) (zj (W.map ec) 0) none=some W.length:=by
  rw[yf,f3]
 have g4:pB 0 W.length (some (vi 1))=some 1:=yW (n:=1) (by omega);have g0:(0:Int)<((W.length:Nat):Int):=by omega
 rw[js8,js6,Nat.sub_zero];simp only[je,w1,w2,f1,f3,g0,g2,g3,g4,r1,r2]
theorem jE5(s:jw):US s [] (qc (some s)):=by
 refine⟨λW off hW h1 h2=>?_,?_,λhs=>?_⟩
 .have h3:=congrArg List.length hW;rw[List.length_drop,zO]at h3;have w2:zq (nA (W.length-off))=W.length-off:=rfl;have g1:jy .gtr false (nA (W.length-off)) (vi 0)=some (vb false):=by
   show some (vb (decide ((0:Int)<((W.length-off:Nat):Int))))=_;rw[decide_eq_false (by omega)]
  rw[js7];simp only[je,w2,g1];rfl
 .rw [jzA];have g1:jy .gtr false (yB (List.map ec [])) (vi 0)=some (vb false):=rfl;simp only[je];rfl
 .subst hs;refine⟨λW off hW h1 h2=>?_,?_⟩
  .have h3:=congrArg List.length hW;rw[List.length_drop,zO]at h3;have w2:zq (nA (W.length-off))=W.length-off:=rfl;have g1:jy .gtr false (nA (W.length-off)) (vi 0)=some (vb false):=by
    show some (vb (decide ((0:Int)<((W.length-off:Nat):Int))))=_;rw[decide_eq_false (by omega)]
   rw[js6];simp only[je,w2,g1];rfl
  .rw [js8];have g1:jy .gtr false (yB (List.map ec [])) (vi 0)=some (vb false):=rfl;simp only[je];rfl
theorem jIG:∀(k:Nat)(s:jw)(es:Jy)(res:Option jw),K6 s es->Hgt s 126 es->zh k s es=some res->US s es (qc res):=by
 intro k;induction k with
 |zero=>
  intro s es res hi hg hu;cases es with
  |nil=>simp only[zh,zI]at hu;rw[<-hu];exact jE5 s
  |cons p es=>simp[zh]at hu
 |succ k ih=>
  intro s es res hi hg hu;cases es with
  |nil=>simp only[zh,zI]at hu;rw[<-hu];exact jE5 s
  |cons p rest=>
   obtain⟨l,r⟩:=p;have hl:=hg.len;refine⟨λW off hW _ hlen=>un2 k ih s l r rest hi hg res hu W off hW hlen,un8 k ih s l r rest hi hg res hu _ rfl (by omega),λhs=>?_⟩;subst hs;exact⟨λW off hW _ hlen=>un1 k ih l r rest hi hg res hu W off hW hlen,un6 k ih l r rest hi hg res hu _ rfl (by omega)⟩
theorem jL3(W:Jy):jsx (W.map ec) [] []=jdr (W.map ec) [] []:=by
 rw[jGa,js8]
theorem jfq(a b:T)(ha:Exx a)(hb:Exx b):G 192 [tm a,tm b]=qc (Jw a b):=by
 obtain⟨k,hk⟩:=Zl ha hb;have h:=((jIG k [] [(a,b)] _ (jmr ha hb) (jH7 a b) hk).2.2 rfl).2;rw[<-jL3]at h;rw[jKr];simp only[je];exact h
end Go.Proofs.YthlhadhipnokfaaGreatDoor
