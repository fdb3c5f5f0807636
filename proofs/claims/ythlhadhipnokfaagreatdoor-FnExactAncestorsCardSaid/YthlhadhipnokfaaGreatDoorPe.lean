/- Pe -/
import Derived.Test.YthlhadhipnokfaaGreatDoorPd
import Derived.Test.YthlhadhipnokfaaGreatDoorPq
namespace Go.Proofs.YthlhadhipnokfaaGreatDoor
open Go Go.RowKit Go.Proofs.YthlhadhipnokfaaGreatDoor.Abs Go.Sort
set_option linter.unusedSimpArgs false
set_option linter.unusedVariables false
set_option maxHeartbeats 1000000
section
variable{α:Type}{c:α->α->Int}
theorem jvB{β γ:Type}(f:β->β->γ)(ys:List β):∀(xs:List β)(i j:Nat)(x y:β),xs[i]? = some x->ys[j]? = some y->(xs.flatMap λx=>ys.map λy=>f x y)[i*ys.length+j]? = some (f x y)
 | [],i,j,x,y,h,_=>by simp at h
 |a::xs,i,j,x,y,h,hy=>by
  have hj:=(jeM.1 hy).1;rw[List.flatMap_cons];cases i with
  |zero=>simp at h;subst h;rw[Nat.zero_mul,je8,jep (by simpa using hj),jel,hy];rfl
  |succ i=>
   rw[jeU (by simp[jb5];omega)]
   have:(i+1)*ys.length+j-(ys.map λy=>f a y).length=i*ys.length+j:=by simp[jb5];omega
   rw[this];exact jvB f ys xs i j x y (by simpa using h) hy
theorem extract_all{β:Type}(e:Array β){n:Nat}(h:e.size=n):e.extract 0 n=e:=by subst h;simp
theorem Law3.swo(h:Law3 c){β:Type}(g:β->α){lt:β->β->Bool}(hl:∀i j,lt i j=decide (c (g i) (g j)<0)):SWO lt:=by
 refine⟨λx=>?_,λx y z h1 h2=>?_,λx y z h1 h2=>?_⟩
 .rw [hl,(h.zero _ _).2 rfl];rfl
 .rw [hl,jfH]at *;exact h.trans _ _ _ h1 h2
 .rw [hl,decide_eq_false_iff_not]at *;intro h3;have f1:=h.flip (g x) (g y);have f2:=h.flip (g y) (g z);by_cases e1:c (g x) (g y)=0
  .rw [(h.zero _ _).1 e1]at h3;exact h2 h3
  by_cases e2:c (g y) (g z)=0
  .rw [<-(h.zero _ _).1 e2]at h3;exact h1 h3
  have:=h.trans (g z) (g y) (g x) (by omega) (by omega);have f3:=h.flip (g x) (g z);omega
theorem jt9{γ:Type}{c:γ->γ->Int}(hc:Law3 c)(f:α->γ)(enc:α->Xd)(k:Nat)(l:List α)(hl:l.length<4611686018427387904):∃s:List α,s.Perm l/\s.Pairwise (λa b=>¬c (f b) (f a)<0)/\jbN k (l.map enc) (l.flatMap λx=>l.map λy=>c (f x) (f y))=some (.top,[.sl k (s.map enc)]):=by
 cases l with
 |nil=>exact⟨[],List.Perm.refl _,List.Pairwise.nil,rfl⟩
 |cons a l'=>
  generalize hcs:((a::l').flatMap λx=>(a::l').map λy=>c (f x) (f y))=cs;rw[jd1];have hN:(l'.map enc).length+1=(a::l').length:=by simp
  let g:Fin ((l'.map enc).length+1)->α:=λi=>(a::l')[i.val]'(by rw[<-hN];exact i.isLt)
  have hg:∀i:Fin ((l'.map enc).length+1),(a::l')[i.val]? = some (g i):=λi=>jam _;have hT:∀i j,ltO (QD ((l'.map enc).length+1) cs) i j=decide (c (f (g i)) (f (g j))<0):=λi j=>by
   have:=jvB (λx y=>c (f x) (f y)) (a::l') (a::l') i.val j.val _ _ (hg i) (hg j);rw[hcs,<-hN]at this;unfold ltO QD;rw[jcQ,this];rfl
  have hS:=hc.swo (λi=>f (g i)) hT;have hsz:(l'.map enc).length+1<4611686018427387904:=by rw[hN];exact hl
  generalize hd:(Array.ofFn (n:=(l'.map enc).length+1) id)=d;have hds:d.size=(l'.map enc).length+1:=by rw[<-hd];simp
  obtain⟨hp,hs⟩:=pdq_sorts (ltO (QD ((l'.map enc).length+1) cs)) hS d 0 ((l'.map enc).length+1) (Lib.bitLen ((l'.map enc).length+1)) true true (Nat.zero_le _) (by omega) (Or.inl rfl);have hrow:jbN k (enc a::l'.map enc) cs=some (.top,[.sl k ((pdq (ltO (QD ((l'.map enc).length+1) cs)) d 0 ((l'.map enc).length+1) (Lib.bitLen ((l'.map enc).length+1)) true true).toList.map λi=>(enc a::l'.map enc).getD i.val [])]):=by
   unfold jbN;simp only;rw[jbZ ⟨hS,hsz⟩,hd]
  rw[hrow];generalize pdq (ltO (QD ((l'.map enc).length+1) cs)) d 0 ((l'.map enc).length+1) (Lib.bitLen ((l'.map enc).length+1)) true true=D at *;obtain⟨p1,_,p3⟩:=hp;rw[extract_all D (by omega),extract_all d hds]at p3;refine⟨D.toList.map g,?_,?_,?_⟩
  .have h1:(D.toList.map g).Perm (d.toList.map g):=p3.map g;have h2:d.toList.map g=a::l':=by
    refine je9 λi=>?_;rw[<-hd];by_cases hi:i<(l'.map enc).length+1
    .rw [jel,jfo,jfh (by simpa using hi)];simp only[Array.getElem_ofFn,jen,id];exact(hg ⟨i,hi⟩).symm
    .rw [jdS (by simp at hi⊢;omega),jdS (by simp at hi⊢;omega)]
   rw[h2]at h1;exact h1
  .rw [List.pairwise_map];rw[List.pairwise_iff_getElem];intro i j hi hj hij;have hD:D.size=(l'.map enc).length+1:=by omega
   rw[jeK]at hi hj;have:=hs i j (Nat.zero_le _) hij (by omega);rw[jfm D i hi,jfm D j hj,hT,decide_eq_false_iff_not]at this;simpa using this
  .congr 3;rw[jfs];refine congrArg (A.sl k) (List.map_congr_left λi _=>?_);rw[<-jd1,jcQ,jel,hg i];rfl
end
theorem jqj{β:Type}(f:β->FuncId×Xd)(r:β->Int):∀qs:List β,(∀b∈qs,K.pureF (f b).1=true/\G (f b).1 (f b).2=some (vi (r b),[]))->askAll K (MM K) (qs.map f)=some (qs.map λb=>(vi (r b),[]))
 | [],_=>rfl
 |b::qs,h=>by
  have ih:=jqj f r qs λb' hb=>h b' (by simp[hb]);obtain⟨h1,h2⟩:=h b (by simp);rw[jd1,jd1];show(if K.pureF (f b).1 then(MM K (.call (f b).1 (f b).2)).bind λo=>(askAll K (MM K) (qs.map f)).bind λos=>some (o::os)else none)=_;have h2:MM K (.call (f b).1 (f b).2)=some (vi (r b),[]):=h2;rw[h1,jbZ rfl,h2,ih];rfl
theorem jse{β:Type}(r:β->Int):∀qs:List β,Y5 (qs.map λb=>(vi (r b),[]))=some (qs.map r)
 | []=>rfl
 |b::qs=>by
  rw[jd1,jd1,Y5,jse r qs];rfl
theorem juE{α γ:Type}{c:γ->γ->Int}(hc:Law3 c)(f:α->γ)(enc:α->Xd)(k:Nat)(g:FuncId)(hp:K.pureF g=true)(l:List α)(hl:l.length<4611686018427387904)(h:∀x∈l,∀y∈l,G g [.agg (enc x),.agg (enc y)]=some (vi (c (f x) (f y)),[])):∃s:List α,s.Perm l/\s.Pairwise (λa b=>¬c (f b) (f a)<0)/\extRun K (MM K) (sfE k) [V.row 0,V.fn g []] [.row k (l.map enc)]=some (.top,[.sl k (s.map enc)]):=by
 obtain⟨s,h1,h2,h3⟩:=jt9 hc f enc k l hl;refine⟨s,h1,h2,?_⟩;have hq:jbM [V.row 0,V.fn g []] [.row k (l.map enc)]=some ((l.flatMap λx=>l.map λy=>(x,y)).map λq=>(g,[A.agg (enc q.1),A.agg (enc q.2)])):=by
  show some ((l.map enc).flatMap λx=>(l.map enc).map λy=>(g,[A.agg x,A.agg y]++[]))=_;congr 1;rw[List.flatMap_map,List.map_flatMap];refine congrArg (λh=>l.flatMap h) (funext λx=>?_);rw[jfs,jfs];rfl
 have ha:=jqj (λq:α×α=>(g,[A.agg (enc q.1),A.agg (enc q.2)])) (λq=>c (f q.1) (f q.2)) (l.flatMap λx=>l.map λy=>(x,y)) λq hq=>by
  obtain⟨x,hx,hq⟩:=List.mem_flatMap.1 hq;obtain⟨y,hy,rfl⟩:=jfx.1 hq;exact⟨hp,h x hx y hy⟩
 have hc':((l.flatMap λx=>l.map λy=>(x,y)).map λq=>c (f q.1) (f q.2))=l.flatMap λx=>l.map λy=>c (f x) (f y):=by
  rw[List.map_flatMap];refine congrArg (λh=>l.flatMap h) (funext λx=>?_);rw[jfs];rfl
 have ho:=jse (λq:α×α=>c (f q.1) (f q.2)) (l.flatMap λx=>l.map λy=>(x,y));rw[hc']at ho;show(jbM [V.row 0,V.fn g []] [.row k (l.map enc)]).bind _=_;rw[hq,Option.bind_some,ha,Option.bind_some];show(if Nat.beq k k then(Y5 _).bind λcs=>jbN k (l.map enc) cs else none)=_;rw[Nat.beq_refl,jbZ rfl,ho];exact h3
open Go Go.RowKit Go.Proofs.YthlhadhipnokfaaGreatDoor.Abs
theorem jFE:∀d:Nat,d<10->Kb (sv [48,49,50,51,52,53,54,55,56,57]) (some (vi (d:Nat))) (some (vi ((d+1:Nat):Int)))=some (sv [UInt8.ofNat (48+d)])
 |0,_=>rfl|1,_=>rfl|2,_=>rfl|3,_=>rfl|4,_=>rfl|5,_=>rfl|6,_=>rfl|7,_=>rfl|8,_=>rfl|9,_=>rfl
theorem ju3:∀n:Nat,n<=1000000->G 115 [vi (n:Nat)]=some (sv (Lib.decDigits n),[]):=by
 intro n;induction n using Nat.strongRecOn with
 |ind n ih=>
  intro hn;have h0:¬((n:Nat):Int)<0:=by omega
  rw[jI2];by_cases h:n<10
  .have h1:((n:Nat):Int)<10:=by omega
   have h2:ck ((n:Int)+1)=some (vi ((n+1:Nat):Int)):=jgA (by omega) (by omega);have h3:=jFE n h;rw[jin h];simp only[evz,h0,h1,h2,h3]
  .have h1:¬((n:Nat):Int)<10:=by omega
   have hq:jdl .quo false (vi (n:Nat)) (vi 10)=some (vi ((n / 10:Nat):Int)):=by
    show ck (((n:Nat):Int).tdiv 10)=_;rw[Int.tdiv_eq_ediv_of_nonneg (by omega)];exact jgA (by omega) (by omega)
   have hr:jdl .rem false (vi (n:Nat)) (vi 10)=some (vi ((n % 10:Nat):Int)):=by
    show some (vi (((n:Nat):Int).tmod 10))=_;rw[Int.tmod_eq_emod_of_nonneg (by omega)];rfl
   have h2:ck (((n % 10:Nat):Int)+1)=some (vi ((n % 10+1:Nat):Int)):=jgA (by omega) (by omega);have h3:=jFE (n % 10) (by omega);have h4:=ih (n / 10) (by omega) (by omega);have hl:(Lib.decDigits (n / 10)).length + [UInt8.ofNat (48+n % 10)].length<=9223372036854775807:=by
    have:=(ji3 6 (n / 10) (by omega)).2;simp only[jfC,jfJ];omega
   have h5:=jkQ false (Lib.decDigits (n / 10)) [UInt8.ofNat (48+n % 10)];rw[jbZ hl]at h5;rw[jje h];simp only[evz,h0,h1,hq,hr,h2,h3,h4,h5]
theorem jyb(n:Nat)(hn:n<=1000000):G 156 [vi (n:Nat)]=some (sv (Lib.decDigits n),[]):=by
 have:K.ext 156=some jdW:=rfl;rw[je2 this];show(if -9223372036854775808<=((n:Nat):Int)/\((n:Nat):Int)<=9223372036854775807 then some (sv (Lib.itoa (n:Nat)),[])else none)=_;rw[jbZ (by omega)];unfold Lib.itoa;rw[ja0 (by omega),Int.toNat_natCast]
def jme:Nat->Xa->Bool
 |_,[]=>true
 |i,n::r=>decide (n=jiG 88 i) && jme (i+1) r
theorem jvn:∀(l:Xa)(i:Nat),jme i l=decide (l=(List.range' i l.length).map (jiG 88))
 | [],i=>by simp[jme]
 |n::r,i=>by
  rw[jme,jvn r,jfC,List.range'_succ,jd1,<-Bool.decide_and];simp only[jfk]
theorem jqA(c:Cls):ji4 c=jme 0 (jgU c):=by
 rw[jvn,<-List.range_eq_range'];rfl
theorem jH5(i:Nat)(h:i<=1000000):jdl .add false (sv [88]) (sv (Lib.decDigits i))=some (sv (jiG 88 i)):=by
 rw[jkQ,jbZ]
 .rfl
 .have:=(ji3 6 i (by omega)).2;simp only[jfC,jfJ];omega
theorem jlu(c:Cls)(h:CN c):G 127 [cm c]=some (vb (ji4 c),[]):=by
 have hlen:=jio h;have e0:=jqW c (by have:=h.1;omega) h.rx h.tz λl hl=>by have:=(h.2 l hl).2;omega
 rw[jqA,jI7];generalize jgU c=ns at *;have key:=upto (P:=λi=>jsF (strs ns) (vi (ns.length:Nat)) (vi (i:Nat))=some (vb (jme i (ns.drop i)),[])) (n:=ns.length) ?_ ?_ 0 (Nat.zero_le _)
 .simp only[Int.natCast_zero,List.drop_zero]at key;simp only[evz,e0,key]
 .rw [jBc,List.drop_length];simp only[evz,jme]
 .intro i hi ih;have hlt:(i:Int)<((ns.length:Nat):Int):=by omega
  have h5:=jgj hi (by show ns.length<=9223372036854775807;omega)
  have e1:=jyb i (by omega);have e2:=jH5 i (by omega);have ld:QO (.elt (cs ns[i]) 0)=some (sv ns[i]):=rfl;rw[jBc,jgg hi,jme];by_cases hc:ns[i]=jiG 88 i
  .rw [decide_eq_true hc,Bool.true_and,<-ih];simp only[evz,hlt,jfY hi,e1,e2,hc,h5]
  .rw [decide_eq_false hc,Bool.false_and];simp only[evz,hlt,jfY hi,ld,e1,e2,hc]
theorem jkA(c:Cls)(h:CN c):G 92 [cm c]=some (vb (ji4 c),[]):=by
 have hlen:=jio h;have e0:=jqN c (by have:=h.1;omega) h.tz λl hl=>by have:=(h.2 l hl).2;omega
 rw[jqA,g92];generalize jgU c=ns at *;have key:=upto (P:=λi=>jxW (strs ns) (vi (i:Nat))=some (vb (jme i (ns.drop i)),[])) (n:=ns.length) ?_ ?_ 0 (Nat.zero_le _)
 .simp only[Int.natCast_zero,List.drop_zero]at key;simp only[evz,e0,key]
 .rw [jFt,List.drop_length];simp only[evz,jme]
 .intro i hi ih;have hlt:(i:Int)<((ns.length:Nat):Int):=by omega
  have h5:=jgj hi (by show ns.length<=9223372036854775807;omega)
  have e1:=ju3 i (by omega);have e2:=jH5 i (by omega);have ld:QO (.elt (cs ns[i]) 0)=some (sv ns[i]):=rfl;rw[jFt,jgg hi,jme];by_cases hc:ns[i]=jiG 88 i
  .rw [decide_eq_true hc,Bool.true_and,<-ih];simp only[evz,hlt,jfY hi,e1,e2,hc,h5]
  .rw [decide_eq_false hc,Bool.false_and];simp only[evz,hlt,jfY hi,ld,e1,e2,hc]
theorem jho(c:Cls)(hl:c.length<=1048576)(hz:∀l∈c,Tz l.2):G 105 [cm c]=some (vb (jgu c),[]):=by
 have e1:=jkL c hl hz;unfold jgu;rw[jIU];cases hv:jhP c<;>rw[hv]at e1
 .simp only[evz,e1,Bool.false_and]
 .have e2:=jlu c (jiz hv).1;simp only[evz,e1,e2,Bool.true_and]
theorem jhH(c:Cls)(hl:c.length<=1048576)(hz:∀l∈c,Tz l.2):G 65 [cm c]=some (vb (jgu c),[]):=by
 have e1:=jmv c hl hz;unfold jgu;rw[g65];cases hv:jhP c<;>rw[hv]at e1
 .simp only[evz,e1,Bool.false_and]
 .have e2:=jkA c (jiz hv).1;simp only[evz,e1,e2,Bool.true_and]
abbrev Nm':=List (Xb×Xb)
abbrev kn(p:Xb×Xb):Xd:=[sv p.1,sv p.2]
def jhq:Nm'->Xb->Option Xb
 | [],_=>none
 |p::m,n=>if p.1=n then some p.2 else jhq m n
theorem jw8(n:Xb):∀(m:Nm')(k:Nat),∃j,KD none (sv n) (m.map kn) k=some ((jhq m n).map λr=>(j,sv r))
 | [],k=>⟨0,rfl⟩
 |p::m,k=>by
  rw[jd1,jhq,KD,jAP];by_cases h:p.1=n
  .rw [jbZ h,decide_eq_true h.symm];exact⟨k,rfl⟩
  .rw [ja0 h,decide_eq_false (λe=>h e.symm)];exact jw8 n m (k+1)
theorem jGT(m:Nm')(n:Xb):jak none true true [sv []] (.mp (m.map kn)) (sv n)=some (match jhq m n with|some r=>.tup [sv r,vb true]|none=>.tup [sv [],vb false]):=by
 show((some (m.map kn)).bind λxs=>(KD none (sv n) xs 0).map (jcT true true [sv []]))=_;obtain⟨j,h⟩:=jw8 n m 0;rw[Option.bind_some,h];cases jhq m n<;>rfl
theorem jFz{m:Nm'}{n:Xb}(h:jhq m n=none)(r:Xb):jdp none (m.map kn) (sv n) (sv r)=some ((m++[(n,r)]).map kn):=by
 obtain⟨j,h2⟩:=jw8 n m 0;show(KD none (sv n) (m.map kn) 0).map _=_;rw[h2,h,List.map_append];rfl
theorem joI:∀(m:Nm')(p:Xb×Xb)(n:Xb),jhq (m++[p]) n=(match jhq m n with|some r=>some r|none=>if p.1=n then some p.2 else none)
 | [],p,n=>rfl
 |q::m,p,n=>by
  rw[jf0,jhq,jhq,joI m p n];by_cases h:q.1=n
  .rw [jbZ h,jbZ h]
  .rw [ja0 h,ja0 h]
def jjb(p:UInt8):Nat->Xa->Nm'
 |_,[]=>[]
 |i,n::r=>(n,jiG p i)::jjb p (i+1) r
theorem jqP(p:UInt8)(n:Xb):∀(ns:Xa)(k:Nat),jhq (jjb p k ns) n=(ns.findIdx? λx=>decide (x=n)).map λi=>jiG p (k+i)
 | [],k=>rfl
 |x::ns,k=>by
  rw[jjb,jhq,List.findIdx?_cons];by_cases h:x=n
  .rw [jbZ h,jbZ (decide_eq_true h)];rfl
  .rw [ja0 h,ja0 (by simp[h]),jqP p n ns (k+1),Option.map_map];refine congrArg (λf=>Option.map f _) (funext λi=>?_);show jiG p (k+1+i)=jiG p (k+(i+1));rw[show k+1+i=k+(i+1) by omega]
theorem jwD(p:UInt8)(ns:Xa):(λn=>(jhq (jjb p 0 ns) n).getD n)=jgY p ns:=by
 funext n;rw[jqP];unfold jgY;cases ns.findIdx? (λx=>decide (x=n))with
 |none=>rfl
 |some i=>show jiG p (0+i)=_;rw[je8]
theorem jvA{p:UInt8} :∀{ns:Xa}{k:Nat},(∀n∈ns,jgk n=true)-> ∀q∈jjb p k ns,jgk q.1=true
 | [],k,_,q,h=>by cases h
 |x::ns,k,hv,q,h=>by
  rw[jjb]at h;rcases ja1.1 h with e|e
  .rw [e];exact hv x (by simp)
  .exact jvA (λn hn=>hv n (by simp[hn])) q e
theorem jGM(p:UInt8)(i:Nat)(h:i<=1000000):jdl .add false (sv [p]) (sv (Lib.decDigits i))=some (sv (jiG p i)):=by
 rw[jkQ,jbZ]
 .rfl
 .have:=(ji3 6 i (by omega)).2;simp only[jfC,jfJ];omega
theorem jvP(p:UInt8)(ns:Xa)(hn:ns.Nodup)(hl:ns.length<=1000):G 246 [strs ns,sv [p]]=some (.mp ((jjb p 0 ns).map kn),[]):=by
 have key:=upto (P:=λi=>∀m:Nm',(∀n∈ns.drop i,jhq m n=none)->jta (sv [p]) (strs ns) (vi (ns.length:Nat)) (vi (i:Nat)) (m.map kn)=some (.mp ((m++jjb p i (ns.drop i)).map kn),[])) (n:=ns.length) ?_ ?_ 0 (Nat.zero_le _) [] (λn _=>rfl)
 .rw [List.drop_zero]at key;simp only[Int.natCast_zero,List.map_nil,jfw]at key;rw[jKv];simp only[evz,key]
 .intro m _;rw[jBW,List.drop_length,jjb,jf4];simp only[evz]
 .intro i hi ih m hm;have hlt:(i:Int)<((ns.length:Nat):Int):=by omega
  have h5:=jgj hi (by show ns.length<=9223372036854775807;omega)
  have e1:=jyb i (by omega);have e2:=jGM p i (by omega);have ld:QO (.elt (cs ns[i]) 0)=some (sv ns[i]):=rfl;have hd:(ns.drop i).Nodup:=hn.sublist (List.drop_sublist i ns);rw[jgg hi]at hm hd⊢;have pt:=jFz (hm ns[i] (List.mem_cons_self ..)) (jiG p i);have ih:=ih (m++[(ns[i],jiG p i)]) λn hn'=>by
   rw[joI,hm n (List.mem_cons_of_mem _ hn')];show(if ns[i]=n then _ else none)=none;rw[ja0];rintro e;exact(jfP.1 hd).1 (e ▸ hn')
  rw[jet]at ih;rw[jBW,jjb];simp only[evz,hlt,jfY hi,ld,e1,e2,pt,h5,ih];rfl
theorem jze{m:Nm'}(hm:∀p∈m,jgk p.1=true){n:Xb}(h:jgk n=false):jhq m n=none:=by
 induction m with
 |nil=>rfl
 |cons p m ih=>
  rw[jhq,ja0,ih λq hq=>hm q (by simp[hq])];intro e;rw[<-e,hm p (by simp)]at h;cases h
theorem jxm(m:Nm')(hm:∀p∈m,jgk p.1=true):∀t:T,Rx' t->Tz t->G 271 [tm t,.mp (m.map kn)]=some (tm (jgV (λn=>(jhq m n).getD n) t),[]):=by
 refine T.ind λt ih hk ht=>?_;have hz:=ht;unfold Tz at hz;rw[jgL]at hz;have e0:=jGT m t.name;rw[jKO,jkr];cases hv:jgk t.name with
 |true=>
  have ha:=hk.va hv;rw[jbZ rfl];obtain⟨n,us⟩:=t;have ha:us=[]:=ha;subst ha;have lp:∀x:Xb,jox (.mp (m.map kn)) (.sl 2 []) (vi 0) (vi 0) (sv []) (sv x) [] []=some (.agg [sv x,.sl 2 []],[]):=λx=>by
   rw[jwZ];simp only[evz]
  have e0:jak none true true [sv []] (.mp (m.map kn)) (sv n)=some (match jhq m n with|some r=>.tup [sv r,vb true]|none=>.tup [sv [],vb false]):=e0;show Option.bind (jbz 2 (.agg [sv n,.sl 2 []])) _=some (A.agg [sv ((jhq m n).getD n),.sl 2 []],[]);cases hl:jhq m n with
  |none=>
   rw[hl]at e0;have lp:=lp n;simp only[evz,e0,lp,Option.getD_none,Int.natCast_zero]
  |some r=>
   rw[hl]at e0;have lp:=lp r;simp only[evz,e0,lp,Option.getD_some,Int.natCast_zero]
 |false=>
  rw[jze hm hv]at e0;rw[ja0 Bool.false_ne_true];have key:=(upto (P:=λi=>jox (.mp (m.map kn)) (tms t.args) (vi (t.args.length:Nat)) (vi i) (sv []) (sv t.name) [] (((t.args.map (jgV λn=>(jhq m n).getD n)).take i).map jgi)=some (tm (.mk t.name (t.args.map (jgV λn=>(jhq m n).getD n))),[])) (n:=t.args.length) ?_ ?_ 0 (Nat.zero_le _))
  .simp only[Int.natCast_zero,List.take_zero,List.map_nil]at key;simp only[evz,e0,key]
  .rw [jwZ,jfU (by rw[List.length_map];omega)]
   simp only[evz];rfl
  .intro i hi ih';have hlt:(i:Int)<((t.args.length:Nat):Int):=by omega
   have h5:=jgj hi (by show t.args.length<=9223372036854775807;omega)
   have e2:=ih t.args[i] (jfL _) (hk.args _ (jfL _)) (ht.args _ (jfL _));have hf:jbB (i+1) 40=true:=jvw (by omega);have hi2:i<(t.args.map (jgV λn=>(jhq m n).getD n)).length:=by rw[List.length_map];exact hi
   have hl:(((t.args.map (jgV λn=>(jhq m n).getD n)).take i).map jgi).length=i:=by rw[List.length_map,List.length_take,List.length_map];omega
   have ha:jeV (((t.args.map (jgV λn=>(jhq m n).getD n)).take i).map jgi) [[sv (jgV (λn=>(jhq m n).getD n) t.args[i]).name,tms (jgV (λn=>(jhq m n).getD n) t.args[i]).args]]=((t.args.map (jgV λn=>(jhq m n).getD n)).take (i+1)).map jgi:=by
    rw[show[sv (jgV (λn=>(jhq m n).getD n) t.args[i]).name,tms (jgV (λn=>(jhq m n).getD n) t.args[i]).args]=jgi (jgV (λn=>(jhq m n).getD n) t.args[i]) from(jgT _).symm,List.take_add_one,jam hi2,List.map_append,List.getElem_map];rfl
   generalize ((t.args.map (jgV λn=>(jhq m n).getD n)).take i).map jgi=R at *;generalize jgV (λn=>(jhq m n).getD n) t.args[i]=u at *;rw[jwZ];simp only[evz,hlt,jfY hi,jga,e2,hl,hf,ha,h5,ih']
theorem jvO(p:UInt8)(ns:Xa)(hv:∀n∈ns,jgk n=true)(t:T)(hk:Rx' t)(ht:Tz t):G 271 [tm t,.mp ((jjb p 0 ns).map kn)]=some (tm (jgV (jgY p ns) t),[]):=by
 rw[jxm _ (jvA hv) t hk ht,jwD]
theorem jvd(p:UInt8)(ns:Xa)(hn:ns.length<=1000):∀t:T,Tz t->G 247 [tm t,strs ns,sv [p]]=some (tm (jgV (jgY p ns) t),[]):=by
 refine T.ind λt ih ht=>?_;have hz:=ht;unfold Tz at hz;rw[jgL]at hz;have e0:=jg9 t.name (((jgK t).1 ht.wf).1);rw[jKw,jkr];cases hv:jgk t.name<;>rw[hv]at e0
 .rw [ja0 Bool.false_ne_true];have key:=(upto (P:=λi=>jtc (strs ns) (sv [p]) (vi i) (sv t.name) (tms t.args) (sv []) (sv t.name) [] (((t.args.map (jgV (jgY p ns))).take i).map jgi)=some (tm (.mk t.name (t.args.map (jgV (jgY p ns)))),[])) (n:=t.args.length) ?_ ?_ 0 (Nat.zero_le _))
  .simp only[Int.natCast_zero,List.take_zero,List.map_nil]at key;simp only[evz,e0,key]
  .rw [jBY,jfU (by rw[List.length_map];omega)]
   simp only[evz];rfl
  .intro i hi ih';have hlt:(i:Int)<((t.args.length:Nat):Int):=by omega
   have h5:=jgj hi (by show t.args.length<=9223372036854775807;omega)
   have e2:=ih t.args[i] (jfL _) (ht.args _ (jfL _));have hf:jbB (i+1) 40=true:=jvw (by omega);have hi2:i<(t.args.map (jgV (jgY p ns))).length:=by rw[List.length_map];exact hi
   have hl:(((t.args.map (jgV (jgY p ns))).take i).map jgi).length=i:=by rw[List.length_map,List.length_take,List.length_map];omega
   have ha:jeV (((t.args.map (jgV (jgY p ns))).take i).map jgi) [[sv (jgV (jgY p ns) t.args[i]).name,tms (jgV (jgY p ns) t.args[i]).args]]=((t.args.map (jgV (jgY p ns))).take (i+1)).map jgi:=by
    rw[show[sv (jgV (jgY p ns) t.args[i]).name,tms (jgV (jgY p ns) t.args[i]).args]=jgi (jgV (jgY p ns) t.args[i]) from(jgT _).symm,List.take_add_one,jam hi2,List.map_append,List.getElem_map];rfl
   generalize ((t.args.map (jgV (jgY p ns))).take i).map jgi=R at *;generalize jgV (jgY p ns) t.args[i]=u at *;rw[jBY];simp only[evz,hlt,jfY hi,jga,e2,hl,hf,ha,h5,ih']
 .rw [jbZ rfl];have key:=(upto (P:=λi=>(∀j,(h:j<i)-> ∀h':j<ns.length,ns[j]≠t.name)->jtb (strs ns) (sv [p]) (vi i) (sv t.name) (tms t.args) (sv []) []=some (tm (.mk (jgY p ns t.name) []),[])) (n:=ns.length) ?_ ?_ 0 (Nat.zero_le _)) (λj h=>by omega)
  .simp only[Int.natCast_zero]at key;simp only[evz,e0,key]
  .intro hall;have:jgY p ns t.name=t.name:=by
    unfold jgY;have:ns.findIdx? (λx=>decide (x=t.name))=none:=by
     rw[List.findIdx?_eq_none_iff];intro x hx;obtain⟨j,hj,rfl⟩:=List.mem_iff_getElem.1 hx;simpa using hall j hj hj
    rw[this]
   rw[jBX,this];simp only[evz];rfl
  .intro i hi ih' hall;have hlt:(i:Int)<((ns.length:Nat):Int):=by omega
   have h5:=jgj hi (by show ns.length<=9223372036854775807;omega)
   have ld:QO (.elt (cs ns[i]) 0)=some (sv ns[i]):=rfl;rw[jBX];by_cases he:ns[i]=t.name
   .have e1:=ju3 i (by omega);have e2:=jGM p i (by omega);have:jgY p ns t.name=jiG p i:=by
     unfold jgY;have:ns.findIdx? (λx=>decide (x=t.name))=some i:=by
      rw[List.findIdx?_eq_some_iff_getElem];exact⟨hi,by simp[he],λj hj=>by simpa using hall j hj (by omega)⟩
     rw[this]
    rw[this];simp only[evz,hlt,jfY hi,he,e1,e2];rfl
   .have ih':=ih' λj hj hj'=>by
     by_cases h:j=i
     .subst h;exact he
     .exact hall j (by omega) hj'
    simp only[evz,hlt,jfY hi,ld,he,h5,ih']
theorem jkR{n:Nat}(h:n<=1000000):jbB n 48=true:=by
 unfold jbB;exact decide_eq_true ⟨by omega,by omega⟩
theorem jkX{α:Type}{f:α->Xd}{xs:List α}{i:Nat}(h:i<xs.length):jeV ((xs.take i).map f) [f xs[i]]=(xs.take (i+1)).map f:=by
 rw[List.take_add_one,jam h,List.map_append];rfl
theorem take_len{α:Type}{f:α->Xd}{xs:List α}{i:Nat}(h:i<=xs.length):((xs.take i).map f).length=i:=by rw[List.length_map,List.length_take];omega
noncomputable def eqL(a b:Lt):Bool:=decide (a.1=b.1) && dq a.2 b.2
theorem jlg(a b:Lt):eqL a b=true↔a=b:=by
 obtain⟨p,t⟩:=a;obtain⟨q,u⟩:=b;unfold eqL;rw[jbX,jfH,jhF,jem]
theorem jka(a b:Lt)(ha:Tz a.2)(hb:Tz b.2):G 137 [ltm a,ltm b]=some (vb (eqL a b),[]):=by
 have e1:=jhm a.2 ha.wf b.2 hb.wf;unfold eqL;rw[jJb];by_cases h:a.1=b.1
 .rw [decide_eq_true h,Bool.true_and];simp only[evz,h,e1]
 .rw [decide_eq_false h,Bool.false_and];simp only[evz,h]
theorem jlZ(l:Lt)(h:Tz l.2):G 110 [ltm l]=some (ltm l,[]):=by
 have e1:=jim l.2 h;rw[jIY];simp only[evz,e1];generalize hB:Jt _ _ _=B;have hB':B=some (ltm l):=by rw[<-hB];kernel_rfl
 rw[hB'];simp only[evz]
noncomputable def cpG:Lt->List Lt->List Lt
 |_,[]=>[]
 |p,b::l=>if eqL b p then cpG b l else b::cpG b l
theorem juB:∀(l:List Lt)(a:Lt),jnP eqL (a::l)=a::cpG a l
 | [],a=>rfl
 |b::l,a=>by
  rw[jnP,juB l b,cpG];show(if eqL a b then b::cpG b l else a::b::cpG b l)=_;by_cases h:a=b
  .subst h;rw[jbZ ((jlg a a).2 rfl),jbZ ((jlg a a).2 rfl)]
  .rw [ja0 (λe=>h ((jlg a b).1 e)),ja0 (λe=>h ((jlg b a).1 e).symm)]
theorem jIl{α:Type}{f:α->Xd}{xs:List α}{i:Nat}(h:i<xs.length)(n:Nat):jcZ (xs.map f) i 0 n=some (.agg ((f xs[i]).take n)):=by unfold jcZ;simp[h]
theorem jvS{xs:List Lt}{i:Nat}(h:i<xs.length):jcZ (xs.map ltc) i 0 3=some (ltm xs[i]):=jIl h 3
theorem jIc{α:Type}{f:α->Xd}{xs:List α}{i:Nat}(h:i<xs.length):pIx (Y8 (xs.map f)) (vi (i:Nat))=some i:=by
 rw[jrd,List.length_map];exact jgZ h
theorem jqu{α:Type}{R s:List α}{k i:Nat}(h:R.drop k=s.drop k)(hk:k<=i)(hi:i<R.length)(hs:i<s.length):R[i]=s[i]:=by
 have:=congrArg (λl=>l[i-k]?) h;simp only[jfp,show k+(i-k)=i by omega,jam hi,jam hs]at this;exact jf2 this
theorem jAF(s:List Lt)(hl:s.length<=1000000)(hz:∀x∈s,Tz x.2)(k:Nat)(hk:k<s.length):∀j,j<=s.length-k->1<=j-> ∀(w:Nat)(R:List Lt),R.length=s.length->R.drop (k+j-1)=s.drop (k+j-1)->w+1<=k+j-> ∀p:Lt,(∃h:k+j-1<s.length,s[k+j-1]=p)->
  jlR (vi (w:Nat)) (nA k) (nA (s.length-k)) (vi (j:Nat)) (R.map ltc)=some (.top,[.sl 3 ((R.take w++cpG p (s.drop (k+j))).map ltc)]):=by
 refine upto ?_ ?_
 .intro _ w R hR hag hw p hp;have hd:s.drop (k+(s.length-k))=[]:=List.drop_eq_nil_of_le (by omega);have hlt:¬((s.length-k:Nat):Int)<((s.length-k:Nat):Int):=by omega
  have hlt':jdl .lss false (vi ((s.length-k:Nat):Int)) (nA (s.length-k))=some (vb false):=by
   show some (vb (decide _))=_;rw[decide_eq_false hlt]
  have b1:pB (jaJ (R.map ltc)) (jd6 (R.map ltc) 0) none=some R.length:=by
   rw[jhY,show jd6 (R.map ltc) 0=R.length by rw[jh2,List.length_map];rfl];exact jhe (jdB _)
  have b2:pB 0 R.length (some (vi (w:Nat)))=some w:=jiq (by omega);have ln:(yn (R.map ltc) (0+w) (QP (jeQ R.length w) [vb false,sv [],.sl 2 []])).length=R.length:=by
   rw[jkT];simp[QP,jie];omega
  have b3:pB (jaJ (yn (R.map ltc) (0+w) (QP (jeQ R.length w) [vb false,sv [],.sl 2 []]))) (jd6 (yn (R.map ltc) (0+w) (QP (jeQ R.length w) [vb false,sv [],.sl 2 []])) 0) (some (vi (w:Nat)))=some w:=by
   rw[jt1,jh2,ln];exact jiq (by omega)
  have tk:List.take (jeQ w 0) (yn (R.map ltc) (0+w) (QP (jeQ R.length w) [vb false,sv [],.sl 2 []]))=(R.take w).map ltc:=by
   rw[jkT,jie,Nat.sub_zero,je8,jet,jf5 (by rw[List.length_take,List.length_map];omega),List.take_take,Nat.min_self,List.map_take]
  have h1:nOf (nA (s.length-k))=s.length-k:=rfl;rw[ju8];simp only[cev];rw[hd,cpG,jf4,h1,hlt'];simp only[Option.bind_some,jj1,jjO,b1,b2,b3,tk]
 .intro j hj ih hj1 w R hR hag hw p hp;obtain⟨hp1,hp2⟩:=hp;have hi:k+j<s.length:=by omega
  have hlt':jdl .lss false (vi ((j:Nat):Int)) (nA (s.length-k))=some (vb true):=by
   show some (vb (decide (((j:Nat):Int)<((s.length-k:Nat):Int))))=_;rw[decide_eq_true (by omega)]
  have h1:nOf (nA (s.length-k))=s.length-k:=rfl;have h2:nOf (nA k)=k:=rfl;have x1:pIx (s.length-k) (vi ((j:Nat):Int))=some j:=jgZ hj;have c1:jdl .sub false (vi ((j:Nat):Int)) (vi 1)=some (vi ((j-1:Nat):Int)):=by
   rw[jvv,show((j:Nat):Int)-1=((j-1:Nat):Int) by omega];exact jgA (by omega) (by omega)
  have x2:pIx (s.length-k) (vi ((j-1:Nat):Int))=some (j-1):=jgZ (by omega);have a1:R[k+j]'(by omega)=s[k+j]:=jqu hag (by omega) (by omega) hi;have a2:R[k+(j-1)]'(by omega)=p:=by
   rw[<-hp2];have:=jqu hag (i:=k+(j-1)) (by omega) (by omega) (by omega);rw[this];congr 1;omega
  have r1:jcZ (R.map ltc) (k+j) 0 3=some (ltm s[k+j]):=by rw[jvS (by omega),a1]
  have r2:jcZ (R.map ltc) (k+(j-1)) 0 3=some (ltm p):=by rw[jvS (by omega),a2]
  have zp:Tz p.2:=by rw[<-hp2];exact hz _ (jfL _)
  have e1:=jka s[k+j] p (hz _ (jfL _)) zp;have h5:jdl .add false (vi ((j:Nat):Int)) (vi 1)=some (vi ((j+1:Nat):Int)):=jgj (i:=j) (n:=j+1) (by omega) (by omega);have hdr:s.drop (k+j)=s[k+j]::s.drop (k+(j+1)):=jgg hi;have hag':R.drop (k+(j+1)-1)=s.drop (k+(j+1)-1):=by
   have:=congrArg (List.drop 1) hag;rw[List.drop_drop,List.drop_drop]at this;rwa[show k+j-1+1=k+(j+1)-1 by omega]at this
  have hx:∃h:k+(j+1)-1<s.length,s[k+(j+1)-1]=s[k+j]:=⟨by omega,by congr 1⟩;rw[ju8];simp only[cev];rw[hdr,cpG,h1,h2,hlt'];cases hq:eqL s[k+j] p<;>rw[hq]at e1
  .rw [ja0 Bool.false_ne_true];have x3:pIx R.length (vi (w:Nat))=some w:=jgZ (by omega);have rg:jbF (R.map ltc) w=some (ltc (R[w]'(by omega))):=by unfold jbF;simp[show w<R.length by omega]
   have co:∀x y:Lt,Zj (ltc x) 0 [vb y.1,sv y.2.name,tms y.2.args]=ltc y:=λx y=>rfl;have rs:Y9 (R.map ltc) w (ltc s[k+j])=(R.set w s[k+j]).map ltc:=by unfold Y9;rw[List.map_set]
   have h6:jdl .add false (vi ((w:Nat):Int)) (vi 1)=some (vi ((w+1:Nat):Int)):=jgj (i:=w) (n:=w+1) (by omega) (by omega);have:=ih (by omega) (w+1) (R.set w s[k+j]) (by rw[jfz];exact hR) (by rw[List.drop_set_of_lt (by omega)];exact hag') (by omega) s[k+j] hx;have tk:(R.set w s[k+j]).take (w+1)=R.take w++[s[k+j]]:=by
    rw[List.take_add_one,List.take_set_of_le (jdB _),List.getElem?_set_self (by omega)];rfl
   rw[tk,jet]at this;simp only[evz,x1,r1,c1,x2,r2,e1,x3,rg,co,rs,h6,h5];rw[this];rfl
  .rw [jbZ rfl];have:=ih (by omega) w R hR hag' (by omega) s[k+j] hx;simp only[evz,x1,r1,c1,x2,r2,e1,h5];exact this
theorem jAE(s:List Lt)(hl:s.length<=1000000)(hz:∀x∈s,Tz x.2):∀k,k<=s.length->1<=k-> ∀p:Lt,(∃h:k-1<s.length,s[k-1]=p)->jnE (vi (k:Nat)) (s.map ltc)=some (.top,[.sl 3 ((s.take k++cpG p (s.drop k)).map ltc)]):=by
 refine upto ?_ ?_
 .intro _ p _;rw[ju7,List.drop_length,cpG,jf4,List.take_length];simp only[evz]
 .intro k hk ih hk1 p hp;obtain⟨hp1,hp2⟩:=hp;have hlt:((k:Nat):Int)<((s.length:Nat):Int):=by omega
  have x1:pIx (Y8 (s.map ltc)) (vi (k:Nat))=some k:=jIc hk;have c1:ck (((k:Nat):Int)-1)=some (vi ((k-1:Nat):Int)):=by
   rw[show((k:Nat):Int)-1=((k-1:Nat):Int) by omega];exact jgA (by omega) (by omega)
  have x2:pIx (Y8 (s.map ltc)) (vi ((k-1:Nat):Int))=some (k-1):=jIc hp1;have r1:=jvS hk;have r2:jcZ (s.map ltc) (k-1) 0 3=some (ltm p):=by rw[jvS hp1,hp2]
  have zp:Tz p.2:=by rw[<-hp2];exact hz _ (jfL _)
  have e1:=jka s[k] p (hz _ (jfL _)) zp;have h5:=jgj hk (by show s.length<=9223372036854775807;omega);rw[ju7,jgg hk,cpG];rw[jrd,List.length_map]at x1 x2;cases hq:eqL s[k] p<;>rw[hq]at e1
  .have ih:=ih (by omega) s[k] ⟨by omega,by congr 1⟩;rw[List.take_add_one,jam hk,jet]at ih;rw[ja0 Bool.false_ne_true];simp only[evz,hlt,x1,r1,c1,x2,r2,e1,h5];exact ih
  .have b1:pB (jaJ (s.map ltc)) (jd6 (s.map ltc) 0) none=some s.length:=by
    rw[jhY,show jd6 (s.map ltc) 0=s.length by rw[jh2,List.length_map];rfl];exact jhe (jdB _)
   have b2:pB 0 s.length (some (vi (k:Nat)))=some k:=jiq (by omega);have:=jAF s hl hz k hk 1 (by omega) (jdB _) k s rfl rfl (jdB _) s[k] ⟨by omega,rfl⟩;rw[jbZ rfl];simp only[evz,hlt,x1,r1,c1,x2,r2,e1,b1,b2,jie];exact this
theorem jwI(s:List Lt)(hl:s.length<=1000000)(hz:∀x∈s,Tz x.2):jwt (s.map ltc)=some (.top,[.sl 3 ((jnP eqL s).map ltc)]):=by
 rw[jGb]
 match s,hl,hz with
 | [],_,_=>simp only[evz];rfl
 | [a],_,_=>simp only[evz];rfl
 |a::b::r,hl,hz=>
  have:=jAE (a::b::r) hl hz 1 (by simp) (jdB _) a ⟨by simp,rfl⟩;rw[juB];have hlt:¬(((a::b::r).length:Nat):Int)<2:=by simp only[jfC];omega
  generalize hx:a::b::r=x at *;simp only[evz,hlt];rw[<-hx]at this⊢;exact this
theorem jzK(l:List Lt)(hl:l.length<=1000000)(hk:∀x∈l,Rx' x.2)(hz:∀x∈l,Tz x.2):∃s:List Lt,s.Perm l/\s.Pairwise (λa b=>¬cmpL b a<0)/\jws (l.map ltc)=some (.top,[.sl 3 (s.map ltc)]):=by
 obtain⟨s,h1,h2,h3⟩:=juE ji1 id ltc 3 154 rfl l (by omega) λx hx y hy=>jjT x y (hk x hx) (hz x hx) (hk y hy) (hz y hy);exact⟨s,h1,h2,by rw[jGa];exact h3⟩
theorem jo0(l:List Lt)(hl:l.length<=1000000)(hk:∀x∈l,Rx' x.2)(hz:∀x∈l,Tz x.2):G 245 [.sl 3 (l.map ltc)]=some (cm (jhA cmpL l),[]):=by
 obtain⟨s,h1,h2,h3⟩:=jzK l hl hk hz;have h4:=jwI s (by rw[h1.length_eq];exact hl) λx hx=>hz x (h1.mem_iff.1 hx);rw[jEt ji1 jlg h2 λx=>h1.mem_iff]at h4;have key:=upto (P:=λi=>js9 (.sl 3 (l.map ltc)) (vi (l.length:Nat)) (vi (i:Nat)) [] ((l.take i).map ltc)=some (cm (jhA cmpL l),[])) (n:=l.length) ?_ ?_ 0 (Nat.zero_le _)
 .simp only[Int.natCast_zero,List.take_zero,List.map_nil]at key;rw[jKu];simp only[evz,key]
 .have r1:∀s:List Lt,hR 3 (A.top,[.sl 3 (s.map ltc)]) 0=some (s.map ltc):=λs=>rfl;rw[jBV,List.take_length];simp only[evz,h3,r1,h4]
 .intro i hi ih;have hlt:(i:Int)<((l.length:Nat):Int):=by omega
  have h5:=jgj hi (by show l.length<=9223372036854775807;omega)
  have e1:=jlZ l[i] (hz _ (jfL _));have ta:=jkX (f:=ltc) hi;have tl:=take_len (f:=ltc) (Nat.le_of_lt hi);have hf:jbB (i+1) 48=true:=jkR (by omega);generalize (l.take i).map ltc=R at *;rw[jBV];simp only[evz,hlt,jfY hi,jgS,e1,tl,hf,ta,h5,ih]
theorem jrw(l:Cls)(hl:l.length<=1000000)(hz:∀x∈l,Tz x.2):G 87 [cm l]=some (cm l,[]):=by
 have key:=upto (P:=λi=>jxU (.sl 3 (l.map ltc)) (vi (l.length:Nat)) (vi (i:Nat)) [] ((l.take i).map ltc)=some (cm l,[])) (n:=l.length) ?_ ?_ 0 (Nat.zero_le _)
 .simp only[Int.natCast_zero,List.take_zero,List.map_nil]at key;rw[g87];simp only[evz,key]
 .rw [jFr,List.take_length];simp only[evz]
 .intro i hi ih;have hlt:(i:Int)<((l.length:Nat):Int):=by omega
  have h5:=jgj hi (by show l.length<=9223372036854775807;omega)
  have e1:=jlZ l[i] (hz _ (jfL _));have ta:=jkX (f:=ltc) hi;have tl:=take_len (f:=ltc) (Nat.le_of_lt hi);have hf:jbB (i+1) 48=true:=jkR (by omega);generalize (l.take i).map ltc=R at *;rw[jFr];simp only[evz,hlt,jfY hi,jgS,e1,tl,hf,ta,h5,ih]
theorem juP(c:Cls)(hl:c.length<=1048576)(hz:∀l∈c,Tz l.2):G 244 [cm c]=jiQ (if jhP c then some c else none):=by
 have e1:=jkL c hl hz;rw[jKt];cases hv:jhP c<;>rw[hv]at e1
 .rw [ja0 Bool.false_ne_true];simp only[evz,e1];rfl
 .rw [jbZ rfl];simp only[evz,e1];rfl
noncomputable def sameC(a b:Cls):Bool:=dq a b
theorem jAQ(a b:Lt):dq a b=eqL a b:=by
 cases h:eqL a b with
 |true=>exact jhF.2 ((jlg a b).1 h)
 |false=>exact jqt.2 λe=>by rw[(jlg a b).2 e]at h;cases h
theorem jm4(a b:Cls)(hl:a.length<=1048576)(ha:∀l∈a,Tz l.2)(hb:∀l∈b,Tz l.2):G 109 [cm a,cm b]=some (vb (dq a b),[]):=by
 rw[jIX];have key:G 136 [.sl 3 (a.map ltc),.sl 3 (b.map ltc),.fn 137 []]=some (vb (dq a b),[]):=by
  rw[jJa];by_cases hlen:a.length=b.length
  .have key:=upto (P:=λi=>jsH (.sl 3 (b.map ltc)) (.fn 137 []) (.sl 3 (a.map ltc)) (vi (a.length:Nat)) (vi (i:Nat))=some (vb (dq (a.drop i) (b.drop i)),[])) (n:=a.length) ?_ ?_ 0 (Nat.zero_le _)
   .simp only[Int.natCast_zero,List.drop_zero]at key;rw[hlen]at key;simp only[evz,hlen,key]
   .rw [jBg,List.drop_length,List.drop_eq_nil_of_le (by omega),jmu];simp only[evz]
   .intro i hi ih;have hi2:i<b.length:=by omega
    have hlt:(i:Int)<((a.length:Nat):Int):=by omega
    have h5:=jgj hi (by show a.length<=9223372036854775807;omega)
    have e1:=jka a[i] b[i] (ha _ (jfL _)) (hb _ (jfL _));have hp:K.pureF 137=true:=rfl;have cc:DX.run K (MM K) (.callc (.fn 137 []) [ltm a[i],ltm b[i]] false)=some (vb (eqL a[i] b[i])):=by
     rw[jhU hp,jf4,e1];rfl
    rw[jBg,jgg hi,jgg hi2,jpG,jAQ];cases hq:eqL a[i] b[i]<;>rw[hq]at cc
    .rw [Bool.false_and];simp only[evz,hlt,jfY hi,jfY hi2,jgS,cc]
    .rw [Bool.true_and];simp only[evz,hlt,jfY hi,jfY hi2,jgS,cc,h5,ih]
  .have hne:¬((a.length:Nat):Int)=((b.length:Nat):Int):=by omega
   rw[jtC hlen];simp only[evz,hne]
 simp only[evz,key]
theorem jr8(a b:Cls)(hl:a.length<=1048576)(ha:∀l∈a,Tz l.2)(hb:∀l∈b,Tz l.2):G 94 [cm a,cm b]=some (vb (dq a b),[]):=by
 rw[g94];by_cases hlen:a.length=b.length
 .have key:=upto (P:=λi=>jxX (vi (i:Nat)) (.sl 3 (a.map ltc)) (.sl 3 (b.map ltc))=some (vb (dq (a.drop i) (b.drop i)),[])) (n:=a.length) ?_ ?_ 0 (Nat.zero_le _)
  .simp only[Int.natCast_zero,List.drop_zero]at key;simp only[evz,hlen,key]
  .rw [jFu,List.drop_length,List.drop_eq_nil_of_le (by omega),jmu];simp only[evz]
  .intro i hi ih;have hi2:i<b.length:=by omega
   have hlt:(i:Int)<((a.length:Nat):Int):=by omega
   have h5:=jgj hi (by show a.length<=9223372036854775807;omega)
   have e1:=jiU a[i].2 (ha _ (jfL _)).wf b[i].2 (hb _ (jfL _)).wf;have ld:∀l:Lt,QO (.elt (ltc l) 0)=some (vb l.1):=λl=>rfl;have ad:∀(l:Lt)(n:Nat),jdk (.elt (ltc l) 0) n=some (.elt (ltc l) n):=λl n=>by rw[jip,je8]
   have ld2:∀l:Lt,QN 2 (.elt (ltc l) 1)=some (tm l.2):=λl=>rfl;rw[jFu,jgg hi,jgg hi2,jpG,jAQ,eqL];by_cases hs:a[i].1=b[i].1
   .rw [decide_eq_true hs,Bool.true_and];cases hq:dq a[i].2 b[i].2<;>rw[hq]at e1
    .rw [Bool.false_and];simp only[evz,hlt,jfY hi,jfY hi2,ad,ld,ld2,hs,e1]
    .rw [Bool.true_and];simp only[evz,hlt,jfY hi,jfY hi2,ad,ld,ld2,hs,e1,h5,ih]
   .rw [decide_eq_false hs,Bool.false_and,Bool.false_and];simp only[evz,hlt,jfY hi,jfY hi2,ad,ld,hs]
 .have hne:¬((a.length:Nat):Int)=((b.length:Nat):Int):=by omega
  rw[jtC hlen];simp only[evz,hne]
theorem jFF{α:Type}{p:α->Bool}{l:List α}{k:Nat}(hk:k<=l.length)(h1:∀j,(h:j<k)-> ∀h':j<l.length,p l[j]=true)(h2:(∃h:k<l.length,p l[k]=false)\/k=l.length):l.takeWhile p=l.take k/\l.dropWhile p=l.drop k:=by
 have hp:∀a∈l.take k,p a=true:=λa ha=>by
  obtain⟨j,hj,rfl⟩:=List.mem_iff_getElem.1 ha;rw[List.length_take]at hj;rw[List.getElem_take];exact h1 j (by omega) (by omega)
 have e:=List.takeWhile_append_of_pos (l₂:=l.drop k) hp;have e':=List.dropWhile_append_of_pos (l₂:=l.drop k) hp;rw[jfK]at e e';rw[e,e'];rcases h2 with⟨h,h2⟩|h
 .rw [jgg h,List.takeWhile_cons_of_neg (by simp[h2]),List.dropWhile_cons_of_neg (by simp[h2]),jf4];exact⟨rfl,rfl⟩
 .rw [h,List.drop_length];simp
theorem jya(u:List Lt)(hl:u.length<=900000)(i:Nat)(hi:i<=u.length)(x:Lt) :
  pB (jaJ (u.map ltc)) (jd6 (u.map ltc) 0) (some (vi (i:Nat)))=some i/\jeX (u.map ltc) 0 (jeQ i 0)=(u.take i).map ltc/\jbB (u.take i).length 48=true/\pB (jaJ (u.map ltc)) (jd6 (u.map ltc) 0) none=some u.length/\pB 0 u.length (some (vi (i:Nat)))=some i/\jeX (u.map ltc) i (jeQ u.length i)=(u.drop i).map ltc/\
  jbB ((u.take i).length+1) 48=true/\jbB ((jeV ((u.take i).map ltc) [ltc x]).length+((u.drop i).map ltc).length) 48=true/\jeV (jeV ((u.take i).map ltc) [ltc x]) ((u.drop i).map ltc)=(u.take i++x::u.drop i).map ltc:=by
 have e1:jaJ (u.map ltc)=u.length:=jhY ltc u;have e2:jd6 (u.map ltc) 0=u.length:=by rw[jh2,List.length_map];rfl
 refine⟨by rw[e1,e2];exact jiq hi,by rw[jn8,jie,Nat.sub_zero,List.drop_zero,List.map_take],?_,by rw[e1,e2];exact jhe (jdB _),jiq hi,?_,?_,?_,?_⟩
 .rw [List.length_take];exact jkR (by omega)
 .rw [jn8,jie,<-List.map_drop,jfU (by rw[List.length_map,List.length_drop];omega)]
 .rw [List.length_take];exact jkR (by omega)
 .exact jkR (by unfold jeV;rw[jf7,List.length_map,List.length_map,List.length_take,List.length_drop];simp only[jfC,jfJ];omega)
 .unfold jeV;rw[List.map_append,jet];rfl
theorem jvg(l:List Lt)(hl:l.length<=1000)(hz:∀x∈l,Tz x.2)(i:Nat)(hi:i<l.length)(u:List Lt)(hu:u.length<=1000)(hzu:∀x∈u,Tz x.2):∀k,k<=u.length->(∀j,(h:j<k)-> ∀h':j<u.length,cmpL u[j] l[i]<0)->
  jtd (.sl 3 (l.map ltc)) (vi (i:Nat)) (vi (k:Nat)) (u.map ltc) []=jou (.sl 3 (l.map ltc)) (vi ((i+1:Nat):Int)) ((jlD cmpL u l[i]).map ltc) []:=by
 have h5:=jgj hi (by show l.length<=9223372036854775807;omega)
 have ld:∀l:Lt,QO (.elt (ltc l) 0)=some (vb l.1):=λl=>rfl;have ad:∀(l:Lt)(n:Nat),jdk (.elt (ltc l) 0) n=some (.elt (ltc l) n):=λl n=>by rw[jip,je8]
 have ld2:∀l:Lt,QN 2 (.elt (ltc l) 1)=some (tm l.2):=λl=>rfl;have e2:=jmh l[i].2 (hz _ (jfL _));have hck:ck ((i:Int)+1)=some (vi ((i+1:Nat):Int)):=jgA (by omega) (by omega);refine upto ?_ ?_
 .intro hall;obtain⟨t1,t2⟩:=jFF (p:=λa=>decide (cmpL a l[i]<0)) (jdB u.length) (λj h h'=>decide_eq_true (hall j h h')) (Or.inr rfl);obtain⟨k1,k2,k3,k4,k5,k6,k7,k8,k9⟩:=jya u (by omega) u.length (jdB _) l[i];have hins:jlD cmpL u l[i]=u.take u.length++l[i]::u.drop u.length:=by
   unfold jlD;rw[t1,t2,List.drop_length,ja0 (by simp)]
  rw[hins,jB0];simp only[cev];have hlt:jdl .lss false (vi (u.length:Nat)) (jaK (u.map ltc))=some (vb false):=by
   rw[jn7,List.length_map,jn3,decide_eq_false (by omega)]
  simp only[hlt,Option.bind_some,jvz,jCO,jfB,if_false,decide_false,jq7,jj1,jjO,jfY hi,ad,ld,ld2];simp only[evz,e2];generalize hB:Jt _ _ _=B;have hB':B=some (ltm l[i]):=by rw[<-hB];kernel_rfl
  rw[hB'];simp only[evz,k1,k2,k4,k5];rw[jbZ k3,jbZ k7,k6,jbZ k8,hck,Option.bind_some,k9]
 .intro k hk ih hall;have hlt:((k:Nat):Int)<((u.length:Nat):Int):=by omega
  have x1:pIx u.length (vi (k:Nat))=some k:=jgZ hk;have r1:=jvS hk;have e1:=jmZ u[k] l[i] (hzu _ (jfL _)) (hz _ (jfL _));rw[jB0];by_cases hc:cmpL u[k] l[i]<0
  .have ih:=ih λj h h'=>by
    by_cases hj:j=k
    .subst hj;exact hc
    .exact hall j (by omega) h'
   have hk1:ck ((k:Int)+1)=some (vi ((k+1:Nat):Int)):=jgA (by omega) (by omega);generalize cmpL u[k] l[i]=d at *;simp only[evz,hlt,x1,r1,jfY hi,jgS,e1,hc,hk1];exact ih
  .obtain ⟨t1,t2⟩:=jFF (p:=λa=>decide (cmpL a l[i]<0)) (Nat.le_of_lt hk) (λj h h'=>decide_eq_true (hall j h h')) (Or.inl ⟨hk,decide_eq_false hc⟩);have hins:jlD cmpL u l[i]=if cmpL u[k] l[i]=0 then u else u.take k++l[i]::u.drop k:=by
    unfold jlD;rw[t1,t2,jgg hk];by_cases h0:cmpL u[k] l[i]=0
    .rw [jbZ h0];exact jbZ (decide_eq_true h0)
    .rw [ja0 h0];exact ja0 (λe=>h0 (of_decide_eq_true e))
   rw[hins];by_cases h0:cmpL u[k] l[i]=0
   .rw [jbZ h0];rw[h0]at e1;simp only[evz,hlt,x1,r1,jfY hi,jgS,e1,hck]
   .obtain ⟨k1,k2,k3,k4,k5,k6,k7,k8,k9⟩:=jya u (by omega) k (Nat.le_of_lt hk) l[i];rw[ja0 h0];generalize cmpL u[k] l[i]=d at *;simp only[evz,hlt,x1,r1,jfY hi,jgS,e1,hc,h0,ad,ld,ld2,e2];generalize hB:Jt _ _ _=B;have hB':B=some (ltm l[i]):=by rw[<-hB];kernel_rfl
    rw[hB'];simp only[evz,k1,k2,k4,k5];rw[jbZ k3,jbZ k7,k6,jbZ k8,hck,Option.bind_some,k9]
theorem jA3{u:List Lt}(hu:Asc cmpL u)(x:Lt){y:Lt} :y∈jlD cmpL u x↔y∈u\/y=x:=(jqy ji1 hu x).2 y
theorem joH(l:List Lt)(hl:l.length<=900)(hz:∀x∈l,Tz x.2):G 248 [.sl 3 (l.map ltc)]=some (cm (jhA cmpL l),[]):=by
 have key:=upto (P:=λi=>∀u:List Lt,Asc cmpL u->u.length<=i->(∀x∈u,Tz x.2)->jou (.sl 3 (l.map ltc)) (vi (i:Nat)) (u.map ltc) []=some (cm ((l.drop i).foldl (jlD cmpL) u),[])) (n:=l.length) ?_ ?_ 0 (Nat.zero_le _) [] List.Pairwise.nil (jdB _) (λx h=>by cases h)
 .rw [List.drop_zero]at key;simp only[Int.natCast_zero,List.map_nil]at key;rw[jKx,key];rfl
 .intro u _ _ _;rw[jBZ,List.drop_length];simp only[evz];rfl
 .intro i hi ih u ha hu hzu;have hlt:(i:Int)<((l.length:Nat):Int):=by omega
  have:=jvg l (by omega) hz i hi u (by omega) hzu 0 (Nat.zero_le _) (λj h=>absurd h (Nat.not_lt_zero _));simp only[Int.natCast_zero]at this;have h2:=ih (jlD cmpL u l[i]) (jqy ji1 ha l[i]).1 (by have:=juR cmpL u l[i];omega) λx hx=>by
   rcases(jA3 ha l[i]).1 hx with h|h
   .exact hzu x h
   .rw [h];exact hz _ (jfL _)
  rw[jBZ,jgg hi,List.foldl_cons];simp only[evz,hlt,this,h2]
theorem CN.ren_tz{p:UInt8}(hp:upc p=true){c:Cls}(h:CN c):∀x∈c.map (λl=>(l.1,jgV (jgY p (jgU c)) l.2)),Rx' x.2/\Tz x.2:=λx hx=>⟨(h.ren hp x hx).1.rx,(h.ren hp x hx).1.tz (by have:=(h.ren hp x hx).2;omega)⟩
theorem jm3(p:UInt8)(c:Cls)(h:CN c)(ns:Xa)(hn:∀n∈ns,jgk n=true)(hr:∀x∈c.map (λl=>(l.1,jgV (jgY p ns) l.2)),Rx' x.2/\Tz x.2):G 227 [cm c,.mp ((jjb p 0 ns).map kn)]=some (cm (jhA cmpL (c.map λl=>(l.1,jgV (jgY p ns) l.2))),[]):=by
 have h8:=h.1;have e3:=jo0 (c.map λl=>(l.1,jgV (jgY p ns) l.2)) (by rw[List.length_map];omega) (λx hx=>(hr x hx).1) λx hx=>(hr x hx).2;generalize hd:c.map (λl=>(l.1,jgV (jgY p ns) l.2))=d at *;have hdl:d.length=c.length:=by rw[<-hd,List.length_map]
 have key:=upto (P:=λi=>js4 (.mp ((jjb p 0 ns).map kn)) (.sl 3 (c.map ltc)) (vi (c.length:Nat)) (vi (i:Nat)) ((d.take i).map ltc) []=some (cm (jhA cmpL d),[])) (n:=c.length) ?_ ?_ 0 (Nat.zero_le _)
 .simp only[Int.natCast_zero,List.take_zero,List.map_nil]at key;rw[jKk];simp only[evz,key]
 .rw [jBO,<-hdl,List.take_length];simp only[evz,e3]
 .intro i hi ih;have hi2:i<d.length:=by omega
  have hlt:(i:Int)<((c.length:Nat):Int):=by omega
  have h5:=jgj hi (by show c.length<=9223372036854775807;omega)
  have e1:=jvO p ns hn c[i].2 (h.rx _ (jfL _)) (h.tz _ (jfL _));have hdi:d[i]=(c[i].1,jgV (jgY p ns) c[i].2):=by simp only[<-hd,List.getElem_map]
  have ta:=jkX (f:=ltc) hi2;have tl:=take_len (f:=ltc) (Nat.le_of_lt hi2);have hf:jbB (i+1) 48=true:=jkR (by omega);rw[hdi]at ta;generalize (d.take i).map ltc=R at *;generalize jgV (jgY p ns) c[i].2=u at *;rw[jBO];simp only[evz,hlt,jfY hi,jgS,e1];generalize hB:Jt _ _ _=B;have hB':B=some (ltm (c[i].1,u)):=by rw[<-hB];kernel_rfl
  rw[hB'];have hck:ck ((i:Int)+1)=some (vi ((i+1:Nat):Int)):=jgA (by omega) (by omega);simp only[evz,tl,hf,ta,hck,ih]
theorem jtT(p:UInt8)(c:Cls)(h:CN c)(ns:Xa)(hl:ns.length<=1000)(hr:∀x∈c.map (λl=>(l.1,jgV (jgY p ns) l.2)),Rx' x.2/\Tz x.2):G 210 [cm c,strs ns,sv [p]]=some (cm (jhA cmpL (c.map λl=>(l.1,jgV (jgY p ns) l.2))),[]):=by
 have h8:=h.1;have e3:=joH (c.map λl=>(l.1,jgV (jgY p ns) l.2)) (by rw[List.length_map];omega) (λx hx=>(hr x hx).2);generalize hd:c.map (λl=>(l.1,jgV (jgY p ns) l.2))=d at *;have hdl:d.length=c.length:=by rw[<-hd,List.length_map]
 have key:=upto (P:=λi=>js0 (strs ns) (sv [p]) (vi (i:Nat)) (.sl 3 (c.map ltc)) ((d.take i).map ltc) []=some (cm (jhA cmpL d),[])) (n:=c.length) ?_ ?_ 0 (Nat.zero_le _)
 .simp only[Int.natCast_zero,List.take_zero,List.map_nil]at key;rw[jJ5];simp only[evz,key]
 .rw [jBI,<-hdl,List.take_length];have hlt:¬((d.length:Nat):Int)<((c.length:Nat):Int):=by omega
  simp only[evz,hlt,e3]
 .intro i hi ih;have hi2:i<d.length:=by omega
  have hlt:(i:Int)<((c.length:Nat):Int):=by omega
  have h5:=jgj hi (by show c.length<=9223372036854775807;omega)
  have e1:=jvd p ns hl c[i].2 (h.tz _ (jfL _));have hdi:d[i]=(c[i].1,jgV (jgY p ns) c[i].2):=by simp only[<-hd,List.getElem_map]
  have ta:=jkX (f:=ltc) hi2;have tl:=take_len (f:=ltc) (Nat.le_of_lt hi2);have hf:jbB (i+1) 48=true:=jkR (by omega);have ld:∀l:Lt,QO (.elt (ltc l) 0)=some (vb l.1):=λl=>rfl;have ad:∀(l:Lt)(n:Nat),jdk (.elt (ltc l) 0) n=some (.elt (ltc l) n):=λl n=>by rw[jip,je8]
  have ld2:∀l:Lt,QN 2 (.elt (ltc l) 1)=some (tm l.2):=λl=>rfl;rw[hdi]at ta;generalize (d.take i).map ltc=R at *;generalize jgV (jgY p ns) c[i].2=u at *;rw[jBI];simp only[evz,hlt,jfY hi,ad,ld,ld2,e1];generalize hB:Jt _ _ _=B;have hB':B=some (ltm (c[i].1,u)):=by rw[<-hB];kernel_rfl
  rw[hB'];have hck:ck ((i:Int)+1)=some (vi ((i+1:Nat):Int)):=jgA (by omega) (by omega);simp only[evz,tl,hf,ta,hck,ih]
theorem joS(p:UInt8)(hp:upc p=true)(c:Cls)(h:CN c):G 227 [cm c,.mp ((jjb p 0 (jgU c)).map kn)]=some (cm (renC p c),[]):=jm3 p c h (jgU c) (λn=>jno) (h.ren_tz hp)
theorem jo8(p:UInt8)(hp:upc p=true)(c:Cls)(h:CN c):G 210 [cm c,strs (jgU c),sv [p]]=some (cm (renC p c),[]):=jtT p c h (jgU c) (by have:=jio h;omega) (h.ren_tz hp)
theorem jsc(c:Cls)(h:CN c):G 155 [cm c]=some (strs (jgU c),[]):=jqW c (by have:=h.1;omega) h.rx h.tz λl hl=>by have:=(h.2 l hl).2;omega
theorem jsd(c:Cls)(h:CN c):G 114 [cm c]=some (strs (jgU c),[]):=jqN c (by have:=h.1;omega) h.tz λl hl=>by have:=(h.2 l hl).2;omega
theorem jqX:∀(k i:Nat),k+i=10-> ∀c:Cls,CN c->jsY (vi (i:Nat)) (.sl 3 (c.map ltc)) []=some (cm (normF k c),[])
 |0,i,hk,c,h=>by
  have hi:((i:Nat):Int)=10:=by omega
  rw[jBG,normF,hi];simp only[evz]
 |k+1,i,hk,c,h=>by
  have hlt:((i:Nat):Int)<10:=by omega
  have e1:=jlu c h;rw[jBG,normF];cases hn:ji4 c<;>rw[hn]at e1
  .have hl:=jio h;have e2:=jsc c h;have e3:=jvP 88 (jgU c) (jlm c) (by omega);have e4:=joS 88 (by decide) c h;have hck:ck ((i:Int)+1)=some (vi ((i+1:Nat):Int)):=jgA (by omega) (by omega);have ih:=jqX k (i+1) (by omega) (renC 88 c) (h.renC (by decide));rw[ja0 Bool.false_ne_true];simp only[evz,hlt,e1,e2,e3,e4,hck,ih]
  .rw [jbZ rfl];simp only[evz,hlt,e1]
theorem jtX(c:Cls)(h:CN c):G 207 [cm c]=some (cm (normC c),[]):=by
 have e1:=jrw c (by have:=h.1;omega) h.tz
 have e2:=jqX 10 0 rfl c h;simp only[Int.natCast_zero]at e2;rw[jJ2];simp only[evz,e1,e2];rfl
theorem jqY:∀(k i:Nat),k+i=10-> ∀c:Cls,CN c->js2 (vi (i:Nat)) (.sl 3 (c.map ltc)) []=some (.tup [cm (normF k c),vb (jhP (normF k c))],[])
 |0,i,hk,c,h=>by
  have hi:((i:Nat):Int)=10:=by omega
  have e0:=jmv c (by have:=h.1;omega) h.tz
  rw[jBK,normF,hi];simp only[evz,e0]
 |k+1,i,hk,c,h=>by
  have hlt:((i:Nat):Int)<10:=by omega
  have e0:=jmv c (by have:=h.1;omega) h.tz
  have e1:=jkA c h;rw[jBK,normF];cases hn:ji4 c<;>rw[hn]at e1
  .have e2:=jsd c h;have e4:=jo8 88 (by decide) c h;have hck:ck ((i:Int)+1)=some (vi ((i+1:Nat):Int)):=jgA (by omega) (by omega);have ih:=jqY k (i+1) (by omega) (renC 88 c) (h.renC (by decide));rw[ja0 Bool.false_ne_true];simp only[evz,hlt,e1,e2,e4,hck,ih]
  .rw [jbZ rfl];simp only[evz,hlt,e1,e0]
theorem jvh(c:Cls)(h:CN c)(ha:Asc cmpL c):G 214 [cm c]=some (.tup [cm (normC c),vb (jhP (normC c))],[]):=by
 have e1:=joH c (by have:=h.1;omega) h.tz
 rw[jvi ha]at e1;have e2:=jqY 10 0 rfl c h;simp only[Int.natCast_zero]at e2;rw[jJ9];simp only[evz,e1,e2];rfl
theorem jt5(x y:Xb):(sLt x y || decide (x=y))=!sLt y x:=by
 rw[jj9,jj9];by_cases h1:x<y
 .rw [decide_eq_true h1,decide_eq_false (λh2=>List.lt_irrefl _ (List.lt_trans h1 h2))];rfl
 .by_cases h2:x=y
  .subst h2;rw[decide_eq_false h1,decide_eq_true rfl];rfl
  .rw [decide_eq_false h1,decide_eq_false h2,decide_eq_true (jCt h1 h2)];rfl
theorem jzx(b:Bool)(x y:Xb):jdl .leq b (sv x) (sv y)=some (vb (!sLt y x)):=by rw[<-jt5];rfl
theorem jzw(b:Bool)(x y:Xb):jdl .geq b (sv x) (sv y)=some (vb (!sLt x y)):=rfl
def jmT:Option Xb->jgn->Bool
 |_,[]=>true
 |none,q::r=>jgk q.1 && (jgR q.2 && (!decide (q.2.name=q.1) && jmT (some q.1) r))
 |some m,q::r=>sLt m q.1 && (jgk q.1 && (jgR q.2 && (!decide (q.2.name=q.1) && jmT (some q.1) r)))
def okB(q:Xb×T):Bool:=jgk q.1 && (jgR q.2 && !decide (q.2.name=q.1))
theorem jsu:∀(s:jgn)(m:Xb)(t:T),jmT (some m) s=(jus ((m,t)::s) && s.all okB)
 | [],m,t=>rfl
 |q::r,m,t=>by
  rw[jmT,jsu r q.1 q.2,jus,jev,okB];cases sLt m q.1<;>cases jgk q.1<;>cases jgR q.2<;>cases decide (q.2.name=q.1)<;>simp
theorem jst(s:jgn):(jmT none s && decide (s.length<=12))=jgv s:=by
 have hd:∀q:Xb×T,dq q.2.name q.1=decide (q.2.name=q.1):=λq=>by
  by_cases h:q.2.name=q.1
  .rw [jhF.2 h,decide_eq_true h]
  .rw [jqt.2 h,decide_eq_false h]
 have ha:s.all (λq=>jgk q.1 && (jgR q.2 && !dq q.2.name q.1))=s.all okB:=by
  unfold okB;congr 1;funext q;rw[hd]
 unfold jgv;rw[ha];cases s with
 |nil=>rfl
 |cons q r=>
  rw[jmT,jsu r q.1 q.2,jev];unfold okB;cases jgk q.1<;>cases jgR q.2<;>cases decide (q.2.name=q.1)<;>simp[Bool.and_comm]
def SzB(s:jgn):Prop:=s.length<=1000000/\ ∀q∈s,q.1.length<=1000000/\Tz q.2
theorem SzB.sz{s:jgn}(h:SzB s):Sz 1048576 s:=⟨by have:=h.1;omega,λq hq=>⟨by have:=(h.2 q hq).1;omega,(h.2 q hq).2⟩⟩
theorem jhs{s:jgn}(h:jgv s=true):SzB s:=by
 obtain⟨h1,_,h3⟩:=jgE h;refine⟨by omega,λq hq=>⟨?_,?_⟩⟩
 .have:=joi (h3 q hq).1;omega
 .have:=joL q.2 (jmI (h3 q hq).2.1);have:=jjM h q hq;unfold Tz;omega
theorem jjA(q:Xb×T):QN 3 (.elt (bc q) 0)=some (.agg [sv q.1,sv q.2.name,tms q.2.args]):=rfl
theorem jsx(s:jgn)(hs:SzB s):G 273 [sb s]=some (vb (jgv s),[]):=by
 have hl:=hs.1;have key:=upto (P:=λi=>∀p:Option Xb,(p=none↔i=0)->(∀m,p=some m-> ∃h:i-1<s.length,s[i-1].1=m)->jth (sbs s) (vi (s.length:Nat)) (vi (i:Nat)) (sbs s)=some (vb (jmT p (s.drop i) && decide (s.length<=12)),[])) (n:=s.length) ?_ ?_ 0 (Nat.zero_le _) none (by simp) (λm h=>by cases h)
 .simp only[Int.natCast_zero,List.drop_zero]at key;rw[jst]at key;rw[jKQ];simp only[evz,key]
 .intro p _ _;have e:decide (((s.length:Nat):Int)<=12)=decide (s.length<=12):=by congr 1;exact propext (by omega)
  have:jmT p []=true:=by cases p<;>rfl
  rw[jB6,List.drop_length,this,Bool.true_and,<-e];simp only[evz]
 .intro i hi ih p hp hq;have hlt:(i:Int)<((s.length:Nat):Int):=by omega
  have h5:=jgj hi (by show s.length<=9223372036854775807;omega)
  have hm:=hs.2 _ (jfL hi);have e1:=jmX s[i].1 (by show s[i].1.length<=9223372036854775807;omega);have e2:=jl5 s[i].2 hm.2.wf hm.2;have ih:=ih (some s[i].1) (by simp) (λm h=>by cases h;exact⟨by simpa using hi,rfl⟩);rw[jB6,jgg hi];have e3:decide (s[i].2.name=s[i].1)=decide (s[i].2.name=s[i].1):=rfl;generalize hn:decide (s[i].2.name=s[i].1)=nn at *;have e4:jdl .eql false (sv s[i].2.name) (sv s[i].1)=some (vb nn):=by rw[joN,hn]
  generalize hv:jmT (some s[i].1) (s.drop (i+1))=vv at *;cases p with
  |none=>
   have h0:¬(0:Int)<(i:Int):=by have:=hp.1 rfl;omega
   rw[jmT,hn,hv];cases hb:jgk s[i].1<;>rw[hb]at e1
   .simp only[evz,hlt,jfY hi,jjA,e1,Bool.false_and]
   cases hk:jgR s[i].2<;>rw[hk]at e2
   .simp only[evz,hlt,jfY hi,jjA,e1,e2,h0,Bool.false_and,Bool.true_and]
   cases nn
   .simp only[evz,hlt,jfY hi,jjA,e1,e2,h0,e4,h5,ih,Bool.true_and]
   .simp only[evz,hlt,jfY hi,jjA,e1,e2,h0,e4,Bool.false_and,Bool.true_and]
  |some m=>
   obtain⟨hq1,rfl⟩:=hq m rfl;have h0:(0:Int)<(i:Int):=by
    have:¬i=0:=λh=>by have:=hp.2 h;cases this
    omega
   have c1:ck ((i:Int)-1)=some (vi ((i-1:Nat):Int)):=by rw[show(i:Int)-1=((i-1:Nat):Int) by omega];exact jgA (by omega) (by omega)
   have e5:=jzx false s[i].1 s[i-1].1;rw[jmT,hn,hv];cases hb:jgk s[i].1<;>rw[hb]at e1
   .rw [Bool.false_and,Bool.and_false];simp only[evz,hlt,jfY hi,jjA,e1,Bool.false_and]
   cases hc:sLt s[i-1].1 s[i].1<;>rw[hc]at e5
   .simp only[evz,hlt,jfY hi,jfY hq1,jjA,e1,h0,c1,e5,Bool.false_and]
   cases hk:jgR s[i].2<;>rw[hk]at e2
   .simp only[evz,hlt,jfY hi,jfY hq1,jjA,e1,h0,c1,e5,e2,Bool.false_and,Bool.true_and]
   cases nn
   .simp only[evz,hlt,jfY hi,jfY hq1,jjA,e1,h0,c1,e5,e2,e4,h5,ih,Bool.true_and]
   .simp only[evz,hlt,jfY hi,jfY hq1,jjA,e1,h0,c1,e5,e2,e4,Bool.false_and,Bool.true_and]
theorem jmH(s:jgn)(hs:SzB s):G 249 [sb s]=some (vb (jgv s),[]):=by
 have hl:=hs.1;have key:=upto (P:=λi=>∀p:Option Xb,(p=none↔i=0)->(∀m,p=some m-> ∃h:i-1<s.length,s[i-1].1=m)->jte (vi (i:Nat)) (sbs s)=some (vb (jmT p (s.drop i) && decide (s.length<=12)),[])) (n:=s.length) ?_ ?_ 0 (Nat.zero_le _) none (by simp) (λm h=>by cases h)
 .simp only[Int.natCast_zero,List.drop_zero]at key;rw[jst]at key;rw[jKy];simp only[evz,key]
 .intro p _ _;have e:decide (((s.length:Nat):Int)<=12)=decide (s.length<=12):=by congr 1;exact propext (by omega)
  have:jmT p []=true:=by cases p<;>rfl
  rw[jB1,List.drop_length,this,Bool.true_and,<-e];simp only[evz]
 .intro i hi ih p hp hq;have hlt:(i:Int)<((s.length:Nat):Int):=by omega
  have h5:=jgj hi (by show s.length<=9223372036854775807;omega)
  have hm:=hs.2 _ (jfL hi);have e1:=jg9 s[i].1 (by show s[i].1.length<=9223372036854775807;omega);have e2:=jjf s[i].2 hm.2.wf hm.2;have ih:=ih (some s[i].1) (by simp) (λm h=>by cases h;exact⟨by simpa using hi,rfl⟩);rw[jB1,jgg hi];generalize hn:decide (s[i].2.name=s[i].1)=nn at *;have e4:jdl .eql false (sv s[i].2.name) (sv s[i].1)=some (vb nn):=by rw[joN,hn]
  generalize hv:jmT (some s[i].1) (s.drop (i+1))=vv at *;cases p with
  |none=>
   have h0:¬(0:Int)<(i:Int):=by have:=hp.1 rfl;omega
   rw[jmT,hn,hv];cases hb:jgk s[i].1<;>rw[hb]at e1
   .simp only[evz,hlt,jfY hi,jjA,e1,Bool.false_and]
   cases hk:jgR s[i].2<;>rw[hk]at e2
   .simp only[evz,hlt,jfY hi,jjA,e1,e2,Bool.false_and,Bool.true_and]
   cases nn
   .simp only[evz,hlt,jfY hi,jjA,e1,e2,h0,e4,h5,ih,Bool.true_and]
   .simp only[evz,hlt,jfY hi,jjA,e1,e2,e4,Bool.false_and,Bool.true_and]
  |some m=>
   obtain⟨hq1,rfl⟩:=hq m rfl;have h0:(0:Int)<(i:Int):=by
    have:¬i=0:=λh=>by have:=hp.2 h;cases this
    omega
   have c1:ck ((i:Int)-1)=some (vi ((i-1:Nat):Int)):=by rw[show(i:Int)-1=((i-1:Nat):Int) by omega];exact jgA (by omega) (by omega)
   have e5:=jzw false s[i-1].1 s[i].1;rw[jmT,hn,hv];cases hb:jgk s[i].1<;>rw[hb]at e1
   .rw [Bool.false_and,Bool.and_false];simp only[evz,hlt,jfY hi,jjA,e1,Bool.false_and]
   cases hk:jgR s[i].2<;>rw[hk]at e2
   .rw [Bool.false_and,Bool.and_false,Bool.and_false];simp only[evz,hlt,jfY hi,jjA,e1,e2,Bool.false_and]
   cases nn
   .cases hc:sLt s[i-1].1 s[i].1<;>rw[hc]at e5
    .simp only[evz,hlt,jfY hi,jfY hq1,jjA,e1,h0,c1,e5,e2,e4,Bool.false_and]
    .simp only[evz,hlt,jfY hi,jfY hq1,jjA,e1,h0,c1,e5,e2,e4,h5,ih,Bool.true_and]
   .rw [Bool.not_true,Bool.false_and,Bool.and_false,Bool.and_false,Bool.and_false];simp only[evz,hlt,jfY hi,jjA,e1,e2,e4,Bool.false_and]
theorem jCV{α:Type}{R:α->α->Prop}(irr:∀a,¬R a a)(asy:∀a b,R a b-> ¬R b a):∀{l m:List α},l.Pairwise R->m.Pairwise R->(∀x,x∈l↔x∈m)->l=m
 | [],[],_,_,_=>rfl
 | [],b::m,_,_,hx=>absurd ((hx b).2 (by simp)) (by simp)
 |a::l,[],_,_,hx=>absurd ((hx a).1 (by simp)) (by simp)
 |a::l,b::m,h1,h2,hx=>by
  obtain⟨g1,g2⟩:=List.pairwise_cons.1 h1;obtain⟨k1,k2⟩:=List.pairwise_cons.1 h2;have hab:a=b:=by
   rcases ja1.1 ((hx a).1 (by simp))with e|e
   .exact e
   rcases ja1.1 ((hx b).2 (by simp))with e'|e'
   .exact e'.symm
   .exact (asy _ _ (k1 a e) (g1 b e')).elim
  subst hab;have:l=m:=jCV irr asy g2 k2 λx=>by
   constructor
   .intro hxl;rcases ja1.1 ((hx x).1 (by simp[hxl]))with e|e
    .exact (irr x (e ▸ g1 x hxl)).elim
    .exact e
   .intro hxm;rcases ja1.1 ((hx x).2 (by simp[hxm]))with e|e
    .exact (irr x (e ▸ k1 x hxm)).elim
    .exact e
  rw[this]
theorem jkV{x y z:Xb}(h1:sLt x y=true)(h2:sLt y z=true):sLt x z=true:=by
 rw[jj9,jfH]at *;exact List.lt_trans h1 h2
theorem jtv:∀{s:jgn},jus s=true->s.Pairwise λp q=>sLt p.1 q.1=true
 | [],_=>List.Pairwise.nil
 | [p],_=>by simp
 |p::q::s,h=>by
  rw[jus,jbX]at h;have ih:=jtv h.2;refine List.pairwise_cons.2 ⟨λx hx=>?_,ih⟩;rcases ja1.1 hx with e|e
  .rw [e];exact h.1
  .exact jkV h.1 ((List.pairwise_cons.1 ih).1 x e)
theorem jHZ{m:Nat}(h:m<=2000000):jbA .u64 (vi (m:Nat))=some (.val (.int .u64 (m:Nat))):=by
 show some (A.val (.int .u64 (IntKind.u64.wrap (m:Nat))))=_;have:IntKind.u64.wrap ((m:Nat):Int)=(m:Nat):=by
  unfold IntKind.wrap;simp[IntKind.bits,IntKind.signed];omega
 rw[this]
theorem jH0{m:Nat}(h:m<=2000000):jdl .shr false (.val (.int .u64 (m:Nat))) (.val (.int .u64 1))=some (.val (.int .u64 ((m / 2:Nat):Int))):=by
 show some (A.val (.int .u64 (((m:Nat):Int).fdiv (2 ^ min 1 64))))=_;rw[Int.fdiv_eq_ediv_of_nonneg _ (by decide)];rfl
theorem jH1{m:Nat}(h:m<=2000000):jbA .i64 (.val (.int .u64 (m:Nat)))=some (vi (m:Nat)):=jgA (by omega) (by omega)
theorem jx2(x y:Xb):jg0 x y<0↔sLt x y=true:=by
 unfold jg0;cases h:sLt x y with
 |true=>simp
 |false=>
  rw[ja0 Bool.false_ne_true];split<;>simp
theorem jv3(q:Xb×T)(n:Xb):G 301 [.agg (bc q),sv n]=some (vi (jg0 q.1 n),[]):=by
 have e:=jlX q.1 n;rw[jK6];simp only[evz,e]
theorem jo9{s:jgn}(hs:s.Pairwise λp q=>sLt p.1 q.1=true){n:Xb}{i:Nat}(h1:∀k,(h:k<s.length)->k<i->sLt s[k].1 n=true)(h2:∀k,(h:k<s.length)->i<=k->sLt s[k].1 n=false):look s n=if h:i<s.length then(if s[i].1=n then some s[i].2 else none)else none:=by
 have hne:∀k,(h:k<s.length)->k≠i->s[k].1≠n:=λk h hk e=>by
  rcases Nat.lt_or_ge k i with hl|hl
  .have:=h1 k h hl;rw[e,jlr]at this;cases this
  .have hi:i<k:=by omega
   have:=(List.pairwise_iff_getElem.1 hs) i k (by omega) h hi;rw[e]at this;rw[h2 i (by omega) (jdB _)]at this;cases this
 split
 .rename_i hi;split
  .rename_i he;have hm:(n,s[i].2)∈s:=by rw[<-he];exact jfL hi
   cases hl:look s n with
   |none=>exact(jix.1 hl _ hm rfl).elim
   |some r=>
    obtain⟨k,hk,e⟩:=List.mem_iff_getElem.1 (jiw hl);have:k=i:=Classical.byContradiction λh=>hne k hk h (by rw[e]);subst this;rw[e]
  .rename_i he;refine jix.2 λp hp=>?_;obtain⟨k,hk,rfl⟩:=List.mem_iff_getElem.1 hp;by_cases h:k=i
   .subst h;exact he
   .exact hne k hk h
 .rename_i hi;refine jix.2 λp hp=>?_;obtain⟨k,hk,rfl⟩:=List.mem_iff_getElem.1 hp;exact hne k hk (by omega)
theorem jvV(s:jgn)(hl:s.length<=1000000)(hs:s.Pairwise λp q=>sLt p.1 q.1=true)(n:Xb):∀(d i j:Nat),j-i<=d->i<=j->j<=s.length->(∀k,(h:k<s.length)->k<i->sLt s[k].1 n=true)->(∀k,(h:k<s.length)->j<=k->sLt s[k].1 n=false)->
  ∃(i':Nat)(b:Bool),jqh (sbs s) (sv n) (.fn 301 []) (vi (s.length:Nat)) (vi (i:Nat)) (vi (j:Nat))=some (.tup [vi (i':Nat),vb b],[])/\look s n=(if h:i'<s.length then(if b then some s[i'].2 else none)else none)/\(b=true->i'<s.length):=by
 intro d;induction d with
 |zero=>
  intro i j hd hij hj h1 h2;have hij:i=j:=by omega
  subst hij;have hlt:¬(i:Int)<(i:Int):=by omega
  have hp:K.pureF 301=true:=rfl;rw[jCk];by_cases hi:i<s.length
  .have hi':(i:Int)<((s.length:Nat):Int):=by omega
   have cc:DX.run K (MM K) (.callc (.fn 301 []) [.agg (bc s[i]),sv n] false)=some (vi (jg0 s[i].1 n)):=by
    rw[jhU hp,jf4,jv3];rfl
   refine⟨i,decide (s[i].1=n),?_,?_,λ_=>hi⟩
   .have hz:decide (jg0 s[i].1 n=0)=decide (s[i].1=n):=decide_eq_decide.2 (jjl.zero _ _);rw[<-hz];simp only[evz,hlt,hi',jfY hi,jjA,cc]
   .rw [jo9 hs h1 h2,dif_pos hi,dif_pos hi];by_cases he:s[i].1=n
    .rw [jbZ he,decide_eq_true he,jbZ rfl]
    .rw [ja0 he,decide_eq_false he,ja0 Bool.false_ne_true]
  .have hi':¬(i:Int)<((s.length:Nat):Int):=by omega
   refine⟨i,false,?_,?_,λh=>by cases h⟩
   .simp only[evz,hlt,hi']
   .rw [jo9 hs h1 h2,dif_neg hi,dif_neg hi]
 |succ d ih=>
  intro i j hd hij hj h1 h2;by_cases hlt0:i<j;rotate_left
  .exact ih i j (by omega) hij hj h1 h2
  have hlt:(i:Int)<(j:Int):=by omega
  have hp:K.pureF 301=true:=rfl;have hm:(i+j) / 2<s.length:=by omega
  have c0:ck ((i:Int)+(j:Int))=some (vi ((i+j:Nat):Int)):=jgA (by omega) (by omega);have c1:=jHZ (m:=i+j) (by omega);have c2:=jH0 (m:=i+j) (by omega);have c3:=jH1 (m:=(i+j) / 2) (by omega);have cc:DX.run K (MM K) (.callc (.fn 301 []) [.agg (bc s[(i+j) / 2]),sv n] false)=some (vi (jg0 s[(i+j) / 2].1 n)):=by
   rw[jhU hp,jf4,jv3];rfl
  have ix:=jfY (k:=3) (f:=bc) hm;have hpw:=List.pairwise_iff_getElem.1 hs;rw[jCk];have hc:=jx2 s[(i+j) / 2].1 n;generalize hg:jg0 s[(i+j) / 2].1 n=c at *;generalize hme:(i+j) / 2=m at *;by_cases hneg:c<0
  .have hs1:=hc.1 hneg;have h5:ck ((m:Int)+1)=some (vi ((m+1:Nat):Int)):=jgA (by omega) (by omega);have:=ih (m+1) j (by omega) (by omega) hj (λk hk hk2=>by
    by_cases e:k=m
    .subst e;exact hs1
    .exact jkV (hpw k m hk hm (by omega)) hs1) h2
   obtain⟨i',b,e1,e2⟩:=this;exact⟨i',b,by simp only[evz,hlt,c0,c1,c2,c3,ix,jjA,cc,hneg,h5];exact e1,e2⟩
  .have hs1:sLt s[m].1 n=false:=by
    cases h:sLt s[m].1 n with
    |false=>rfl
    |true=>exact(hneg (hc.2 h)).elim
   have:=ih i m (by omega) (by omega) (by omega) h1 (λk hk hk2=>by
    by_cases e:k=m
    .subst e;exact hs1
    .cases h:sLt s[k].1 n with
     |false=>rfl
     |true=>rw[jkV (hpw m k hm hk (by omega)) h]at hs1;cases hs1)
   obtain⟨i',b,e1,e2⟩:=this;exact⟨i',b,by simp only[evz,hlt,c0,c1,c2,c3,ix,jjA,cc,hneg];exact e1,e2⟩
def outT(o:Option T):Xe:=match o with|some t=>some (.tup [tm t,vb true],[])|none=>some (.tup [.agg [sv [],.sl 2 []],vb false],[])
theorem jrl(s:jgn)(hs:jgv s=true)(n:Xb):G 274 [sb s,sv n]=outT (look s n):=by
 have hl:=(jgE hs).1;obtain⟨i,b,e1,e2,e3⟩:=jvV s (by omega) (jtv (jgE hs).2.1) n s.length 0 s.length (by omega) (Nat.zero_le _) (jdB _) (λk _ h=>by omega) (λk h1 h2=>by omega);simp only[Int.natCast_zero]at e1;have e4:G 300 [sbs s,sv n,.fn 301 []]=some (.tup [vi (i:Nat),vb b],[]):=by
  rw[jK5];simp only[evz,e1]
 rw[jKR,e2];cases b with
 |false=>
  have:(if h:i<s.length then(if false=true then some s[i].2 else none)else none)=(none:Option T):=by split<;>simp
  rw[this];simp only[evz,e4];rfl
 |true=>
  have hi:=e3 rfl;rw[dif_pos hi,jbZ rfl];simp only[evz,e4,jfY hi,jj4];rfl
theorem jrT(s:jgn)(hs:jgv s=true):∀t:T,Rx' t->Tz t->G 234 [sb s,tm t]=some (tm (sub s t),[]):=by
 refine T.ind λt ih hk ht=>?_;have hz:=ht;unfold Tz at hz;rw[jgL]at hz;rw[jKo];by_cases ha:t.args=[]
 .have e1:=jrl s hs t.name;have h0:jcV (tms t.args)=some (vi 0):=by rw[ha];rfl
  cases hl:look s t.name with
  |some r=>
   rw[hl]at e1;have e1:G 274 [sb s,sv t.name]=some (.tup [tm r,vb true],[]):=e1;have hv:jgk t.name=true:=((jgE hs).2.2 _ (jiw hl)).1;have e2:=jim r ((jhs hs).2 _ (jiw hl)).2;have:sub s t=r:=by rw[jig hv,jid,hl];rfl
   rw[this];simp only[evz,h0,e1,e2]
  |none=>
   rw[hl]at e1;have e1:G 274 [sb s,sv t.name]=some (.tup [.agg [sv [],.sl 2 []],vb false],[]):=e1;have:sub s t = .mk t.name []:=by
    cases hv:jgk t.name with
    |true=>rw[jig hv,jid,hl];rfl
    |false=>rw[jhK hv,ha];rfl
   rw[this];simp only[evz,h0,e1];rfl
 .have hv:jgk t.name=false:=by
   cases hv:jgk t.name with
   |false=>rfl
   |true=>exact(ha (hk.va hv)).elim
  have hpos:0<t.args.length:=by
   cases h:t.args with
   |nil=>exact(ha h).elim
   |cons _ _=>simp
  have h0:¬((t.args.length:Nat):Int)=0:=by omega
  rw[jhK hv];generalize hus:t.args.map (sub s)=us at *;have hul:us.length=t.args.length:=by rw[<-hus,List.length_map]
  have hm:=jic (b:=40) (n:=t.args.length) (by omega) (by omega);have hz0:(0:Int)<((t.args.length:Nat):Int):=by omega
  have step:∀i,(hi:i<t.args.length)->G 234 [sb s,tm t.args[i]]=some (tm (us[i]'(by omega)),[]):=λi hi=>by
   rw[ih t.args[i] (jfL _) (hk.args _ (jfL _)) (ht.args _ (jfL _))];simp only[<-hus,List.getElem_map]
  have stepR:∀i,(hi:i<t.args.length)->pIx (part jgi [sv [],.sl 2 []] us i).length (vi (i:Nat))=some i/\jbF (part jgi [sv [],.sl 2 []] us i) i=some [sv [],.sl 2 []]/\Y9 (part jgi [sv [],.sl 2 []] us i) i [sv (us[i]'(by omega)).name,tms (us[i]'(by omega)).args]=part jgi [sv [],.sl 2 []] us (i+1):=λi hi=>by
   have h4:=jj7 (f:=jgi) (z:=[sv [],.sl 2 []]) (xs:=us) (i:=i) (by omega);rw[jgT]at h4;refine⟨jgZ (by rw[jir (by omega)];omega),jj6 (by omega),h4⟩
  have key:=(upto (P:=λi=>1<=i->jwC (tms t.args) (vi (t.args.length:Nat)) (vi (i:Nat)) (sbs s) (sv []) (sv t.name) [] (part jgi [sv [],.sl 2 []] us i)=some (tm (.mk t.name us),[])) (n:=t.args.length) ?_ ?_ 1 hpos (jdB _));rotate_left
  .intro _;rw[jBR,<-hul,jj5];simp only[evz];rfl
  .intro i hi ih' _;have hlt:(i:Int)<((t.args.length:Nat):Int):=by omega
   have h5:=jgj hi (by show t.args.length<=9223372036854775807;omega)
   have e2:=step i hi;obtain⟨h2,h3,h4⟩:=stepR i hi;have ih':=ih' (by omega);rw[jBR];simp only[evz,hlt,jfY hi,jga,e2,h2,h3,jpF,h4,h5,ih']
  have e2:=step 0 hpos;obtain⟨h2,h3,h4⟩:=stepR 0 hpos;rw[<-jjh]at h2 h3 h4;simp only[Int.natCast_zero,je8]at h2 h4 key;have ix:=jfY (k:=2) (f:=jgi) hpos;simp only[Int.natCast_zero]at ix;have h5:ck (0+1)=some (vi ((1:Nat):Int)):=jgA (n:=0+1) (by omega) (by omega);have first:jwB (tms t.args) (vi (t.args.length:Nat)) (vi 0) (sbs s) (sv []) (sv t.name) (QP us.length [sv [],.sl 2 []]) []=some (tm (.mk t.name us),[]):=by
   rw[jGF];simp only[evz,hz0,ix,jga,e2,h2,h3,jpF,h4,h5,key]
  rw[hul]at first
  simp only[evz,h0,hm,first]
theorem jG0(s:jgn):∀t:T,Rx' t->nodes t<=nodes (sub s t)/\dep t<=dep (sub s t):=by
 refine T.ind λt ih hk=>?_;cases hv:jgk t.name with
 |true=>
  have ha:=hk.va hv;rw[jgx t,jjv t,ha];have:=jhX (sub s t);have:=jjv (sub s t);simp only[jgm,jky];omega
 |false=>
  have hL:∀us:Xg,(∀u∈us,nodes u<=nodes (sub s u)/\dep u<=dep (sub s u))->jgm us<=jgm (us.map (sub s))/\jky us<=jky (us.map (sub s)):=by
   intro us;induction us with
   |nil=>intro _;exact⟨jdB _,jdB _⟩
   |cons v vs ih2=>
    intro h;have h1:=h v (by simp);have h2:=ih2 λw hw=>h w (by simp[hw]);simp only[jd1,jgm,jky];omega
  have:=hL t.args λu hu=>ih u hu (hk.args u hu);rw[jgx t,jjv t,jgx (sub s t),jjv (sub s t),jmm hv];omega
def AxT(t:T):Prop:=okT t=true\/(t.name=[61]/\t.args.length=2/\ ∀u∈t.args,okT u=true)
theorem AxT.rx{t:T}(h:AxT t):Rx' t:=h.elim Or.inl λh=>Or.inr ⟨h.1,h.2.2⟩
theorem AxT.tz{t:T}(h:AxT t)(hn:nodes t<=100000):Tz t:=by
 rcases h with h|h
 .have:=joL t h;unfold Tz;omega
 .unfold Tz;rw[jgx]at hn;rw[jgL,h.1,h.2.1];have:=jyw h.2.2;simp only[jfC,jfJ];omega
theorem AxT.sub{s:jgn}(hs:jgv s=true){t:T}(h:AxT t):AxT (sub s t):=by
 rcases h with h|h
 .exact Or.inl (jkc (jiA hs) t h)
 .have hvn:jgk t.name=false:=by rw[h.1];decide
  right;rw[jhK hvn];refine⟨h.1,by show(t.args.map _).length=2;rw[List.length_map,h.2.1],λu hu=>?_⟩;obtain⟨a,ha,rfl⟩:=jfx.1 hu;exact jkc (jiA hs) a (h.2.2 a ha)
theorem AxT.sub_tz{s:jgn}(hs:jgv s=true){t:T}(h:AxT t)(hn:nodes t<=3000):Tz (Go.Proofs.YthlhadhipnokfaaGreatDoor.sub s t):=by
 have:=jso (u:=s) (Z:=30) (by decide) (jjM hs) t;exact(h.sub hs).tz (by omega)
theorem jzJ{s:jgn}{t:T}(h:Rx' t)(hs:jgr (sub s t)=true):jgr t=true:=by
 have:=jG0 s t h;simp only[jgr,jbX,jfH]at hs⊢;omega
theorem jik(s:jgn)(hs:jgv s=true)(t:T)(h:AxT t)(hn:nodes t<=3000):G 198 [sb s,tm t]=outT (if jgr (sub s t)then some (sub s t)else none):=by
 have ht:=h.tz (by omega);have hu:=h.sub_tz hs hn;have e1:=jrT s hs t h.rx ht;have e2:=jli (sub s t) hu.wf hu;rw[jJV];cases hsm:jgr (sub s t)<;>rw[hsm]at e2
 .rw [ja0 Bool.false_ne_true];simp only[evz,e1,e2];rfl
 .rw [jbZ rfl];simp only[evz,e1,e2];rfl
theorem jkj(s:jgn)(hs:jgv s=true)(t:T)(h:AxT t)(hn:nodes t<=3000):G 211 [sb s,tm t]=outT (if jgr (sub s t)then some (sub s t)else none):=by
 have ht:=h.tz (by omega);have hu:=h.sub_tz hs hn;have e0:=jmH s (jhs hs);have e1:=jtt ht h;have e2:=jjg s (jhs hs).sz t ht;have e3:=jtt hu (h.sub hs);rw[hs]at e0;rw[jJ6];cases hsm:jgr (sub s t)<;>rw[hsm]at e3
 .rw [ja0 Bool.false_ne_true];cases hs1:jgr t<;>rw[hs1]at e1
  .simp only[evz,e0,e1];rfl
  .simp only[evz,e0,e1,e2,e3];rfl
 .rw [jbZ rfl];rw[jzJ h.rx hsm]at e1;simp only[evz,e0,e1,e2,e3];rfl
abbrev LtB(p q:Xb×T):Prop:=sLt p.1 q.1=true
theorem jpe(n:Xb)(t:T):∀s:jgn,s.Pairwise LtB->(∀q∈s,q.1≠n)->(jj8 s n t).Pairwise LtB
 | [],_,_=>by unfold jj8;simp
 |p::s,h,hn=>by
  obtain⟨h1,h2⟩:=List.pairwise_cons.1 h;cases hc:sLt p.1 n with
  |true=>
   have e:jj8 (p::s) n t=p::jj8 s n t:=by
    unfold jj8;rw[List.takeWhile_cons_of_pos (p:=λp:Xb×T=>sLt p.1 n) hc,List.dropWhile_cons_of_pos (p:=λp:Xb×T=>sLt p.1 n) hc,jf0]
   rw[e];refine List.pairwise_cons.2 ⟨λx hx=>?_,jpe n t s h2 λq hq=>hn q (by simp[hq])⟩;rcases jrc.1 hx with hx|hx
   .exact h1 x hx
   .rw [hx];exact hc
  |false=>
   have e:jj8 (p::s) n t=(n,t)::p::s:=by
    unfold jj8;rw[List.takeWhile_cons_of_neg (p:=λp:Xb×T=>sLt p.1 n) (by simp[hc]),List.dropWhile_cons_of_neg (p:=λp:Xb×T=>sLt p.1 n) (by simp[hc])];rfl
   have hlt:sLt n p.1=true:=by
    have h3:=jt5 n p.1;rw[hc]at h3;have h4:decide (n=p.1)=false:=decide_eq_false λe=>hn p (by simp) e.symm;rw[h4,Bool.or_false]at h3;exact h3
   rw[e];refine List.pairwise_cons.2 ⟨λx hx=>?_,h⟩;rcases ja1.1 hx with e|e
   .rw [e];exact hlt
   .exact jkV hlt (h1 x e)
theorem jlp:∀(m s:jgn),s.Pairwise LtB->(m.map Prod.fst).Nodup->(∀p∈m,∀q∈s,q.1≠p.1)->(m.foldl (λs p=>jiJ s p.1 p.2) s).Pairwise LtB
 | [],s,h,_,_=>h
 |p::m,s,h,hn,hd=>by
  rw[jd1,jfP]at hn;rw[List.foldl_cons];by_cases he:p.2.name=p.1
  .have:jiJ s p.1 p.2=s:=jbZ he;rw[this];exact jlp m s h hn.2 λq hq r hr=>hd q (by simp[hq]) r hr
  .have:jiJ s p.1 p.2=jj8 s p.1 p.2:=ja0 he;rw[this];refine jlp m _ (jpe p.1 p.2 s h (hd p (by simp))) hn.2 λq hq r hr=>?_;rcases jrc.1 hr with hr|hr
   .exact hd q (by simp[hq]) r hr
   .rw [hr];intro e;exact hn.1 (jfx.2 ⟨q,hq,e.symm⟩)
theorem jnr:∀(m s:jgn),m.foldl (λs p=>jiJ s p.1 p.2) s=(m.filter λp=> !decide (p.2.name=p.1)).foldl (λs p=>jiJ s p.1 p.2) s
 | [],s=>rfl
 |p::m,s=>by
  rw[List.foldl_cons,List.filter_cons];by_cases he:p.2.name=p.1
  .rw [ja0 (by simp[he]),show jiJ s p.1 p.2=s from jbZ he];exact jnr m s
  .rw [jbZ (by simp[he]),List.foldl_cons];exact jnr m _
theorem jua{l s:jgn}(hn:(l.map Prod.fst).Nodup)(hk:∀p∈l,p.2.name≠p.1)(hp:s.Perm l)(hs:s.Pairwise λa b=>¬jg0 b.1 a.1<0):s=jiC l:=by
 have h1:=jlp l [] List.Pairwise.nil hn λp _ q h=>by cases h
 have h2:=(jkp l [] hk).2;refine jCV (R:=LtB) (λa h=>by unfold LtB at h;rw[jlr]at h;cases h) (λa b h h'=>by have:=jkV h h';rw[jlr]at this;cases this) ?_ h1 λx=>?_
 .have hne:s.Pairwise λa b=>a.1≠b.1:=by
   have:(s.map Prod.fst).Nodup:=(hp.map Prod.fst).nodup_iff.2 hn;rw[List.nodup_iff_pairwise_ne]at this;exact List.pairwise_map.1 this
  refine(hs.and hne).imp λ{a b} h=>?_;have h3:=jt5 a.1 b.1;rw[decide_eq_false h.2,Bool.or_false]at h3;show sLt a.1 b.1=true;rw[h3];cases hc:sLt b.1 a.1 with
  |false=>rfl
  |true=>exact(h.1 ((jx2 _ _).2 hc)).elim
 .rw [hp.mem_iff];have:=h2 x;simp only[List.not_mem_nil,false_or]at this;exact this.symm
def jhI(o:Option jgn):Xe:=match o with|some s=>some (.tup [sb s,vb true],[])|none=>some (.tup [.agg [.sl 3 []],vb false],[])
theorem jyB{n:Nat}(h:n<=1000000):jbB n 56=true:=jzA (by omega)
theorem jCr(p q:Xb×T):G 276 [.agg (bc p),.agg (bc q)]=some (vi (jg0 p.1 q.1),[]):=by
 have e:=jlX p.1 q.1;rw[jKS];simp only[evz,e]
def jr1(l:jgn):jgn:=l.filter λp=> !decide (p.2.name=p.1)
theorem jmd{s:jgn}(h:jgv s=true):(s.map Prod.fst).Nodup:=by
 rw[List.nodup_iff_pairwise_ne,List.pairwise_map];exact(jtv (jgE h).2.1).imp λ{a b} h e=>by rw[e,jlr]at h;cases h
def jkm(s u:jgn):jgn:=jr1 (s.map λq=>(q.1,sub u q.2))++u.filter λq=>(look s q.1).isNone
theorem jx9{s u:jgn}(hu:jgv u=true):jiC (jkm s u)=jg4 s u:=by
 unfold jg4 jkm;unfold jiC;rw[List.foldl_append,List.foldl_append,jnr (s.map _)];rfl
theorem jqw{s u:jgn}(hs:jgv s=true)(hu:jgv u=true):(jkm s u).length<=24/\((jkm s u).map Prod.fst).Nodup/\(∀p∈jkm s u,p.2.name≠p.1)/\ ∀p∈jkm s u,p.1.length<=1000000/\Tz p.2:=by
 obtain⟨ls,_,vs⟩:=jgE hs;obtain⟨lu,_,vu⟩:=jgE hu;have hs2:∀p∈jr1 (s.map λq=>(q.1,sub u q.2)),p.2.name≠p.1/\ ∃q∈s,p.1=q.1/\p.2=sub u q.2:=λp hp=>by
  obtain⟨h1,h2⟩:=List.mem_filter.1 hp;obtain⟨q,hq,rfl⟩:=jfx.1 h1;exact⟨by simpa using h2,q,hq,rfl,rfl⟩
 refine⟨?_,?_,λp hp=>?_,λp hp=>?_⟩
 .unfold jkm jr1;have h1:=List.length_filter_le (λp:Xb×T=> !decide (p.2.name=p.1)) (s.map λq=>(q.1,sub u q.2));have h2:=List.length_filter_le (λq:Xb×T=>(look s q.1).isNone) u;rw[jf7];rw[List.length_map]at h1;omega
 .unfold jkm;rw[List.map_append];refine jfq.2 ⟨?_,?_,λa ha b hb=>?_⟩
  .have:((jr1 (s.map λq=>(q.1,sub u q.2))).map Prod.fst).Sublist (s.map Prod.fst):=by
    have h:=(List.filter_sublist (p:=λp:Xb×T=> !decide (p.2.name=p.1)) (l:=s.map λq=>(q.1,sub u q.2))).map Prod.fst;rw[jfs]at h;exact h
   exact(jmd hs).sublist this
  .exact (jmd hu).sublist (List.filter_sublist.map Prod.fst)
  .obtain ⟨p,hp,rfl⟩:=jfx.1 ha;obtain⟨q,hq,rfl⟩:=jfx.1 hb;obtain⟨_,r,hr,e,_⟩:=hs2 p hp;have h3:=(List.mem_filter.1 hq).2;rw[Option.isNone_iff_eq_none]at h3;intro e2;exact jix.1 h3 r hr (by rw[<-e,e2])
 .rcases jeO.1 hp with hp|hp
  .exact (hs2 p hp).1
  .exact (vu p (List.mem_filter.1 hp).1).2.2
 .rcases jeO.1 hp with hp|hp
  .obtain ⟨_,q,hq,e1,e2⟩:=hs2 p hp;rw[e1,e2];have h1:=(jhs hs).2 q hq;exact⟨h1.1,AxT.sub_tz hu (Or.inl (jiA hs q hq)) (by have:=jjM hs q hq;omega)⟩
  .exact (jhs hu).2 p (List.mem_filter.1 hp).1
theorem jx4{s u:jgn}(hs:jgv s=true)(hu:jgv u=true):SzB (jg4 s u):=by
 obtain⟨h1,h2,h3,h4⟩:=jqw hs hu;rw[<-jx9 hu];obtain⟨f1,f2⟩:=jkp (jkm s u) [] h3;refine⟨by unfold jiC;rw[f1];simp;omega,λq hq=>?_⟩;have:=(f2 q).1 hq;simp only[List.not_mem_nil,false_or]at this;exact h4 q this
theorem jo2(s u:jgn)(hs:jgv s=true)(hu:jgv u=true):G 229 [sb s,sb u]=jhI (if jgv (jg4 s u)then some (jg4 s u)else none):=by
 obtain⟨g1,g2,g3,g4⟩:=jqw hs hu;have ls:=(jgE hs).1;have lu:=(jgE hu).1;obtain⟨so,p1,p2,p3⟩:=juE jjl Prod.fst bc 3 276 rfl (jkm s u) (by omega) λx _ y _=>jCr x y;have hso:=jua g2 g3 p1 p2;rw[jx9 hu]at hso;subst hso;have e1:=jsx (jg4 s u) (jx4 hs hu);have fin:jot (sbs u) (vi (u.length:Nat)) (vi (u.length:Nat)) (sbs s) [] ((jkm s u).map bc)=jhI (if jgv (jg4 s u)then some (jg4 s u)else none):=by
  have hC:jwr ((jkm s u).map bc)=some (.top,[.sl 3 ((jg4 s u).map bc)]):=by rw[jF9];exact p3
  have r1:hR 3 (A.top,[.sl 3 ((jg4 s u).map bc)]) 0=some ((jg4 s u).map bc):=rfl;rw[jBQ];cases hv:jgv (jg4 s u)<;>rw[hv]at e1
  .rw [ja0 Bool.false_ne_true];have e1:(G 273 [sb (jg4 s u)]).bind (fin true)=some (vb false):=by rw[e1];rfl
   simp only[evz,hC,r1,e1];rfl
  .rw [jbZ rfl];have e1:(G 273 [sb (jg4 s u)]).bind (fin true)=some (vb true):=by rw[e1];rfl
   simp only[evz,hC,r1,e1];rfl
 have k1:=upto (P:=λi=>∀R:jgn,R.length<=12+i->R++(u.drop i).filter (λq=>(look s q.1).isNone)=jkm s u->jot (sbs u) (vi (u.length:Nat)) (vi (i:Nat)) (sbs s) [] (R.map bc)=jhI (if jgv (jg4 s u)then some (jg4 s u)else none)) (n:=u.length) ?_ ?_ 0 (Nat.zero_le _);rotate_left
 .intro R _ hR;rw[List.drop_length,List.filter_nil,jf4]at hR;rw[hR];exact fin
 .intro i hi ih R hRl hR;have hlt:(i:Int)<((u.length:Nat):Int):=by omega
  have h5:ck ((i:Int)+1)=some (vi ((i+1:Nat):Int)):=jgA (by omega) (by omega);have e2:=jrl s hs u[i].1;rw[jgg hi,List.filter_cons]at hR;rw[jBQ];cases hl:look s u[i].1 with
  |some r=>
   rw[hl]at e2 hR;have e2:G 274 [sb s,sv u[i].1]=some (.tup [tm r,vb true],[]):=e2;rw[ja0 (by simp)]at hR;have:=ih R (by omega) hR;simp only[evz,hlt,jfY hi,jjA,e2,h5,this]
  |none=>
   rw[hl]at e2 hR;have e2:G 274 [sb s,sv u[i].1]=some (.tup [.agg [sv [],.sl 2 []],vb false],[]):=e2;rw[jbZ (by simp)]at hR;have:=ih (R++[u[i]]) (by rw[jf7];simp only[jfC,jfJ];omega) (by rw[jet];exact hR);have e3:=jim u[i].2 ((jhs hu).2 _ (jfL hi)).2;have hf:jbB (R.length+1) 56=true:=jyB (by omega);have ha:jeV (R.map bc) [[sv u[i].1,sv u[i].2.name,tms u[i].2.args]]=(R++[u[i]]).map bc:=by rw[List.map_append];rfl
   simp only[evz,hlt,jfY hi,jjA,e2,e3];generalize hB:Jt _ _ _=B;have hB':B=some (.agg (bc u[i])):=by rw[<-hB];kernel_rfl
   rw[hB'];simp only[evz,hf,ha,h5,this]
 have k0:=upto (P:=λi=>∀R:jgn,R.length<=i->R++(jr1 ((s.drop i).map λq=>(q.1,sub u q.2))++u.filter λq=>(look s q.1).isNone)=jkm s u->jp7 (sbs s) (vi (s.length:Nat)) (vi (i:Nat)) (sbs s) (sbs u) [] (R.map bc)=jhI (if jgv (jg4 s u)then some (jg4 s u)else none)) (n:=s.length) ?_ ?_ 0 (Nat.zero_le _) [] (Nat.zero_le _) rfl
 .simp only[Int.natCast_zero,List.map_nil]at k0;rw[jKm];simp only[evz,k0]
 .intro R hRl hR;have:=k1 R (by omega) (by rw[List.drop_zero];rw[List.drop_length]at hR;exact hR);simp only[Int.natCast_zero]at this;rw[jBP];simp only[evz,this]
 .intro i hi ih R hRl hR;have hlt:(i:Int)<((s.length:Nat):Int):=by omega
  have h5:ck ((i:Int)+1)=some (vi ((i+1:Nat):Int)):=jgA (by omega) (by omega);have hm:=(jhs hs).2 _ (jfL hi);have e2:=jrT u hu s[i].2 (Or.inl (jiA hs _ (jfL hi))) hm.2;rw[jgg hi,jd1,jr1,List.filter_cons]at hR;rw[jBP];by_cases he:(sub u s[i].2).name=s[i].1
  .rw [ja0 (by simp[he])]at hR;have:=ih R (by omega) hR;simp only[evz,hlt,jfY hi,jjA,e2,he,h5,this]
  .rw [jbZ (by simp[he])]at hR;have:=ih (R++[(s[i].1,sub u s[i].2)]) (by rw[jf7];simp only[jfC,jfJ];omega) (by rw[jet];exact hR);have hf:jbB (R.length+1) 56=true:=jyB (by omega);have ha:jeV (R.map bc) [[sv s[i].1,sv (sub u s[i].2).name,tms (sub u s[i].2).args]]=(R++[(s[i].1,sub u s[i].2)]).map bc:=by rw[List.map_append];rfl
   simp only[evz,hlt,jfY hi,jjA,e2,he,hf,ha,h5,this]
theorem jtS(s u:jgn)(hs:jgv s=true)(hu:jgv u=true):G 286 [sb s,sb u]=some (sb (jg4 s u),[]):=by
 have ls:=(jgE hs).1;have lu:=(jgE hu).1;have r1:∀x:jgn,hR 3 (A.top,[sbs x]) 0=some (x.map bc):=λx=>rfl;have k1:=upto (P:=λi=>∀R:jgn,R.length<=12+i->(∀q∈R,Tz q.2)->jqd (vi (i:Nat)) (sbs s) (sbs u) [] (R.map bc)=some (sb (((u.drop i).filter λq=>(look s q.1).isNone).foldl (λs p=>jiJ s p.1 p.2) R),[])) (n:=u.length) ?_ ?_ 0 (Nat.zero_le _);rotate_left
 .intro R _ _;rw[jB9,List.drop_length];simp only[evz];rfl
 .intro i hi ih R hR hz;have hlt:(i:Int)<((u.length:Nat):Int):=by omega
  have h5:ck ((i:Int)+1)=some (vi ((i+1:Nat):Int)):=jgA (by omega) (by omega);have hm:=(jhs hu).2 _ (jfL hi);rw[jB9,jgg hi,List.filter_cons];rcases jr5 s (by omega) u[i].1 with⟨h1,h2⟩|⟨k,hk,h1,h2⟩
  .have e3:=jt0 R (by omega) u[i].1 u[i].2 hm.2;have:=ih (jiJ R u[i].1 u[i].2) (by have:=jn6 R u[i].1 u[i].2;omega) λq hq=>(jrb hq).elim (hz q) λe=>by rw[e];exact hm.2
   rw[h1,jbZ (by simp),List.foldl_cons];simp only[evz,hlt,jfY hi,jj4,h2,e3,r1,h5,this]
  .have:=ih R (by omega) hz;have hk0:¬((k:Nat):Int)<0:=by omega
   rw[h1,ja0 (by simp)];simp only[evz,hlt,jfY hi,h2,hk0,h5,this]
 have k0:=upto (P:=λi=>∀R:jgn,R.length<=i->(∀q∈R,Tz q.2)->jtj (vi (i:Nat)) (sbs s) (sbs u) [] (R.map bc)=some (sb ((u.filter λq=>(look s q.1).isNone).foldl (λs p=>jiJ s p.1 p.2) (((s.drop i).map λq=>(q.1,sub u q.2)).foldl (λs p=>jiJ s p.1 p.2) R)),[])) (n:=s.length) ?_ ?_ 0 (Nat.zero_le _) [] (Nat.zero_le _) (λq h=>by cases h)
 .simp only[Int.natCast_zero,List.map_nil,List.drop_zero]at k0;rw[jKW];simp only[evz,k0];rw[<-List.foldl_append];rfl
 .intro R hR hz;have:=k1 R (by omega) hz;simp only[Int.natCast_zero,List.drop_zero]at this;rw[jB8,List.drop_length];simp only[evz,this];rfl
 .intro i hi ih R hR hz;have hlt:(i:Int)<((s.length:Nat):Int):=by omega
  have h5:ck ((i:Int)+1)=some (vi ((i+1:Nat):Int)):=jgA (by omega) (by omega);have hm:=(jhs hs).2 _ (jfL hi);have ht:Tz (sub u s[i].2):=AxT.sub_tz hu (Or.inl (jiA hs _ (jfL hi))) (by have:=jjM hs _ (jfL hi);omega);have e2:=jjg u (jhs hu).sz s[i].2 hm.2;have e3:=jt0 R (by omega) s[i].1 (sub u s[i].2) ht;have:=ih (jiJ R s[i].1 (sub u s[i].2)) (by have:=jn6 R s[i].1 (sub u s[i].2);omega) λq hq=>(jrb hq).elim (hz q) λe=>by rw[e];exact ht
  rw[jB8,jgg hi,jd1,List.foldl_cons];simp only[evz,hlt,jfY hi,jj4,e2,e3,r1,h5,this]
theorem jux(s u:jgn)(hs:jgv s=true)(hu:SzB u):G 252 [sb s,sb u]=jhI (if jgv u && jgv (jg4 s u)then some (jg4 s u)else none):=by
 have e1:=jmH s (jhs hs);have e2:=jmH u hu;rw[hs]at e1;rw[jKB];cases hv:jgv u<;>rw[hv]at e2
 .rw [Bool.false_and,ja0 Bool.false_ne_true];simp only[evz,e1,e2];rfl
 .have e3:=jtS s u hs hv;have e4:=jmH (jg4 s u) (jx4 hs hv);rw[Bool.true_and];cases hc:jgv (jg4 s u)<;>rw[hc]at e4
  .rw [ja0 Bool.false_ne_true];simp only[evz,e1,e2,e3,e4];rfl
  .rw [jbZ rfl];simp only[evz,e1,e2,e3,e4];rfl
inductive Hgt(s:jgn):Nat->Eqs->Prop
 |nil (r:Nat):Hgt s r []
 |blk (r τ δ:Nat) (b es:Eqs):9*τ+(8-δ)<r->τ<=s.length+1->δ<=8->b.length<=4->(τ=s.length+1-> ∀p∈b,sub s p.1=p.1/\sub s p.2=p.2/\dep p.1<=δ/\dep p.2<=δ)->Hgt s (9*τ+(8-δ)) es->Hgt s r (b++es)
theorem Hgt.len{s:jgn}{r:Nat}{es:Eqs}(h:Hgt s r es):es.length<=4*r:=by
 induction h with
 |nil r=>exact Nat.zero_le _
 |blk r τ δ b es h1 _ _ h4 _ _ ih=>rw[jf7];omega
theorem Hgt.mono{s:jgn}{r r':Nat}{es:Eqs}(h:Hgt s r es)(hr:r<=r'):Hgt s r' es:=by
 induction h with
 |nil=>exact Hgt.nil _
 |blk r τ δ b es h1 h2 h3 h4 h5 h6 _=>exact Hgt.blk r' τ δ b es (by omega) h2 h3 h4 h5 h6
theorem Hgt.grow{s s':jgn}(hs:s.length<s'.length){r:Nat}{es:Eqs}(h:Hgt s r es):Hgt s' r es:=by
 induction h with
 |nil r=>exact Hgt.nil _
 |blk r τ δ b es h1 h2 h3 h4 h5 _ ih=>exact Hgt.blk r τ δ b es h1 (by omega) h3 h4 (λh=>by omega) ih
theorem Hgt.pop{s:jgn}{r:Nat}{es:Eqs}(h:Hgt s r es):∀{p:T×T}{rest:Eqs},es=p::rest-> ∃τ δ,9*τ+(8-δ)<r/\τ<=s.length+1/\δ<=8/\(τ=s.length+1->sub s p.1=p.1/\sub s p.2=p.2/\dep p.1<=δ/\dep p.2<=δ)/\Hgt s (9*τ+(8-δ)+1) rest:=by
 induction h with
 |nil r=>intro p rest h;cases h
 |blk r τ δ b es h1 h2 h3 h4 h5 h6 ih=>
  intro p rest he;cases b with
  |nil=>
   obtain⟨τ',δ',g1,g2⟩:=ih he;exact⟨τ',δ',by omega,g2⟩
  |cons q b=>
   rw[jf0,jfk]at he;obtain⟨rfl,rfl⟩:=he;rw[jfC]at h4;exact⟨τ,δ,h1,h2,h3,λh=>h5 h q (by simp),Hgt.blk _ τ δ b es (by omega) h2 h3 (by omega) (λh x hx=>h5 h x (by simp[hx])) h6⟩
theorem jn1{t:T}(h:AxT t):t.args.length<=4:=by
 rcases h with h|h
 .cases hv:jgk t.name with
  |true=>rw[jh7 h hv];simp
  |false=>
   rw[jht,hv,ja0 Bool.false_ne_true,jbX,jbX,jfH]at h;exact h.2.1
 .omega
theorem jh6{s:jgn}{l r:T}{rest:Eqs}(h:jjk s ((l,r)::rest))(hg:Hgt s 126 ((l,r)::rest)){s':jgn}{es:Eqs}(hst:jhy s l r rest=some (s',es)):Hgt s' 126 es:=by
 obtain⟨τ,δ,g1,g2,g3,g4,g5⟩:=hg.pop rfl;have hrest:Hgt s 126 rest:=g5.mono (by omega);have hl:=(jgE h.1).1;obtain⟨_,hor⟩:=jhp h hst;by_cases hlen:s'.length=s.length+1
 .have hst':=hst;unfold jhy at hst;split at hst
  .cases hst
  split at hst
  .cases hst;omega
  split at hst
  .split at hst
   .cases hst
   .cases hst;exact hrest.grow (by omega)
  .split at hst
   .cases hst;omega
   .cases hst
 .have hs:s'=s:=hor.elim (λh=>h.1) λh=>(hlen h).elim;subst hs;obtain⟨hv,hi,he⟩:=h;obtain⟨el,er⟩:=he (l,r) (by simp);unfold jhy at hst;split at hst
  .cases hst
  rename_i hsm;split at hst
  .cases hst;exact hrest
  split at hst
  .rename_i hvar;split at hst
   .cases hst
   .rename_i hno;simp only[jb4,jem]at hst;rw[<-hst.2];exact hrest
  rename_i hnv;split at hst;rotate_left
  .cases hst
  simp only[jb4,jem,true_and]at hst;subst hst;have sm:∀t,¬jgr t=false->dep t<=8:=λt ht=>by
   have:jgr t=true:=by cases h:jgr t with|true=>rfl|false=>exact(ht h).elim
   simp only[jgr,jbX,jfH]at this;exact this.2
  have d1:=sm (sub s' l) λh=>hsm (Or.inl h);have d2:=sm (sub s' r) λh=>hsm (Or.inr h);have v1:jgk (sub s' l).name=false:=by
   cases h:jgk (sub s' l).name with
   |false=>rfl
   |true=>exact absurd (Or.inl h) hnv
  have v2:jgk (sub s' r).name=false:=by
   cases h:jgk (sub s' r).name with
   |false=>rfl
   |true=>exact absurd (Or.inr h) hnv
  have xl:AxT (sub s' l):=AxT.sub hv el.1;have xr:AxT (sub s' r):=AxT.sub hv er.1;have arg:∀w:T,AxT (sub s' w)->jgk (sub s' w).name=false->IdS s'-> ∀u∈(sub s' w).args,sub s' u=u/\dep u+1<=dep (sub s' w):=λw xw vw hi u hu=>by
   refine⟨joT u (xw.elim (λh=>jgQ h u hu) λh=>h.2.2 u hu) λx hx=>jkf hi w (by rw[vsf vw,jhQ];exact⟨u,hu,hx⟩),?_⟩
   have:=juC hu;rw[jjv (sub s' w)];omega
  have p1:=jjv (sub s' l);have p2:=jjv (sub s' r);refine Hgt.blk 126 (s'.length+1) (max (dep (sub s' l)) (dep (sub s' r))-1) _ rest (by omega) (jdB _) (by omega) ?_ (λ_ p hp=>?_) (g5.mono ?_)
  .rw [List.length_zip];have:=jn1 xl;omega
  .have hm:=List.of_mem_zip (a:=p.1) (b:=p.2) hp;have q1:=arg l xl v1 hi p.1 hm.1;have q2:=arg r xr v2 hi p.2 hm.2;exact⟨q1.1,q2.1,by omega,by omega⟩
  .by_cases hτ:τ=s'.length+1
   .obtain ⟨w1,w2,w3,w4⟩:=g4 hτ;have w3:dep l<=δ:=w3;have w4:dep r<=δ:=w4;have w1:dep (sub s' l)=dep l:=congrArg dep w1;have w2:dep (sub s' r)=dep r:=congrArg dep w2;omega
   .omega
theorem jH2(a b:T):Hgt [] 126 [(a,b)]:=Hgt.blk 126 0 8 [(a,b)] [] (by omega) (by omega) (by omega) (by simp) (λh=>by simp at h) (Hgt.nil _)
theorem jpo{n:Nat}(h:n<=100000):jbB n 80=true:=by
 unfold jbB;exact decide_eq_true ⟨by omega,by omega⟩
theorem jqk{x y:T}(h:jgk x.name=true\/jgk y.name=true):jgk (jgq x y).1=true/\(((jgq x y).1=y.name/\(jgq x y).2=x)\/((jgq x y).1=x.name/\(jgq x y).2=y)):=by
 unfold jgq;split
 .rename_i hc;refine⟨?_,Or.inl ⟨rfl,rfl⟩⟩;rcases hc with hc|hc
  .rcases h with h|h
   .rw [hc]at h;cases h
   .exact h
  .exact hc.1
 .rename_i hc;refine⟨?_,Or.inr ⟨rfl,rfl⟩⟩;rcases Bool.eq_false_or_eq_true (jgk x.name)with h2|h2
  .exact h2
  .exact absurd (Or.inl h2) hc
theorem jzj{p:Xb×T}(hn:jgk p.1=true):(!decide ((0:Int)<(cnt p.1 p.2:Nat)) && jgv [p])=(!decide (p.1∈jgN p.2) && jgv [p]):=by
 cases hv:jgv [p]with
 |false=>rw[Bool.and_false,Bool.and_false]
 |true=>
  have hk:okT p.2=true:=jiA hv p (by simp);have:=jDu hn p.2 hk;rw[Bool.and_true,Bool.and_true];congr 1;exact decide_eq_decide.2 (by rw[this];omega)
theorem jCE{p:Xb×T}(hn:jgk p.1=true)(hz:Tz p.2):SzB [p]:=⟨by simp,λq hq=>by
 rw[jdC.1 hq];exact⟨by have:=joi hn;omega,hz⟩⟩
theorem jnO(x y:T)(hx:AxT x)(hy:AxT y)(nx:nodes x<=3000)(ny:nodes y<=3000)(h:jgk x.name=true\/jgk y.name=true):G 228 [.agg [sv x.name,tms x.args,sv y.name,tms y.args]]=some (.tup [sb [jgq x y],vb (!decide ((jgq x y).1∈jgN (jgq x y).2) && jgv [jgq x y])],[]):=by
 have e1:=jh8 x (hx.imp id λh=>h.1);have e2:=jh8 y (hy.imp id λh=>h.1);obtain⟨hv,hor⟩:=jqk h;have hz:Tz (jgq x y).2:=by
  rcases hor with h|h
  .rw [h.2];exact hx.tz (by omega)
  .rw [h.2];exact hy.tz (by omega)
 have hn:nodes (jgq x y).2<=3000:=by
  rcases hor with h|h
  .rw [h.2];exact nx
  .rw [h.2];exact ny
 have e3:=ji2 (jgq x y).1 (jgq x y).2 hz.wf (by omega);have e4:G 272 [sv (jgq x y).1,tm (jgq x y).2]=some (vb (decide ((0:Int)<(cnt (jgq x y).1 (jgq x y).2:Nat))),[]):=by
  rw[jKP];simp only[evz,e3]
 have e5:=jsx [jgq x y] (jCE hv hz);have e5:G 273 [.agg [.sl 3 [[sv (jgq x y).1,sv (jgq x y).2.name,tms (jgq x y).2.args]]]]=some (vb (jgv [jgq x y]),[]):=e5;rw[<-jzj hv,jKl];generalize hb:jgv [jgq x y]=vv at *;generalize ho:decide ((0:Int)<(cnt (jgq x y).1 (jgq x y).2:Nat))=oo at *;have hsb:sb [jgq x y] = .agg [.sl 3 [[sv (jgq x y).1,sv (jgq x y).2.name,tms (jgq x y).2.args]]]:=rfl;rw[hsb];have e5:(G 273 [.agg [.sl 3 [[sv (jgq x y).1,sv (jgq x y).2.name,tms (jgq x y).2.args]]]]).bind (fin true)=some (vb vv):=by rw[e5];rfl
 cases hx1:jgk x.name<;>rw[hx1]at e1
 .have hbd:jgq x y=(y.name,x):=jbZ (Or.inl hx1);rw[hbd]at e4 e5⊢;have e4:G 272 [sv y.name,tm x]=some (vb oo,[]):=e4;have e5:(G 273 [.agg [.sl 3 [[sv y.name,sv x.name,tms x.args]]]]).bind (fin true)=some (vb vv):=e5;cases oo
  .simp only[evz,e1,e4,e5,Bool.true_and]
  .simp only[evz,e1,e4,Bool.false_and]
 .cases hy1:jgk y.name<;>rw[hy1]at e2
  .have hbd:jgq x y=(x.name,y):=ja0 (by rw[hx1,hy1];simp)
   rw[hbd]at e4 e5⊢;have e4:G 272 [sv x.name,tm y]=some (vb oo,[]):=e4;have e5:(G 273 [.agg [.sl 3 [[sv x.name,sv y.name,tms y.args]]]]).bind (fin true)=some (vb vv):=e5;cases oo
   .simp only[evz,e1,e2,e4,e5,Bool.true_and]
   .simp only[evz,e1,e2,e4,Bool.false_and]
  .have e6:=joO false y.name x.name;cases hc:sLt x.name y.name<;>rw[hc]at e6
   .have hbd:jgq x y=(x.name,y):=ja0 (by rw[hx1,hy1,hc];simp)
    rw[hbd]at e4 e5⊢;have e4:G 272 [sv x.name,tm y]=some (vb oo,[]):=e4;have e5:(G 273 [.agg [.sl 3 [[sv x.name,sv y.name,tms y.args]]]]).bind (fin true)=some (vb vv):=e5;cases oo
    .simp only[evz,e1,e2,e6,e4,e5,Bool.true_and]
    .simp only[evz,e1,e2,e6,e4,Bool.false_and]
   .have hbd:jgq x y=(y.name,x):=jbZ (Or.inr ⟨hy1,hc⟩);rw[hbd]at e4 e5⊢;have e4:G 272 [sv y.name,tm x]=some (vb oo,[]):=e4;have e5:(G 273 [.agg [.sl 3 [[sv y.name,sv x.name,tms x.args]]]]).bind (fin true)=some (vb vv):=e5;cases oo
    .simp only[evz,e1,e2,e6,e4,e5,Bool.true_and]
    .simp only[evz,e1,e2,e6,e4,Bool.false_and]
theorem jr6(s:jgn)(hs:jgv s=true)(n:Xb)(t:T)(hn:jgk n=true)(ht:Tz t)(hk:n∈jgN t\/t.name≠n):∃z:jgn,G 212 [sb s,sv n,tm t]=some (if !decide (n∈jgN t) && (jgv [(n,t)] && jgv (jg4 s [(n,t)]))then .tup [sb (jg4 s [(n,t)]),vb true]else .tup [sb z,vb false],[]):=by
 obtain⟨r,e1,hr,hl⟩:=jr4 t ht.wf (by have:=jh5 t;have:=ht;unfold Tz at this;omega)
 have e2:=jtR r n hl;have hc:r.contains n=decide (n∈jgN t):=by
  cases h:r.contains n with
  |true=>rw[List.contains_iff_mem,hr]at h;exact(decide_eq_true h).symm
  |false=>
   refine(decide_eq_false λh2=>?_).symm;rw[<-hr,<-List.contains_iff_mem,h]at h2;cases h2
 rw[hc]at e2;rw[jJ7];by_cases hm:n∈jgN t
 .refine ⟨s,?_⟩;rw[decide_eq_true hm]at e2;rw[decide_eq_true hm,Bool.not_true,Bool.false_and,ja0 Bool.false_ne_true];simp only[evz,e1,e2]
 .refine ⟨[],?_⟩;have hne:¬t.name=n:=hk.resolve_left hm;rw[decide_eq_false hm]at e2;rw[decide_eq_false hm,Bool.not_false,Bool.true_and];have e3:jwq (sv n) (sv t.name) (tms t.args) []=some (.top,[.sl 3 [[sv n,sv t.name,tms t.args]]]):=by
   have k1:pB (jaJ []) (jd6 [] 0) (some (vi 0))=some 0:=rfl;have k2:pB (jaJ []) (jd6 [] 0) none=some 0:=rfl;have k3:pB 0 0 (some (vi 0))=some 0:=rfl;have k4:jeX [] 0 (jeQ 0 0)=[]:=rfl;have k5:jeV (jeV [] [[sv n,sv t.name,tms t.args]]) []=[[sv n,sv t.name,tms t.args]]:=rfl;have f0:jbB 0 56=true:=jyB (by omega);have f1:jbB 1 56=true:=jyB (by omega);have f2:(jeV [] [[sv n,sv t.name,tms t.args]]).length=1:=rfl;have eo:=jmh t ht;have h00:¬((0:Int)<((0:Nat):Int)):=by omega
   rw[jF7];simp only[evz,hne];rw[jB2];simp only[evz,h00,k1,k2,k3,k4,f0,f1,eo];generalize hB:Jt _ _ _=B;have hB':B=some (.agg [sv n,sv t.name,tms t.args]):=by rw[<-hB];kernel_rfl
   rw[hB'];simp only[evz,f1,k5,f2,jfg]
  have e4:=jux s [(n,t)] hs (jCE hn ht);have r1:hR 3 (A.top,[.sl 3 [[sv n,sv t.name,tms t.args]]]) 0=some [[sv n,sv t.name,tms t.args]]:=rfl;have e4:G 252 [sb s,.agg [.sl 3 [[sv n,sv t.name,tms t.args]]]]=_:=e4;cases hb:jgv [(n,t)] && jgv (jg4 s [(n,t)])
  .rw [hb,ja0 Bool.false_ne_true]at e4;have e4:G 252 [sb s,.agg [.sl 3 [[sv n,sv t.name,tms t.args]]]]=some (.tup [.agg [.sl 3 []],vb false],[]):=e4;rw[ja0 Bool.false_ne_true];simp only[evz,e1,e2,e3,r1,e4];rfl
  .rw [hb,jbZ rfl]at e4;have e4:G 252 [sb s,.agg [.sl 3 [[sv n,sv t.name,tms t.args]]]]=some (.tup [sb (jg4 s [(n,t)]),vb true],[]):=e4;rw[jbZ rfl];simp only[evz,e1,e2,e3,r1,e4]
abbrev ec(p:T×T):Xd:=[sv p.1.name,tms p.1.args,sv p.2.name,tms p.2.args]
theorem jmk{W:Eqs}{i:Nat}{p:T×T}(h:W[i]? = some p):jcZ (W.map ec) i 0 2=some (tm p.1)/\jcZ (W.map ec) i 2 2=some (tm p.2):=by
 unfold jcZ;rw[jel,h];exact⟨rfl,rfl⟩
theorem jiX{W rest:Eqs}{p:T×T}{off:Nat}(h:W.drop off=p::rest):W[off]? = some p/\W.drop (off+1)=rest/\W.length=off+rest.length+1:=by
 have h1:=congrArg (λl=>l[0]?) h;simp only[jfp,jfg,List.getElem?_cons_zero]at h1;have h2:=congrArg (List.drop 1) h;rw[List.drop_drop]at h2;have h3:=congrArg List.length h;rw[List.length_drop,jfC]at h3;exact⟨h1,h2,by omega⟩
theorem jok{us vs:Xg}{i:Nat}(h1:i<us.length)(h2:i<vs.length):jeV (((us.zip vs).take i).map ec) [[sv us[i].name,tms us[i].args,sv vs[i].name,tms vs[i].args]]=((us.zip vs).take (i+1)).map ec:=by
 have hl:i<(us.zip vs).length:=by rw[List.length_zip];omega
 rw[List.take_add_one,jam hl,List.map_append,List.getElem_zip];rfl
theorem jmq{W:Eqs}(off:Nat):jeX (W.map ec) off (W.length-off)=(W.drop off).map ec:=by
 rw[jn8,<-List.map_drop,jfU (by rw[List.length_map,List.length_drop];omega)]
theorem jmE{s:jgn}{l r:T}{rest:Eqs}(h1:jgr (sub s l)=true)(h2:jgr (sub s r)=true)(h3:dq (sub s l) (sub s r)=true):jhy s l r rest=some (s,rest):=by
 unfold jhy;rw[ja0 (by rw[h1,h2];simp),jbZ h3]
theorem jmC{s:jgn}{l r:T}{rest:Eqs}(h1:jgr (sub s l)=true)(h2:jgr (sub s r)=true)(h3:dq (sub s l) (sub s r)=false)(h4:jgk (sub s l).name=true\/jgk (sub s r).name=true):jhy s l r rest=if(!decide ((jgq (sub s l) (sub s r)).1∈jgN (jgq (sub s l) (sub s r)).2) && jgv [jgq (sub s l) (sub s r)]) && jgv (jg4 s [jgq (sub s l) (sub s r)])then some (jg4 s [jgq (sub s l) (sub s r)],rest)else none:=by
 unfold jhy;rw[ja0 (by rw[h1,h2];simp),ja0 (by rw[h3];simp),jbZ h4];generalize jgq (sub s l) (sub s r)=p;by_cases c1:p.1∈jgN p.2
 .rw [jbZ (Or.inl c1),decide_eq_true c1];rfl
 .rw [decide_eq_false c1];cases c2:jgv [p]
  .rw [jbZ (Or.inr (Or.inl rfl))];rfl
  .cases c3:jgv (jg4 s [p])
   .rw [jbZ (Or.inr (Or.inr rfl))];rfl
   .rw [ja0 (by simp[c1])];rfl
theorem jmD{s:jgn}{l r:T}{rest:Eqs}(h1:jgr (sub s l)=true)(h2:jgr (sub s r)=true)(h3:dq (sub s l) (sub s r)=false)(h4:jgk (sub s l).name=false)(h5:jgk (sub s r).name=false):jhy s l r rest=if(sub s l).name=(sub s r).name/\(sub s l).args.length=(sub s r).args.length then some (s,(sub s l).args.zip (sub s r).args++rest)else none:=by
 unfold jhy;rw[ja0 (by rw[h1,h2];simp),ja0 (by rw[h3];simp),ja0 (by rw[h4,h5];simp)]
theorem jgP{k:Nat}{s:jgn}{l r:T}{rest:Eqs}{res:Option jgn}(hst:jhy s l r rest=none)(h:jgX (k+1) s ((l,r)::rest)=some res):res=none:=by
 rw[jgX,hst]at h;exact(jf2 h).symm
theorem jhu{k:Nat}{s:jgn}{l r:T}{rest:Eqs}{res:Option jgn}{q:jgn×Eqs}(hst:jhy s l r rest=some q)(h:jgX (k+1) s ((l,r)::rest)=some res):jgX k q.1 q.2=some res:=by
 rw[jgX,hst]at h;exact h
theorem jls{s:jgn}{l r:T}{rest:Eqs}(h:jjk s ((l,r)::rest)):AxT l/\AxT r/\nodes l<=31/\nodes r<=31:=by
 obtain⟨h1,h2⟩:=h.2.2 (l,r) (by simp);exact⟨h1.1,h2.1,h1.2,h2.2⟩
theorem jGu(s:jgn)(W:Eqs)(off:Nat)(hW:W.length<=1000)(x y:T)(hl:x.args.length=y.args.length)(h4:x.args.length<=4) :
  jsU (nA off) (nA (W.length-off)) (tms x.args) (vi (x.args.length:Nat)) (vi 0) (sbs s) (sv y.name) (tms y.args) (W.map ec) [] []=jor (sbs s) ((x.args.zip y.args++W.drop off).map ec) []:=by
 have h1:nOf (nA off)=off:=rfl;have h2:nOf (nA (W.length-off))=W.length-off:=rfl;have hend:jbB (((x.args.zip y.args).map ec).length+((W.drop off).map ec).length) 80=true:=by
  rw[List.length_map,List.length_map,List.length_zip,List.length_drop];exact jpo (by omega)
 have hzl:((x.args.zip y.args).map ec).length=x.args.length:=by rw[List.length_map,List.length_zip];omega
 have happ:jeV ((x.args.zip y.args).map ec) ((W.drop off).map ec)=(x.args.zip y.args++W.drop off).map ec:=by rw[List.map_append];rfl
 have step:∀i,(hi:i<x.args.length)->(hi2:i<y.args.length)->jeV (((x.args.zip y.args).take i).map ec) [[sv x.args[i].name,tms x.args[i].args,sv y.args[i].name,tms y.args[i].args]]=((x.args.zip y.args).take (i+1)).map ec:=λi hi hi2=>jok hi hi2;have key:=upto (P:=λi=>jwA (nA off) (nA (W.length-off)) (tms x.args) (vi (x.args.length:Nat)) (vi (i:Nat)) (sbs s) (sv y.name) (tms y.args) (W.map ec) (((x.args.zip y.args).take i).map ec) []=jor (sbs s) ((x.args.zip y.args++W.drop off).map ec) []) (n:=x.args.length) ?_ ?_
 .have hend2:(x.args.zip y.args).take x.args.length=x.args.zip y.args:=jfU (by rw[List.length_zip];omega)
  rw[jGD];by_cases h0:0<x.args.length
  .have hi:=h0;have hi2:0<y.args.length:=by omega
   have hlt:(0:Int)<((x.args.length:Nat):Int):=by omega
   have ix:=jfY (k:=2) (f:=jgi) hi;have ix2:=jfY (k:=2) (f:=jgi) hi2;have ta:=step 0 hi hi2;simp only[List.take_zero,List.map_nil,Int.natCast_zero,je8]at ta ix ix2;have hf:jbB 1 80=true:=jpo (by omega);have hck:ck (0+1)=some (vi ((1:Nat):Int)):=jgA (n:=0+1) (by omega) (by omega);have key:=key 1 (by omega);rw[<-key];simp only[evz,hlt,ix,ix2,jga,hf,ta,hck,h1,h2]
  .have hlt:¬(0:Int)<((x.args.length:Nat):Int):=by omega
   have he:x.args=[]:=jfN (by omega);have hz:x.args.zip y.args=[]:=by rw[he];rfl
   rw[hz]at hend happ⊢;have hend:jbB ((W.drop off).map ec).length 80=true:=by simpa using hend
   have happ:jeV [] ((W.drop off).map ec)=(W.drop off).map ec:=rfl;simp only[evz,hlt,h1,h2,jmq,jfw];rw[List.length_map]at hend;simp only[evz,hend,happ]
 .have hend2:(x.args.zip y.args).take x.args.length=x.args.zip y.args:=jfU (by rw[List.length_zip];omega)
  rw[hend2,jBA];have hlt:¬((x.args.length:Nat):Int)<((x.args.length:Nat):Int):=by omega
  rw[hzl,List.length_map]at hend;simp only[evz,hlt,h1,h2,jmq,happ];rw[List.length_zip,Nat.min_eq_left (by omega)];simp only[evz,hend]
 .intro i hi ih;have hi2:i<y.args.length:=by omega
  have hlt:((i:Nat):Int)<((x.args.length:Nat):Int):=by omega
  have ta:=step i hi hi2;have li:(((x.args.zip y.args).take i).map ec).length=i:=take_len (by rw[List.length_zip];omega);have hf:jbB (i+1) 80=true:=jpo (by omega);have hck:ck ((i:Int)+1)=some (vi ((i+1:Nat):Int)):=jgA (by omega) (by omega);generalize ((x.args.zip y.args).take i).map ec=R at *;rw[jBA,<-ih];simp only[evz,hlt,jfY hi,jfY hi2,jga,li,hf,ta,hck,h1,h2]
theorem jGt(W:Eqs)(off:Nat)(hW:W.length<=1000)(x y:T)(hl:x.args.length=y.args.length)(h4:x.args.length<=4) :
  jsT (nA off) (nA (W.length-off)) (tms x.args) (vi (x.args.length:Nat)) (vi 0) (sv y.name) (tms y.args) (W.map ec) [] [] []=jna ((x.args.zip y.args++W.drop off).map ec) [] []:=by
 have h1:nOf (nA off)=off:=rfl;have h2:nOf (nA (W.length-off))=W.length-off:=rfl;have hend:jbB (((x.args.zip y.args).map ec).length+((W.drop off).map ec).length) 80=true:=by
  rw[List.length_map,List.length_map,List.length_zip,List.length_drop];exact jpo (by omega)
 have hzl:((x.args.zip y.args).map ec).length=x.args.length:=by rw[List.length_map,List.length_zip];omega
 have happ:jeV ((x.args.zip y.args).map ec) ((W.drop off).map ec)=(x.args.zip y.args++W.drop off).map ec:=by rw[List.map_append];rfl
 have step:∀i,(hi:i<x.args.length)->(hi2:i<y.args.length)->jeV (((x.args.zip y.args).take i).map ec) [[sv x.args[i].name,tms x.args[i].args,sv y.args[i].name,tms y.args[i].args]]=((x.args.zip y.args).take (i+1)).map ec:=λi hi hi2=>jok hi hi2;have key:=upto (P:=λi=>jwz (nA off) (nA (W.length-off)) (tms x.args) (vi (x.args.length:Nat)) (vi (i:Nat)) (sv y.name) (tms y.args) (W.map ec) (((x.args.zip y.args).take i).map ec) [] []=jna ((x.args.zip y.args++W.drop off).map ec) [] []) (n:=x.args.length) ?_ ?_
 .have hend2:(x.args.zip y.args).take x.args.length=x.args.zip y.args:=jfU (by rw[List.length_zip];omega)
  rw[jGC];by_cases h0:0<x.args.length
  .have hi:=h0;have hi2:0<y.args.length:=by omega
   have hlt:(0:Int)<((x.args.length:Nat):Int):=by omega
   have ix:=jfY (k:=2) (f:=jgi) hi;have ix2:=jfY (k:=2) (f:=jgi) hi2;have ta:=step 0 hi hi2;simp only[List.take_zero,List.map_nil,Int.natCast_zero,je8]at ta ix ix2;have hf:jbB 1 80=true:=jpo (by omega);have hck:ck (0+1)=some (vi ((1:Nat):Int)):=jgA (n:=0+1) (by omega) (by omega);have key:=key 1 (by omega);rw[<-key];simp only[evz,hlt,ix,ix2,jga,hf,ta,hck,h1,h2]
  .have hlt:¬(0:Int)<((x.args.length:Nat):Int):=by omega
   have he:x.args=[]:=jfN (by omega);have hz:x.args.zip y.args=[]:=by rw[he];rfl
   rw[hz]at hend happ⊢;have hend:jbB ((W.drop off).map ec).length 80=true:=by simpa using hend
   have happ:jeV [] ((W.drop off).map ec)=(W.drop off).map ec:=rfl;simp only[evz,hlt,h1,h2,jmq,jfw];rw[List.length_map]at hend;simp only[evz,hend,happ]
 .have hend2:(x.args.zip y.args).take x.args.length=x.args.zip y.args:=jfU (by rw[List.length_zip];omega)
  rw[hend2,jBz];have hlt:¬((x.args.length:Nat):Int)<((x.args.length:Nat):Int):=by omega
  rw[hzl,List.length_map]at hend;simp only[evz,hlt,h1,h2,jmq,happ];rw[List.length_zip,Nat.min_eq_left (by omega)];simp only[evz,hend]
 .intro i hi ih;have hi2:i<y.args.length:=by omega
  have hlt:((i:Nat):Int)<((x.args.length:Nat):Int):=by omega
  have ta:=step i hi hi2;have li:(((x.args.zip y.args).take i).map ec).length=i:=take_len (by rw[List.length_zip];omega);have hf:jbB (i+1) 80=true:=jpo (by omega);have hck:ck ((i:Int)+1)=some (vi ((i+1:Nat):Int)):=jgA (by omega) (by omega);generalize ((x.args.zip y.args).take i).map ec=R at *;rw[jBz,<-ih];simp only[evz,hlt,jfY hi,jfY hi2,jga,li,hf,ta,hck,h1,h2]
def US(s:jgn)(es:Eqs)(o:Xe):Prop:=
 (∀(W:Eqs)(off:Nat),W.drop off=es->off<=W.length->W.length<=1000->jk4 (nA off) (nA (W.length-off)) (sbs s) (W.map ec) []=o)/\jor (sbs s) (es.map ec) []=o/\
 (s=[]->(∀(W:Eqs)(off:Nat),W.drop off=es->off<=W.length->W.length<=1000->jp2 (nA off) (nA (W.length-off)) (W.map ec) [] []=o)/\jna (es.map ec) [] []=o)
theorem un2(k:Nat)(ih:∀(s:jgn)(es:Eqs)(res:Option jgn),jjk s es->Hgt s 126 es->jgX k s es=some res->US s es (jhI res))(s:jgn)(l r:T)(rest:Eqs)(hi:jjk s ((l,r)::rest))(hg:Hgt s 126 ((l,r)::rest))(res:Option jgn)(hu:jgX (k+1) s ((l,r)::rest)=some res)(W:Eqs)(off:Nat)(hW:W.drop off=(l,r)::rest)(hlen:W.length<=1000):jk4 (nA off) (nA (W.length-off)) (sbs s) (W.map ec) []=jhI res:=by
 obtain⟨d1,d2,d3⟩:=jiX hW;obtain⟨r1,r2⟩:=jmk d1;obtain⟨al,ar,nl,nr⟩:=jls hi;have hv:=hi.1;have e1:=jik s hv l al (by omega);have e2:=jik s hv r ar (by omega);have w1:nOf (nA off)=off:=rfl;have w2:nOf (nA (W.length-off))=W.length-off:=rfl;have g1:jdl .gtr false (nA (W.length-off)) (vi 0)=some (vb true):=by
  show some (vb (decide ((0:Int)<((W.length-off:Nat):Int))))=_;rw[decide_eq_true (by omega)]
 have g2:pIx (W.length-off) (vi 0)=some 0:=jgZ (i:=0) (by omega);have g3:pB (W.length-off) (jd6 (W.map ec) off) none=some (W.length-off):=by
  rw[show jd6 (W.map ec) off=W.length-off by rw[jh2,List.length_map]];exact jhe (jdB _)
 have g4:pB 0 (W.length-off) (some (vi 1))=some 1:=jiq (n:=1) (by omega);have hn:jeQ (W.length-off) 1=W.length-(off+1):=by unfold jeQ;omega
 rw[jwU];cases sl:jgr (sub s l)<;>rw[sl]at e1
 .have e1:G 198 [sb s,tm l]=some (.tup [.agg [sv [],.sl 2 []],vb false],[]):=e1;have hr:res=none:=jgP (by unfold jhy;rw[jbZ (Or.inl sl)]) hu;subst hr;obtain⟨q,e2⟩:∃q:T×Bool,G 198 [sb s,tm r]=some (.tup [tm q.1,vb q.2],[]):=by
   cases h:jgr (sub s r)<;>rw[h]at e2
   .exact ⟨(.mk [] [],false),e2⟩
   .exact ⟨(sub s r,true),e2⟩
  simp only[evz,w1,w2,g1,g2,g3,g4,jfg,r1,r2,e1,e2];rfl
 have e1:G 198 [sb s,tm l]=some (.tup [tm (sub s l),vb true],[]):=e1;cases sr:jgr (sub s r)<;>rw[sr]at e2
 .have e2:G 198 [sb s,tm r]=some (.tup [.agg [sv [],.sl 2 []],vb false],[]):=e2;have hr:res=none:=jgP (by unfold jhy;rw[jbZ (Or.inr sr)]) hu;subst hr;simp only[evz,w1,w2,g1,g2,g3,g4,jfg,r1,r2,e1,e2];rfl
 have e2:G 198 [sb s,tm r]=some (.tup [tm (sub s r),vb true],[]):=e2;have xl:AxT (sub s l):=AxT.sub hv al;have xr:AxT (sub s r):=AxT.sub hv ar;have ml:=jha sl;have mr:=jha sr;have tl:=xl.tz (by omega);have tr:=xr.tz (by omega);have e3:=jhm (sub s l) tl.wf (sub s r) tr.wf;have ll:=(jgE hv).1;cases hd:dq (sub s l) (sub s r)<;>rw[hd]at e3
 rotate_left
 .have hst:=jmE (rest:=rest) sl sr hd;have hnext:=ih _ _ res (jhp hi hst).1 (jh6 hi hg hst) (jhu hst hu);have hnext:=hnext.1 W (off+1) d2 (by omega) hlen;simp only[evz,w1,w2,g1,g2,g3,g4,jfg,r1,r2,e1,e2,e3,hn];exact hnext
 have v1:=jh8 (sub s l) (xl.imp id λh=>h.1);have v2:=jh8 (sub s r) (xr.imp id λh=>h.1);have bindC:jgk (sub s l).name=true\/jgk (sub s r).name=true->(∃q:Bool,G 228 [.agg [sv (sub s l).name,tms (sub s l).args,sv (sub s r).name,tms (sub s r).args]]=some (.tup [sb [jgq (sub s l) (sub s r)],vb q],[])/\(q=false->jhI res=jhI none)/\(q=true-> ∃q2:Bool,∃u:jgn,G 229 [sb s,sb [jgq (sub s l) (sub s r)]]=some (.tup [sb u,vb q2],[])/\(q2=false->jhI res=jhI none)/\(q2=true->jk4 (nA (off+1)) (nA (W.length-(off+1))) (sbs u) (W.map ec) []=jhI res))):=by
  intro hvar;have hst:=jmC (rest:=rest) sl sr hd hvar;refine⟨_,jnO _ _ xl xr (by omega) (by omega) hvar,λhq=>?_,λhq=>?_⟩
  .rw [hq,Bool.false_and,ja0 Bool.false_ne_true]at hst;rw[jgP hst hu]
  .rw [hq,Bool.true_and]at hst;have hvp:jgv [jgq (sub s l) (sub s r)]=true:=by
    rw[jbX]at hq;exact hq.2
   have ec1:=jo2 s [jgq (sub s l) (sub s r)] hv hvp;cases hc:jgv (jg4 s [jgq (sub s l) (sub s r)])
   .rw [hc,ja0 Bool.false_ne_true]at hst ec1;exact⟨false,[],ec1,λ_=>by rw[jgP hst hu],λh=>by cases h⟩
   .rw [hc,jbZ rfl]at hst ec1;refine⟨true,_,ec1,(λh=>by cases h),λ_=>?_⟩;have hnext:=ih _ _ res (jhp hi hst).1 (jh6 hi hg hst) (jhu hst hu);exact hnext.1 W (off+1) d2 (by omega) hlen
 have close:jgk (sub s l).name=true\/jgk (sub s r).name=true->_:=bindC;clear bindC;cases vl:jgk (sub s l).name<;>rw[vl]at v1
 rotate_left
 .obtain ⟨q,b1,b2,b3⟩:=close (Or.inl vl);cases q
  .rw [b2 rfl];simp only[evz,w1,w2,g1,g2,g3,g4,jfg,r1,r2,e1,e2,e3,v1,v2,b1];rfl
  .obtain ⟨q2,u,b4,b5,b6⟩:=b3 rfl;cases q2
   .rw [b5 rfl];simp only[evz,w1,w2,g1,g2,g3,g4,jfg,r1,r2,e1,e2,e3,v1,v2,b1,b4];rfl
   .rw [<-b6 rfl];simp only[evz,w1,w2,g1,g2,g3,g4,jfg,r1,r2,e1,e2,e3,v1,v2,b1,b4,hn]
 cases vr:jgk (sub s r).name<;>rw[vr]at v2
 rotate_left
 .obtain ⟨q,b1,b2,b3⟩:=close (Or.inr vr);cases q
  .rw [b2 rfl];simp only[evz,w1,w2,g1,g2,g3,g4,jfg,r1,r2,e1,e2,e3,v1,v2,b1];rfl
  .obtain ⟨q2,u,b4,b5,b6⟩:=b3 rfl;cases q2
   .rw [b5 rfl];simp only[evz,w1,w2,g1,g2,g3,g4,jfg,r1,r2,e1,e2,e3,v1,v2,b1,b4];rfl
   .rw [<-b6 rfl];simp only[evz,w1,w2,g1,g2,g3,g4,jfg,r1,r2,e1,e2,e3,v1,v2,b1,b4,hn]
 have hst:=jmD (rest:=rest) sl sr hd vl vr;by_cases hnm:(sub s l).name=(sub s r).name;rotate_left
 .rw [ja0 (λh=>hnm h.1)]at hst;have hnd:=decide_eq_false hnm;rw[jgP hst hu];simp only[evz,w1,w2,g1,g2,g3,g4,jfg,r1,r2,e1,e2,e3,v1,v2,hnd];rfl
 have hnd:=decide_eq_true hnm;by_cases hal:(sub s l).args.length=(sub s r).args.length;rotate_left
 .rw [ja0 (λh=>hal h.2)]at hst;have hal':decide ((((sub s l).args.length:Nat):Int)=(((sub s r).args.length:Nat):Int))=false:=decide_eq_false (by omega);rw[jgP hst hu];simp only[evz,w1,w2,g1,g2,g3,g4,jfg,r1,r2,e1,e2,e3,v1,v2,hnd,hal'];rfl
 rw[jbZ ⟨hnm,hal⟩]at hst;have hnext:=ih _ _ res (jhp hi hst).1 (jh6 hi hg hst) (jhu hst hu);have hnext:=hnext.2.1;have hin:=jGu s W (off+1) hlen (sub s l) (sub s r) hal (jn1 xl);rw[d2]at hin;rw[hnext]at hin;have hal':decide ((((sub s l).args.length:Nat):Int)=(((sub s r).args.length:Nat):Int))=true:=decide_eq_true (by omega);simp only[evz,w1,w2,g1,g2,g3,g4,jfg,r1,r2,e1,e2,e3,v1,v2,hnd,hal',hn];exact hin
theorem un8(k:Nat)(ih:∀(s:jgn)(es:Eqs)(res:Option jgn),jjk s es->Hgt s 126 es->jgX k s es=some res->US s es (jhI res))(s:jgn)(l r:T)(rest:Eqs)(hi:jjk s ((l,r)::rest))(hg:Hgt s 126 ((l,r)::rest))(res:Option jgn)(hu:jgX (k+1) s ((l,r)::rest)=some res)(W:Eqs)(hW:W=(l,r)::rest)(hlen:W.length<=1000):jor (sbs s) (W.map ec) []=jhI res:=by
 have hW0:W.drop 0=(l,r)::rest:=hW;rw[<-un2 k ih s l r rest hi hg res hu W 0 hW0 hlen];obtain⟨d1,d2,d3⟩:=jiX hW0;obtain⟨r1,r2⟩:=jmk d1;have w1:nOf (nA 0)=0:=rfl;have w2:nOf (nA W.length)=W.length:=rfl;have f1:jdl .gtr false (nA W.length) (vi 0)=some (vb true):=by
  show some (vb (decide ((0:Int)<((W.length:Nat):Int))))=_;rw[decide_eq_true (by omega)]
 have f3:pB W.length (jd6 (W.map ec) 0) none=some W.length:=by
  rw[show jd6 (W.map ec) 0=W.length by rw[jh2,List.length_map];rfl];exact jhe (jdB _)
 have g2:pIx W.length (vi 0)=some 0:=jgZ (i:=0) (by omega);have g3:pB (jaJ (W.map ec)) (jd6 (W.map ec) 0) none=some W.length:=by
  rw[jhY,f3]
 have g4:pB 0 W.length (some (vi 1))=some 1:=jiq (n:=1) (by omega);have g0:(0:Int)<((W.length:Nat):Int):=by omega
 rw[jBB,jwU,Nat.sub_zero];simp only[evz,w1,w2,f1,f3,g0,g2,g3,g4,r1,r2]
theorem un1(k:Nat)(ih:∀(s:jgn)(es:Eqs)(res:Option jgn),jjk s es->Hgt s 126 es->jgX k s es=some res->US s es (jhI res))(l r:T)(rest:Eqs)(hi:jjk [] ((l,r)::rest))(hg:Hgt [] 126 ((l,r)::rest))(res:Option jgn)(hu:jgX (k+1) [] ((l,r)::rest)=some res)(W:Eqs)(off:Nat)(hW:W.drop off=(l,r)::rest)(hlen:W.length<=1000):jp2 (nA off) (nA (W.length-off)) (W.map ec) [] []=jhI res:=by
 obtain⟨d1,d2,d3⟩:=jiX hW;obtain⟨r1,r2⟩:=jmk d1;obtain⟨al,ar,nl,nr⟩:=jls hi;have hv:=hi.1;have e1:=jik [] hv l al (by omega);have e2:=jik [] hv r ar (by omega);have w1:nOf (nA off)=off:=rfl;have w2:nOf (nA (W.length-off))=W.length-off:=rfl;have g1:jdl .gtr false (nA (W.length-off)) (vi 0)=some (vb true):=by
  show some (vb (decide ((0:Int)<((W.length-off:Nat):Int))))=_;rw[decide_eq_true (by omega)]
 have g2:pIx (W.length-off) (vi 0)=some 0:=jgZ (i:=0) (by omega);have g3:pB (W.length-off) (jd6 (W.map ec) off) none=some (W.length-off):=by
  rw[show jd6 (W.map ec) off=W.length-off by rw[jh2,List.length_map]];exact jhe (jdB _)
 have g4:pB 0 (W.length-off) (some (vi 1))=some 1:=jiq (n:=1) (by omega);have hn:jeQ (W.length-off) 1=W.length-(off+1):=by unfold jeQ;omega
 rw[jwT];cases sl:jgr (sub [] l)<;>rw[sl]at e1
 .have e1:G 198 [.agg [.sl 3 []],tm l]=some (.tup [.agg [sv [],.sl 2 []],vb false],[]):=e1;have hr:res=none:=jgP (by unfold jhy;rw[jbZ (Or.inl sl)]) hu;subst hr;obtain⟨q,e2⟩:∃q:T×Bool,G 198 [.agg [.sl 3 []],tm r]=some (.tup [tm q.1,vb q.2],[]):=by
   cases h:jgr (sub [] r)<;>rw[h]at e2
   .exact ⟨(.mk [] [],false),e2⟩
   .exact ⟨(sub [] r,true),e2⟩
  simp only[evz,w1,w2,g1,g2,g3,g4,jfg,r1,r2,e1,e2];rfl
 have e1:G 198 [.agg [.sl 3 []],tm l]=some (.tup [tm (sub [] l),vb true],[]):=e1;cases sr:jgr (sub [] r)<;>rw[sr]at e2
 .have e2:G 198 [.agg [.sl 3 []],tm r]=some (.tup [.agg [sv [],.sl 2 []],vb false],[]):=e2;have hr:res=none:=jgP (by unfold jhy;rw[jbZ (Or.inr sr)]) hu;subst hr;simp only[evz,w1,w2,g1,g2,g3,g4,jfg,r1,r2,e1,e2];rfl
 have e2:G 198 [.agg [.sl 3 []],tm r]=some (.tup [tm (sub [] r),vb true],[]):=e2;have xl:AxT (sub [] l):=AxT.sub hv al;have xr:AxT (sub [] r):=AxT.sub hv ar;have ml:=jha sl;have mr:=jha sr;have tl:=xl.tz (by omega);have tr:=xr.tz (by omega);have e3:=jhm (sub [] l) tl.wf (sub [] r) tr.wf;have ll:=(jgE hv).1;cases hd:dq (sub [] l) (sub [] r)<;>rw[hd]at e3
 rotate_left
 .have hst:=jmE (rest:=rest) sl sr hd;have hnext:=ih _ _ res (jhp hi hst).1 (jh6 hi hg hst) (jhu hst hu);have hnext:=(hnext.2.2 rfl).1 W (off+1) d2 (by omega) hlen;simp only[evz,w1,w2,g1,g2,g3,g4,jfg,r1,r2,e1,e2,e3,hn];exact hnext
 have v1:=jh8 (sub [] l) (xl.imp id λh=>h.1);have v2:=jh8 (sub [] r) (xr.imp id λh=>h.1);have bindC:jgk (sub [] l).name=true\/jgk (sub [] r).name=true->(∃q:Bool,G 228 [.agg [sv (sub [] l).name,tms (sub [] l).args,sv (sub [] r).name,tms (sub [] r).args]]=some (.tup [sb [jgq (sub [] l) (sub [] r)],vb q],[])/\(q=false->jhI res=jhI none)/\(q=true-> ∃q2:Bool,∃u:jgn,G 229 [.agg [.sl 3 []],sb [jgq (sub [] l) (sub [] r)]]=some (.tup [sb u,vb q2],[])/\(q2=false->jhI res=jhI none)/\(q2=true->jk4 (nA (off+1)) (nA (W.length-(off+1))) (sbs u) (W.map ec) []=jhI res))):=by
  intro hvar;have hst:=jmC (rest:=rest) sl sr hd hvar;refine⟨_,jnO _ _ xl xr (by omega) (by omega) hvar,λhq=>?_,λhq=>?_⟩
  .rw [hq,Bool.false_and,ja0 Bool.false_ne_true]at hst;rw[jgP hst hu]
  .rw [hq,Bool.true_and]at hst;have hvp:jgv [jgq (sub [] l) (sub [] r)]=true:=by
    rw[jbX]at hq;exact hq.2
   have ec1:=jo2 [] [jgq (sub [] l) (sub [] r)] hv hvp;cases hc:jgv (jg4 [] [jgq (sub [] l) (sub [] r)])
   .rw [hc,ja0 Bool.false_ne_true]at hst ec1;exact⟨false,[],ec1,λ_=>by rw[jgP hst hu],λh=>by cases h⟩
   .rw [hc,jbZ rfl]at hst ec1;refine⟨true,_,ec1,(λh=>by cases h),λ_=>?_⟩;have hnext:=ih _ _ res (jhp hi hst).1 (jh6 hi hg hst) (jhu hst hu);exact hnext.1 W (off+1) d2 (by omega) hlen
 have close:jgk (sub [] l).name=true\/jgk (sub [] r).name=true->_:=bindC;clear bindC;cases vl:jgk (sub [] l).name<;>rw[vl]at v1
 rotate_left
 .obtain ⟨q,b1,b2,b3⟩:=close (Or.inl vl);cases q
  .rw [b2 rfl];simp only[evz,w1,w2,g1,g2,g3,g4,jfg,r1,r2,e1,e2,e3,v1,v2,b1];rfl
  .obtain ⟨q2,u,b4,b5,b6⟩:=b3 rfl;cases q2
   .rw [b5 rfl];simp only[evz,w1,w2,g1,g2,g3,g4,jfg,r1,r2,e1,e2,e3,v1,v2,b1,b4];rfl
   .rw [<-b6 rfl];simp only[evz,w1,w2,g1,g2,g3,g4,jfg,r1,r2,e1,e2,e3,v1,v2,b1,b4,hn]
 cases vr:jgk (sub [] r).name<;>rw[vr]at v2
 rotate_left
 .obtain ⟨q,b1,b2,b3⟩:=close (Or.inr vr);cases q
  .rw [b2 rfl];simp only[evz,w1,w2,g1,g2,g3,g4,jfg,r1,r2,e1,e2,e3,v1,v2,b1];rfl
  .obtain ⟨q2,u,b4,b5,b6⟩:=b3 rfl;cases q2
   .rw [b5 rfl];simp only[evz,w1,w2,g1,g2,g3,g4,jfg,r1,r2,e1,e2,e3,v1,v2,b1,b4];rfl
   .rw [<-b6 rfl];simp only[evz,w1,w2,g1,g2,g3,g4,jfg,r1,r2,e1,e2,e3,v1,v2,b1,b4,hn]
 have hst:=jmD (rest:=rest) sl sr hd vl vr;by_cases hnm:(sub [] l).name=(sub [] r).name;rotate_left
 .rw [ja0 (λh=>hnm h.1)]at hst;have hnd:=decide_eq_false hnm;rw[jgP hst hu];simp only[evz,w1,w2,g1,g2,g3,g4,jfg,r1,r2,e1,e2,e3,v1,v2,hnd];rfl
 have hnd:=decide_eq_true hnm;by_cases hal:(sub [] l).args.length=(sub [] r).args.length;rotate_left
 .rw [ja0 (λh=>hal h.2)]at hst;have hal':decide ((((sub [] l).args.length:Nat):Int)=(((sub [] r).args.length:Nat):Int))=false:=decide_eq_false (by omega);rw[jgP hst hu];simp only[evz,w1,w2,g1,g2,g3,g4,jfg,r1,r2,e1,e2,e3,v1,v2,hnd,hal'];rfl
 rw[jbZ ⟨hnm,hal⟩]at hst;have hnext:=ih _ _ res (jhp hi hst).1 (jh6 hi hg hst) (jhu hst hu);have hnext:=(hnext.2.2 rfl).2;have hin:=jGt W (off+1) hlen (sub [] l) (sub [] r) hal (jn1 xl);rw[d2]at hin;rw[hnext]at hin;have hal':decide ((((sub [] l).args.length:Nat):Int)=(((sub [] r).args.length:Nat):Int))=true:=decide_eq_true (by omega);simp only[evz,w1,w2,g1,g2,g3,g4,jfg,r1,r2,e1,e2,e3,v1,v2,hnd,hal',hn];exact hin
theorem un6(k:Nat)(ih:∀(s:jgn)(es:Eqs)(res:Option jgn),jjk s es->Hgt s 126 es->jgX k s es=some res->US s es (jhI res))(l r:T)(rest:Eqs)(hi:jjk [] ((l,r)::rest))(hg:Hgt [] 126 ((l,r)::rest))(res:Option jgn)(hu:jgX (k+1) [] ((l,r)::rest)=some res)(W:Eqs)(hW:W=(l,r)::rest)(hlen:W.length<=1000):jna (W.map ec) [] []=jhI res:=by
 have hW0:W.drop 0=(l,r)::rest:=hW;rw[<-un1 k ih l r rest hi hg res hu W 0 hW0 hlen];obtain⟨d1,d2,d3⟩:=jiX hW0;obtain⟨r1,r2⟩:=jmk d1;have w1:nOf (nA 0)=0:=rfl;have w2:nOf (nA W.length)=W.length:=rfl;have f1:jdl .gtr false (nA W.length) (vi 0)=some (vb true):=by
  show some (vb (decide ((0:Int)<((W.length:Nat):Int))))=_;rw[decide_eq_true (by omega)]
 have f3:pB W.length (jd6 (W.map ec) 0) none=some W.length:=by
  rw[show jd6 (W.map ec) 0=W.length by rw[jh2,List.length_map];rfl];exact jhe (jdB _)
 have g2:pIx W.length (vi 0)=some 0:=jgZ (i:=0) (by omega);have g3:pB (jaJ (W.map ec)) (jd6 (W.map ec) 0) none=some W.length:=by
  rw[jhY,f3]
 have g4:pB 0 W.length (some (vi 1))=some 1:=jiq (n:=1) (by omega);have g0:(0:Int)<((W.length:Nat):Int):=by omega
 rw[jwV,jwT,Nat.sub_zero];simp only[evz,w1,w2,f1,f3,g0,g2,g3,g4,r1,r2]
theorem jFG(s:jgn):US s [] (jhI (some s)):=by
 refine⟨λW off hW h1 h2=>?_,?_,λhs=>?_⟩
 .have h3:=congrArg List.length hW;rw[List.length_drop,jfJ]at h3;have w2:nOf (nA (W.length-off))=W.length-off:=rfl;have g1:jdl .gtr false (nA (W.length-off)) (vi 0)=some (vb false):=by
   show some (vb (decide ((0:Int)<((W.length-off:Nat):Int))))=_;rw[decide_eq_false (by omega)]
  rw[jwU];simp only[evz,w2,g1];rfl
 .rw [jBB];have g1:jdl .gtr false (jaK (List.map ec [])) (vi 0)=some (vb false):=rfl;simp only[evz];rfl
 .subst hs;refine⟨λW off hW h1 h2=>?_,?_⟩
  .have h3:=congrArg List.length hW;rw[List.length_drop,jfJ]at h3;have w2:nOf (nA (W.length-off))=W.length-off:=rfl;have g1:jdl .gtr false (nA (W.length-off)) (vi 0)=some (vb false):=by
    show some (vb (decide ((0:Int)<((W.length-off:Nat):Int))))=_;rw[decide_eq_false (by omega)]
   rw[jwT];simp only[evz,w2,g1];rfl
  .rw [jwV];have g1:jdl .gtr false (jaK (List.map ec [])) (vi 0)=some (vb false):=rfl;simp only[evz];rfl
theorem jIo:∀(k:Nat)(s:jgn)(es:Eqs)(res:Option jgn),jjk s es->Hgt s 126 es->jgX k s es=some res->US s es (jhI res):=by
 intro k;induction k with
 |zero=>
  intro s es res hi hg hu;cases es with
  |nil=>simp only[jgX,jb4]at hu;rw[<-hu];exact jFG s
  |cons p es=>simp[jgX]at hu
 |succ k ih=>
  intro s es res hi hg hu;cases es with
  |nil=>simp only[jgX,jb4]at hu;rw[<-hu];exact jFG s
  |cons p rest=>
   obtain⟨l,r⟩:=p;have hl:=hg.len;refine⟨λW off hW _ hlen=>un2 k ih s l r rest hi hg res hu W off hW hlen,un8 k ih s l r rest hi hg res hu _ rfl (by omega),λhs=>?_⟩;subst hs;exact⟨λW off hW _ hlen=>un1 k ih l r rest hi hg res hu W off hW hlen,un6 k ih l r rest hi hg res hu _ rfl (by omega)⟩
theorem jLp(W:Eqs):jwy (W.map ec) [] []=jna (W.map ec) [] []:=by
 rw[jGB,jwV]
theorem jof(a b:T)(ha:Exx a)(hb:Exx b):G 192 [tm a,tm b]=jhI (jiu a b):=by
 obtain⟨k,hk⟩:=jjr ha hb;have h:=((jIo k [] [(a,b)] _ (jsr ha hb) (jH2 a b) hk).2.2 rfl).2;rw[<-jLp]at h;rw[jJR];simp only[evz];exact h
end Go.Proofs.YthlhadhipnokfaaGreatDoor
