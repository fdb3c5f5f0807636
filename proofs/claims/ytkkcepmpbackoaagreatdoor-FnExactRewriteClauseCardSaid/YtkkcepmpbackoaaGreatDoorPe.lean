/- Pe -/
import Derived.Test.YtkkcepmpbackoaaGreatDoorPd
namespace Go.Proofs.YtkkcepmpbackoaaGreatDoor
open Go Go.RowKit Go.Proofs.YtkkcepmpbackoaaGreatDoor.Abs
set_option linter.unusedSimpArgs false
set_option linter.unusedVariables false
set_option maxHeartbeats 1000000
theorem jiO(c:kg)(hl:c.length<=1000)(hz:∀x∈c,Tz x.2):jkP (.sl 3 (c.map jD))=some (.top,[.sl 67 (c.map jD)]):=by
 have key:=upto (P:=λi=>jab (.sl 3 (c.map jD)) (vi (c.length:Nat)) (vi (i:Nat)) [] ((c.take i).map jD)=some (.top,[.sl 67 (c.map jD)])) (n:=c.length) ?_ ?_ 0 (Nat.zero_le _)
 .simp only[Int.natCast_zero,List.take_zero,List.map_nil]at key;rw[jvQ];simp only[jg,key]
 .have nlt:¬((c.length:Nat):Int)<((c.length:Nat):Int):=by omega
  rw[jjl,List.take_length];simp only[jg,nlt]
 .intro i hi ih;have hlt:(i:Int)<((c.length:Nat):Int):=by omega
  have e1:=jdM c[i] (hz _ (List.getElem_mem _));have ta:=Kl (f:=jD) hi;have tl:=take_len (f:=jD) (Nat.le_of_lt hi);have hf:jO (i+1) 48=true:=jaX (by omega);have ix:=jb (k:=3) (f:=jD) hi;have hck:ck ((i:Int)+1)=some (vi ((i+1:Nat):Int)):=jZ (by omega) (by omega);generalize (c.take i).map jD=R at *;generalize c[i]=l at *;have y1:jbr 3 (.elt (jD l) 0)=some (.agg (jD l)):=rfl;rw[jjl];simp only[jg,hlt,ix,y1,e1,List.getElem?_cons_zero,List.getElem?_cons_succ,Jj,Yd,tl,hf,ta,hck,ih]
theorem jr8{k:Nat}{xs ys:Xc}{cs:Xi}(h:ZS k xs cs=some (.top,[.sl k ys])):∃sel,YC xs cs=some sel/\yX xs sel=ys:=by
 cases hs:YC xs cs with
 |some sel=>
  have:=(je2 hs).2.2 k;rw[this]at h;simp only[Option.some.injEq,Prod.mk.injEq,List.cons.injEq,A.sl.injEq,and_true,true_and]at h;exact⟨sel,rfl,h⟩
 |none=>
  cases xs with
  |nil=>cases hs
  |cons x r=>
   simp only[YC,je1]at hs;split at hs
   .cases hs
   .rename_i hc;unfold ZS at h;simp only at h;rw[if_neg hc]at h;cases h
theorem jbY{α β:Type}(enc:α->Xd)(l:List α)(g:Xd->Xd->β):((l.map enc).flatMap λx=>(l.map enc).map λy=>g x y)=(l.flatMap λx=>l.map λy=>(x,y)).map λq=>g (enc q.1) (enc q.2):=by
 rw[List.flatMap_map,List.map_flatMap];refine congrArg (λh=>l.flatMap h) (funext λx=>?_);rw[List.map_map,List.map_map];rfl
theorem jbV{α β:Type}(l:List α)(g:α->α->β):((l.flatMap λx=>l.map λy=>(x,y)).map λq=>g q.1 q.2)=l.flatMap λx=>l.map λy=>g x y:=by
 rw[List.map_flatMap];refine congrArg (λh=>l.flatMap h) (funext λx=>?_);rw[List.map_map];rfl
theorem jn1{α γ:Type}{c:γ->γ->Int}(hc:Law3 c)(f:α->γ)(enc:α->Xd)(k:Nat)(g:FuncId)(hp:K.pureF g=true)(f0:Bool)(l:List α)(hf0:f0=false\/l=[])(hl:l.length<4611686018427387904)(h:∀x∈l,∀y∈l,G g [.agg (enc x),.agg (enc y)]=some (vi (c (f x) (f y)),[])):∃s:List α,s.Perm l/\s.Pairwise (λa b=>¬c (f b) (f a)<0)/\extRun K (MM K) (sfT k) [V.row 0,V.fn g []] [.tre f0 k (l.map enc)]=some (.top,[.sl (k+64) (s.map enc)]):=by
 obtain⟨s,h1,h2,h3⟩:=jbf hc f enc k l hl;obtain⟨sel,h4,h5⟩:=jr8 h3;refine⟨s,h1,h2,?_⟩;have hq:jfk [V.row 0,V.fn g []] [.tre f0 k (l.map enc)]=some ((l.flatMap λx=>l.map λy=>(x,y)).map λq=>(g,[A.agg (enc q.1),A.agg (enc q.2)])):=congrArg some (jbY enc l λx y=>(g,[A.agg x,A.agg y]));have ha:=QB (λq:α×α=>(g,[A.agg (enc q.1),A.agg (enc q.2)])) (λq=>c (f q.1) (f q.2)) (l.flatMap λx=>l.map λy=>(x,y)) λq hq=>by
  obtain⟨x,hx,hq⟩:=List.mem_flatMap.1 hq;obtain⟨y,hy,rfl⟩:=List.mem_map.1 hq;exact⟨hp,h x hx y hy⟩
 have ho:=jbR (λq:α×α=>c (f q.1) (f q.2)) (l.flatMap λx=>l.map λy=>(x,y));rw[jbV l λx y=>c (f x) (f y)]at ho;show(jfk [V.row 0,V.fn g []] [.tre f0 k (l.map enc)]).bind _=_;rw[hq,Option.bind_some,ha,Option.bind_some];show(if(Nat.beq k k && (!f0 || (l.map enc).isEmpty))=true then(Qw _).bind λcs=>(YC (l.map enc) cs).map λsel=>(A.top,[A.sl (k+64) (yX (l.map enc) sel)])else none)=_;have hcond:(Nat.beq k k && (!f0 || (l.map enc).isEmpty))=true:=by
  rw[Nat.beq_refl,Bool.true_and];rcases hf0 with rfl|rfl
  .rfl
  .cases f0<;>rfl
 rw[if_pos hcond,ho,Option.bind_some,h4,Option.map_some,h5]
theorem jyz(f0:Bool)(l:List Lt)(hf0:f0=false\/l=[])(hl:l.length<=1000000)(hk:∀x∈l,Rx' x.2)(hz:∀x∈l,Tz x.2):∃s:List Lt,s.Perm l/\s.Pairwise (λa b=>¬cmpL b a<0)/\extRun K (MM K) (sfT 3) [V.row 0,V.fn 96 []] [.tre f0 3 (l.map jD)]=some (.top,[.sl 67 (s.map jD)]):=
 jn1 qe id jD 3 96 rfl f0 l hf0 (by omega) λx hx y hy=>Kb x y (hk x hx) (hz x hx) (hk y hy) (hz y hy)
theorem jch{β:Type}(f:β->FuncId×Xd)(r:β->A):∀qs:List β,(∀b∈qs,K.pureF (f b).1=true/\G (f b).1 (f b).2=some (r b,[]))->askAll K (MM K) (qs.map f)=some (qs.map λb=>(r b,[]))
 | [],_=>rfl
 |b::qs,h=>by
  have ih:=jch f r qs λb' hb=>h b' (by simp[hb]);obtain⟨h1,h2⟩:=h b (by simp);rw[List.map_cons,List.map_cons];show(if K.pureF (f b).1 then(MM K (.call (f b).1 (f b).2)).bind λo=>(askAll K (MM K) (qs.map f)).bind λos=>some (o::os)else none)=_;have h2:MM K (.call (f b).1 (f b).2)=some (r b,[]):=h2;rw[h1,if_pos rfl,h2,ih];rfl
theorem jmQ:∀(l:List Lt)(p:Lt),cpR eqL p l=cpG p l
 | [],_=>rfl
 |b::l,p=>by rw[cpR,cpG,jmQ l b]
theorem jp1:∀l:List Lt,cpA eqL l=Ql eqL l
 | []=>rfl
 |a::l=>by rw[jiP,cpA,jmQ]
theorem jnV(s:List Lt):jfM (s.map jD)=true:=by
 cases s with
 |nil=>rfl
 |cons a s=>
  refine List.all_eq_true.2 λy hy=>?_;obtain⟨b,_,rfl⟩:=List.mem_map.1 hy;exact decide_eq_true rfl
open Classical in
theorem jxK(s:List Lt)(hl:s.length<=1000000)(hz:∀x∈s,Tz x.2):extRun K (MM K) (cfT 3 164) [V.row 0,V.fn 164 []] [.tre true 3 (s.map jD)]=some (.top,[.sl 67 ((Ql eqL s).map jD)]):=by
 have hq:jfk [V.row 0,V.fn 164 []] [.tre true 3 (s.map jD)]=some ((s.flatMap λx=>s.map λy=>(x,y)).map λq=>(164,[A.agg (jD q.1),A.agg (jD q.2)])):=congrArg some (jbY jD s λx y=>(164,[A.agg x,A.agg y]));have ha:=jch (λq:Lt×Lt=>(164,[A.agg (jD q.1),A.agg (jD q.2)])) (λq=>vb (eqL q.1 q.2)) (s.flatMap λx=>s.map λy=>(x,y)) λq hq=>by
  obtain⟨x,hx,hq⟩:=List.mem_flatMap.1 hq;obtain⟨y,hy,rfl⟩:=List.mem_map.1 hq;exact⟨rfl,Yz x y (hz x hx) (hz y hy)⟩
 rw[jbV s λx y=>((vb (eqL x y),[]):Out)]at ha;show(jfk [V.row 0,V.fn 164 []] [.tre true 3 (s.map jD)]).bind _=_;rw[hq,Option.bind_some,ha,Option.bind_some];have hex:∃q:Xd->Xd->Bool,(s.flatMap λx=>s.map λy=>((vb (eqL x y),[]):Out))=(s.map jD).flatMap λx=>(s.map jD).map λy=>((.val (.bool (q x y)),[]):Out):=by
  refine⟨λa b=>decide (G 164 [.agg a,.agg b]=some (vb true,[])),?_⟩;rw[jbY jD s λx y=>((A.val (.bool (decide (G 164 [.agg x,.agg y]=some (vb true,[])))),[]):Out),<-jbV s λx y=>((vb (eqL x y),[]):Out)];refine List.map_congr_left λq hq=>?_;obtain⟨x,hx,hq⟩:=List.mem_flatMap.1 hq;obtain⟨y,hy,rfl⟩:=List.mem_map.1 hq;have e:=Yz x y (hz x hx) (hz y hy);have e:G 164 [.agg (jD x),.agg (jD y)]=some (vb (eqL x y),[]):=e;show(vb (eqL x y),[])=(A.val (.bool (decide (G 164 [.agg (jD x),.agg (jD y)]=some (vb true,[])))),[]);rw[e];cases eqL x y
  .rw [decide_eq_false (by intro h;cases h)]
  .rw [decide_eq_true rfl]
 have hcond:((164:Nat)=164/\(3:Nat)=3)/\jfM (s.map jD)=true/\(s.map jD).length<=1000000/\ ∃q:Xd->Xd->Bool,(s.flatMap λx=>s.map λy=>((vb (eqL x y),[]):Out))=(s.map jD).flatMap λx=>(s.map jD).map λy=>((.val (.bool (q x y)),[]):Out):=⟨⟨rfl,rfl⟩,jnV s,by rw[List.length_map];exact hl,hex⟩
 show(if h:((164:Nat)=164/\(3:Nat)=3)/\jfM (s.map jD)=true/\(s.map jD).length<=1000000/\ ∃q:Xd->Xd->Bool,(s.flatMap λx=>s.map λy=>((vb (eqL x y),[]):Out))=(s.map jD).flatMap λx=>(s.map jD).map λy=>((.val (.bool (q x y)),[]):Out)then some (A.top,[A.sl (3+64) (cpA h.2.2.2.choose (s.map jD))])else none)=_;rw[dif_pos hcond];have hsp:=hcond.2.2.2.choose_spec;generalize hcond.2.2.2.choose=q at hsp⊢;have hqe:∀x∈s,∀y∈s,q (jD x) (jD y)=eqL x y:=λx hx y hy=>by
  obtain⟨i,hi⟩:=List.mem_iff_getElem?.1 hx;obtain⟨j,hj⟩:=List.mem_iff_getElem?.1 hy;have e1:=qP (λx y=>((vb (eqL x y),[]):Out)) s s i j x y hi hj;have e2:=qP (λx y=>((A.val (.bool (q x y)),[]):Out)) (s.map jD) (s.map jD) i j (jD x) (jD y) (by rw[List.getElem?_map,hi];rfl) (by rw[List.getElem?_map,hj];rfl);rw[hsp]at e1;rw[List.length_map]at e2;rw[e1]at e2;simp only[Option.some.injEq,Prod.mk.injEq,A.val.injEq,Value.bool.injEq,and_true]at e2;exact e2.symm
 rw[jda,jfQ s hqe,jp1]
theorem jd0(x:kg):hR 67 (A.top,[.sl 67 (x.map jD)]) 0=some (x.map jD):=rfl
theorem jxP(f0:Bool)(l:List Lt)(hf0:f0=false\/l=[])(hl:l.length<=1000000)(hk:∀x∈l,Rx' x.2)(hz:∀x∈l,Tz x.2):∃s:List Lt,extRun K (MM K) (sfT 3) [V.row 0,V.fn 96 []] [.tre f0 3 (l.map jD)]=some (.top,[.sl 67 (s.map jD)])/\jgX (s.map jD)=some (.top,[.sl 67 ((zi cmpL l).map jD)]):=by
 obtain⟨s,h1,h2,h3⟩:=jyz f0 l hf0 hl hk hz;have h4:=jxK s (by rw[h1.length_eq];exact hl) λx hx=>hz x (h1.mem_iff.1 hx);rw[jtI qe jax h2 λx=>h1.mem_iff]at h4;exact⟨s,h3,by rw[jv0];exact h4⟩
theorem jk7(l:List Lt)(hl:l.length<=1000000)(hk:∀x∈l,Rx' x.2)(hz:∀x∈l,Tz x.2)(R0:Xc):∀i,i<=l.length->jaa (.sl 3 (l.map jD)) (vi (l.length:Nat)) (vi (i:Nat)) R0 ((l.take i).map jD)=some (.top,[.sl 67 ((zi cmpL l).map jD)]):=by
 obtain⟨s,h3,h4⟩:=jxP false l (Or.inl rfl) hl hk hz;have h3:jkT (l.map jD)=some (.top,[.sl 67 (s.map jD)]):=by rw[jvZ];exact h3
 refine upto (P:=λi=>jaa (.sl 3 (l.map jD)) (vi (l.length:Nat)) (vi (i:Nat)) R0 ((l.take i).map jD)=some (.top,[.sl 67 ((zi cmpL l).map jD)])) ?_ ?_
 .have nlt:¬((l.length:Nat):Int)<((l.length:Nat):Int):=by omega
  rw[jjk,List.take_length];simp only[jg,nlt,h3,jd0,h4]
 .intro i hi ih;have hlt:(i:Int)<((l.length:Nat):Int):=by omega
  have e1:=jdM l[i] (hz _ (List.getElem_mem _));have ta:=Kl (f:=jD) hi;have tl:=take_len (f:=jD) (Nat.le_of_lt hi);have hf:jO (i+1) 48=true:=jaX (by omega);have ix:=jb (k:=3) (f:=jD) hi;have hck:ck ((i:Int)+1)=some (vi ((i+1:Nat):Int)):=jZ (by omega) (by omega);generalize (l.take i).map jD=R at *;generalize l[i]=x at *;have y1:jbr 3 (.elt (jD x) 0)=some (.agg (jD x)):=rfl;rw[jjk];simp only[jg,hlt,ix,y1,e1,List.getElem?_cons_zero,List.getElem?_cons_succ,Jj,Yd,tl,hf,ta,hck,ih]
theorem jfL(l:List Lt)(hl:l.length<=1000000)(hk:∀x∈l,Rx' x.2)(hz:∀x∈l,Tz x.2):jgS (.sl 3 (l.map jD))=some (.top,[.sl 67 ((zi cmpL l).map jD)]):=by
 rw[jvP];by_cases h0:l.length=0
 .have hnil:l=[]:=List.eq_nil_of_length_eq_zero h0;obtain⟨s,h3,h4⟩:=jxP true l (Or.inr hnil) hl hk hz;have h3:jkS (l.map jD)=some (.top,[.sl 67 (s.map jD)]):=by rw[jvY];exact h3
  subst hnil;have nlt:¬(0:Int)<((0:Nat):Int):=by omega
  have nlt':¬(0:Int)<0:=by omega
  rw[List.map_nil]at h3⊢;have key:Q9 (.sl 3 []) (vi ((0:Nat):Int)) (vi 0) [] []=some (.top,[.sl 67 ((zi cmpL []).map jD)]):=by
   rw[jjj];simp only[jg,nlt,nlt',h3,jd0,h4]
  simp only[jg,key]
 .have hi:0<l.length:=by omega
  have hlt:(0:Int)<((l.length:Nat):Int):=by omega
  have e1:=jdM l[0] (hz _ (List.getElem_mem _));have hf:jO (0+1) 48=true:=jaX (by omega);have ix:=jb (k:=3) (f:=jD) hi;have ta:=Kl (f:=jD) hi;rw[List.take_zero,List.map_nil]at ta;simp only[Int.natCast_zero]at ix;have hck:ck (0+1)=some (vi ((0+1:Nat):Int)):=jZ (by omega) (by omega);have k1:=jk7 l hl hk hz [] (0+1) (by omega);have key:Q9 (.sl 3 (l.map jD)) (vi (l.length:Nat)) (vi 0) [] []=some (.top,[.sl 67 ((zi cmpL l).map jD)]):=by
   generalize (l.take (0+1)).map jD=R at *;generalize l[0]=x at *;have y1:jbr 3 (.elt (jD x) 0)=some (.agg (jD x)):=rfl;rw[jjj];simp only[Nat.zero_add]at hf hck k1;simp only[jg,hlt,ix,y1,e1,List.getElem?_cons_zero,List.getElem?_cons_succ,Jj,Yd,hf,ta,hck,k1]
  simp only[jg,key]
theorem jlR(p:UInt8)(c:kg)(h:CN c)(ns:Xa)(hn:∀n∈ns,jr n=true)(hr:∀x∈c.map (λl=>(l.1,kN (kG p ns) l.2)),Rx' x.2/\Tz x.2):jgT (cm c) (.mp ((KB p 0 ns).map kn))=some (.top,[.sl 67 ((zi cmpL (c.map λl=>(l.1,kN (kG p ns) l.2))).map jD)]):=by
 have h8:=h.1;have e3:=jfL (c.map λl=>(l.1,kN (kG p ns) l.2)) (by rw[List.length_map];omega) (λx hx=>(hr x hx).1) λx hx=>(hr x hx).2;generalize hd:c.map (λl=>(l.1,kN (kG p ns) l.2))=d at *;have hdl:d.length=c.length:=by rw[<-hd,List.length_map]
 have key:=upto (P:=λi=>jac (.mp ((KB p 0 ns).map kn)) (.sl 3 (c.map jD)) (vi (c.length:Nat)) (vi (i:Nat)) ((d.take i).map jD) []=some (.top,[.sl 67 ((zi cmpL d).map jD)])) (n:=c.length) ?_ ?_ 0 (Nat.zero_le _)
 .simp only[Int.natCast_zero,List.take_zero,List.map_nil]at key;rw[jvR];simp only[jg,key]
 .rw [jjm,<-hdl,List.take_length];simp only[jg,e3,jd0]
 .intro i hi ih;have hi2:i<d.length:=by omega
  have hlt:(i:Int)<((c.length:Nat):Int):=by omega
  have h5:=jy hi (by show c.length<=9223372036854775807;omega)
  have e1:=jkc p ns hn c[i].2 (h.rx _ (List.getElem_mem _)) (h.tz _ (List.getElem_mem _));have hdi:d[i]=(c[i].1,kN (kG p ns) c[i].2):=by simp only[<-hd,List.getElem_map]
  have ta:=Kl (f:=jD) hi2;have tl:=take_len (f:=jD) (Nat.le_of_lt hi2);have hf:jO (i+1) 48=true:=jaX (by omega);rw[hdi]at ta;generalize (d.take i).map jD=R at *;generalize kN (kG p ns) c[i].2=u at *;rw[jjm];simp only[jg,hlt,jb hi,zy,e1];generalize hB:zk _ _ _=B;have hB':B=some (ltm (c[i].1,u)):=by rw[<-hB];kernel_rfl
  rw[hB'];have hck:ck ((i:Int)+1)=some (vi ((i+1:Nat):Int)):=jZ (by omega) (by omega);simp only[jg,tl,hf,ta,hck,ih]
theorem Yw(p:UInt8)(hp:upc p=true)(c:kg)(h:CN c):jgT (cm c) (.mp ((KB p 0 (kh c)).map kn))=some (.top,[.sl 67 ((renC p c).map jD)]):=jlR p c h (kh c) (λn=>jlA) (h.ren_tz hp)
theorem jiY(l:Xa):jaB (l.map cs)=true:=by
 induction l with
 |nil=>rfl
 |cons a l ih=>rw[List.map_cons];exact ih
theorem jrs(c:kg)(h:CN c):jpr (cm c)=some (.top,[.sl 1 ((kh c).map cs)]):=by
 have hl:c.length<=1000:=by have:=h.1;omega
 have key:=upto (P:=λi=>∀l:Xa,l.length<=1000*i->jaj (.sl 3 (c.map jD)) (vi (c.length:Nat)) (vi (i:Nat)) (l.map cs)=some (.top,[.sl 1 (((c.drop i).foldl (λl x=>qv l x.2) l).map cs)])) (n:=c.length) ?_ ?_ 0 (Nat.zero_le _)
 .have key:=key [] (by simp);rw[List.drop_zero]at key;have key:jaj (.sl 3 (c.map jD)) (vi (c.length:Nat)) (vi 0) []=some (.top,[.sl 1 ((kh c).map cs)]):=key;rw[jxE];simp only[jg,key]
 .intro l _;rw[jnf,List.drop_length];simp only[jg];rfl
 .intro i hi ih l hll;have hlt:(i:Int)<((c.length:Nat):Int):=by omega
  have h5:=jy hi (by show c.length<=9223372036854775807;omega)
  have ix:=jb (k:=3) (f:=jD) hi;have hn:=(h.2 _ (List.getElem_mem hi)).2;have q:=jcm c[i].2 (h.rx _ (List.getElem_mem hi)) (h.tz _ (List.getElem_mem hi)) l (by omega);have hol:=Y0 c[i].2 l;have q2:=ih (qv l c[i].2) (by omega);rw[jnf,js hi,List.foldl_cons];generalize qv l c[i].2=l' at *;have hr:hR 1 (A.top,[.sl 1 (l'.map cs)]) 0=some (l'.map cs):=rfl;simp only[jg,hlt,ix,zy,q,hr,h5,q2]
theorem jru:∀(k i:Nat),k+i=10-> ∀(c:kg)(R0:Xc),CN c->jhk (vi (i:Nat)) R0 (c.map jD)=some (.top,[.sl 67 ((normF k c).map jD)])
 |0,i,hk,c,R0,h=>by
  have hi:((i:Nat):Int)=10:=by omega
  rw[jne,normF,hi];simp only[jg]
 |k+1,i,hk,c,R0,h=>by
  have hlt:((i:Nat):Int)<10:=by omega
  have e1:=Ju c h;have fb:∀b:Bool,fin true (vb b,[])=some (vb b):=λb=>rfl;rw[jne,normF];cases hn:qY c<;>rw[hn]at e1
  .have hl:=qL h;have e2:=jrs c h;have fr:=jiY (kh c);have hr:hR 1 (A.top,[.sl 1 ((kh c).map cs)]) 0=some ((kh c).map cs):=rfl;have e3:=jcN 88 (kh c) (jaQ c) (by omega);have e4:=Yw 88 (by decide) c h;have hck:ck ((i:Int)+1)=some (vi ((i+1:Nat):Int)):=jZ (by omega) (by omega);have ih:=jru k (i+1) (by omega) (renC 88 c) R0 (h.renC (by decide));rw[if_neg Bool.false_ne_true];simp only[jg,hlt,e1,fb,e2,fr,hr,e3,e4,jd0,hck,ih]
  .rw [if_pos rfl];simp only[jg,hlt,e1,fb]
theorem jlE(c:kg)(h:CN c):jpq (cm c)=some (.top,[.sl 67 ((normC c).map jD)]):=by
 have e0:=jiO c (by have:=h.1;omega) h.tz
 have e1:=Ju c h;have fb:∀b:Bool,fin true (vb b,[])=some (vb b):=λb=>rfl;have key:jhj (vi 0) (c.map jD) []=some (.top,[.sl 67 ((normF 10 c).map jD)]):=by
  have hlt:(0:Int)<10:=by omega
  rw[jtG,normF];cases hn:qY c<;>rw[hn]at e1
  .have hl:=qL h;have e2:=jrs c h;have fr:=jiY (kh c);have hr:hR 1 (A.top,[.sl 1 ((kh c).map cs)]) 0=some ((kh c).map cs):=rfl;have e3:=jcN 88 (kh c) (jaQ c) (by omega);have e4:=Yw 88 (by decide) c h;have hck:ck (0+1)=some (vi ((0+1:Nat):Int)):=jZ (by omega) (by omega);have ih:=jru 9 (0+1) (by omega) (renC 88 c) [] (h.renC (by decide));rw[if_neg Bool.false_ne_true];simp only[Nat.zero_add]at hck ih;simp only[jg,hlt,e1,fb,e2,fr,hr,e3,e4,jd0,hck,ih]
  .rw [if_pos rfl];simp only[jg,hlt,e1,fb]
 rw[jxD];simp only[jg,e0,jd0,key];rfl
def jtU(r:Option kg):Xe:=match r with|some c=>some (.top,[vb true,.sl 67 (c.map jD)])|none=>some (.top,[vb false,.sl 67 []])
theorem jbP(r:Option kg):∃(c:kg)(b:Bool),jbO r=some (.tup [cm c,vb b],[])/\jtU r=some (.top,[vb b,.sl 67 (c.map jD)])/\(b=true->r=some c)/\(b=false->c=[]):=by
 cases r with
 |none=>
  refine⟨[],false,rfl,rfl,?_,?_⟩
  .intro h;cases h
  .intro _;rfl
 |some c=>
  refine⟨c,true,rfl,rfl,?_,?_⟩
  .intro _;rfl
  .intro h;cases h
theorem jpL(s:ju)(hs:jB s=true)(l:kg)(h:LN l):G 69 [sb s,.sl 3 (l.map jD)]=jbO (KM s l):=by
 have hl:=h.1;have happ:=h.app hs;have e1:=jfL (l.map λx=>(x.1,sub s x.2)) (by rw[List.length_map];omega) (λx hx=>(happ x hx).1.rx) λx hx=>(happ x hx).2;have e2:=ji6 (zi cmpL (l.map λx=>(x.1,sub s x.2))) (by have:=jbL cmpL (l.map λx=>(x.1,sub s x.2));rw[List.length_map]at this;omega) λx hx=>(happ x (jbM.1 hx)).2;generalize hd:l.map (λx=>(x.1,sub s x.2))=d at *;have hdl:d.length=l.length:=by rw[<-hd,List.length_map]
 have key:=upto (P:=λi=>jmz (.sl 3 (l.map jD)) (vi (l.length:Nat)) (vi (i:Nat)) (JY s) ((d.take i).map jD) []=jbO (if((l.drop i).all λx=>jH (sub s x.2)) && zN (zi cmpL d)then some (zi cmpL d)else none)) (n:=l.length) ?_ ?_ 0 (Nat.zero_le _)
 .simp only[Int.natCast_zero,List.take_zero,List.map_nil,List.drop_zero]at key;unfold KM;rw[hd,<-key,g69];simp only[jg]
 .rw [jva,<-hdl,List.take_length,hdl,List.drop_length,List.all_nil,Bool.true_and];rw[<-hdl];cases hv:zN (zi cmpL d)<;>rw[hv]at e2
  .rw [if_neg Bool.false_ne_true]at e2⊢;have e2:G 114 [cm (zi cmpL d)]=some (.tup [cz,vb false],[]):=e2;simp only[jg,e1,jd0,e2];rfl
  .rw [if_pos rfl]at e2⊢;have e2:G 114 [cm (zi cmpL d)]=some (.tup [cm (zi cmpL d),vb true],[]):=e2;simp only[jg,e1,jd0,e2];rfl
 .intro i hi ih;have hi2:i<d.length:=by omega
  have hlt:(i:Int)<((l.length:Nat):Int):=by omega
  have h5:=jy hi (by show l.length<=9223372036854775807;omega)
  have hb:=h.2 _ (List.getElem_mem hi);have e3:=Jd s hs l[i].2 hb.1.ax (by omega);have hdi:d[i]=(l[i].1,sub s l[i].2):=by simp only[<-hd,List.getElem_map]
  have ta:=Kl (f:=jD) hi2;have tl:=take_len (f:=jD) (Nat.le_of_lt hi2);have hf:jO (i+1) 48=true:=jaX (by omega);rw[hdi]at ta;rw[jva,js hi,List.all_cons];cases hsm:jH (sub s l[i].2)<;>rw[hsm]at e3
  .rw [Bool.false_and,Bool.false_and,if_neg Bool.false_ne_true];have e3:G 82 [sb s,tm l[i].2]=some (.tup [.agg [sv [],.sl 2 []],vb false],[]):=e3;simp only[jg,hlt,jb hi,zy,e3];rfl
  .rw [Bool.true_and];have e3:G 82 [sb s,tm l[i].2]=some (.tup [tm (sub s l[i].2),vb true],[]):=e3;generalize (d.take i).map jD=R at *;generalize sub s l[i].2=u at *;rw[<-ih];simp only[jg,hlt,jb hi,zy,e3,tl,hf,ta,h5]
theorem jn4(s:ju)(hs:jB s=true)(l:kg)(h:LN l):jpn (sb s) (.sl 3 (l.map jD))=jtU (jfx s l):=by
 have e1:=jpL s hs l h;unfold jfx;rw[jxz];cases ha:KM s l with
 |none=>
  rw[ha]at e1;have e1:G 69 [sb s,.sl 3 (l.map jD)]=some (.tup [cz,vb false],[]):=e1;simp only[jg,e1];rfl
 |some c=>
  rw[ha]at e1;have e1:G 69 [sb s,.sl 3 (l.map jD)]=some (.tup [cm c,vb true],[]):=e1;have hc:=(jfG ha).1;have e2:=jlE c hc;have e3:=jcu (normC c) (by have:=hc.normC.1;omega) hc.normC.tz;have fb:∀b:Bool,fin true (vb b,[])=some (vb b):=λb=>rfl;rw[Option.bind_some];cases hn:zD (normC c)<;>rw[hn]at e3
  .rw [if_neg Bool.false_ne_true];simp only[jg,e1,e2,jd0,e3,fb];rfl
  .rw [if_pos rfl];simp only[jg,e1,e2,jd0,e3,fb];rfl
theorem jqo(b:Bool)(x:kg):hR 67 (A.top,[vb b,.sl 67 (x.map jD)]) 1=some (x.map jD):=rfl
theorem jpW(a b c d e f:A):zf [a,b,c] 0 [d,e,f]=[d,e,f]:=rfl
theorem juu(l:Lt)(h:tsz l.2<=1048576):jpp (ltm l)=some (.top,[vb l.1,sv l.2.name,.sl 66 (l.2.args.map jm)]):=by
 have e1:=jsm l.2 h;rw[jxB];simp only[jg,e1,List.getElem?_cons_zero]
theorem jsl(c:kg)(hl:c.length<=1048576)(hs:∀l∈c,tsz l.2<=1048576):jpj (.sl 3 (c.map jD))=some (.top,[.sl 67 (c.map jD)]):=by
 have key:=(upto (P:=λi=>jc6 (.sl 3 (c.map jD)) (vi i) (part jD [vb false,sv [],.sl 2 []] c i)=some (.top,[.sl 67 (c.map jD)])) (n:=c.length) ?_ ?_ 0 (Nat.zero_le _))
 .rw [jxu];have hm:=Y1 (b:=48) (n:=c.length) (by omega) hl;simp only[Int.natCast_zero,<-Y2]at key;simp only[jg,hm,key]
 .rw [jnb,ja1];simp only[jg]
 .intro i hi ih';have h1:=KE (f:=jD) (z:=[vb false,sv [],.sl 2 []]) (Nat.le_of_lt hi);have h2:ZB (part jD [vb false,sv [],.sl 2 []] c i).length (vi i)=some i:=zR (by omega);have h4:=ja3 (f:=jD) (z:=[vb false,sv [],.sl 2 []]) hi;have h5:=jy hi (Nat.le_trans hl (by decide));have e1:=juu c[i] (hs _ (List.getElem_mem _));rw[jnb];simp only[jg,hi,Int.ofNat_lt,jb hi,jbU,e1,List.getElem?_cons_zero,List.getElem?_cons_succ,Jj,Yd,h2,ja2 hi,jpW,h4,h5,ih']
theorem jma(c:kg)(hl:c.length<=1048576)(hs:∀l∈c,tsz l.2<=1048576):jnL (.sl 3 (c.map jD))=some (.top,[.sl 67 (c.map jD)]):=by
 have e1:=jsl c hl hs;rw[jzq];simp only[jg,e1]
def mkC:kg->Nat
 | []=>0
 |l::c=>2+KY l.2.args+mkC c
theorem jro:∀c:kg,mkC c<=2*c.length+lsz c
 | []=>by simp[mkC]
 |l::c=>by
  have h1:=jro c;have h2:=jdd l.2.args;have h3:=ze l.2;simp only[mkC,lsz,List.length_cons];omega
def jAy:List kg->Nat
 | []=>0
 |c::l=>mkC c+jAy l
def mkS(s:Stp):Nat:=1+s.par.length+s.whr.length+mkC s.cls
def jAz:List Stp->Nat
 | []=>0
 |s::l=>mkS s+jAz l
def HC:Nat->kg->Nat->Prop
 |k,[],k'=>k'=k
 |k,l::c,k'=>∃k1:Nat,l.1=decide (((k % 3:Nat):Int)=0)/\G 41 [vi ((k+1:Nat):Int)]=some (sv l.2.name,[])/\G 60 [jS l.2.args,vi ((k+2:Nat):Int)]=some (vi (k1:Nat),[])/\k<k1/\HC k1 c k'
theorem jpt:∀(r:kg)(k k':Nat),HC k r k'->k<=k'
 | [],k,k',h=>by have h:k'=k:=h;omega
 |u::r,k,k',⟨k1,_,_,_,g3,g4⟩=>by have:=jpt r k1 k' g4;omega
theorem Qr:∀(r M:kg)(k k':Nat),k'<=100000000->M.length+r.length<=9223372036854775807->k<=k'->HC k r k'->jmo (.sl 3 ((M++r).map jD)) (vi (k:Nat)) (vi (M.length:Nat))=some (vi (k':Nat),[])
 | [],M,k,k',_,_,_,h=>by
  have h:k'=k:=h;subst h;rw[juX,List.append_nil];simp only[jg]
 |l::r,M,k,k',hk,hl,hkk,⟨k1,g0,g1,g2,g3,g4⟩=>by
  have h1:((M.length:Nat):Int)<(((M++l::r).length:Nat):Int):=jrn M r l;have h2:jz 3 (.sl 3 ((M++l::r).map jD)) (vi (M.length:Nat))=some (.elt (jD l) 0):=jjC (f:=jD) (k:=3) M r l;have hle:k1<=k':=jpt r k1 k' g4;have hm:((k:Nat):Int).tmod 3=((k % 3:Nat):Int):=by rw[Int.tmod_eq_emod_of_nonneg (by omega)];rfl
  have e1:=jy (i:=k) (n:=k+1) (by omega) (by omega);have e1':=jy (i:=k+1) (n:=k+2) (by omega) (by omega);have h5:=jy (i:=M.length) (n:=(M++l::r).length) (by simp) (by simp;simp at hl;omega);have ih:=Qr r (M++[l]) k1 k' hk (by simp at hl⊢;omega) hle g4;have q:(M++[l]).length=M.length+1:=by simp
  rw[q,List.append_assoc,List.singleton_append]at ih;have a0:Jk (.elt (jD l) 0) 0=some (.elt (jD l) 0):=by rw[yN]
  have a1:Jk (.elt (jD l) 0) 1=some (.elt (jD l) 1):=by rw[yN]
  have a2:Jk (.elt (jD l) 1) 0=some (.elt (jD l) 1):=by rw[yN]
  have a3:Jk (.elt (jD l) 1) 1=some (.elt (jD l) 2):=by rw[yN]
  have p0:kU (.elt (jD l) 0)=some (vb l.1):=rfl;have p1:kU (.elt (jD l) 1)=some (sv l.2.name):=rfl;have p2:kU (.elt (jD l) 2)=some (jS l.2.args):=rfl;have nk:¬((k1:Nat):Int)<0:=by omega
  rw[juX];generalize hb:decide (((k % 3:Nat):Int)=0)=b at g0;cases b<;>simp only[jg,h1,h2,a0,a1,a2,a3,p0,p1,p2,g0,jgg,hm,hb,g1,e1,e1',g2,nk,h5,ih]
theorem ji2(c:kg)(k k':Nat)(hk:k'<=100000000)(hl:c.length<=9223372036854775807)(h:HC k c k'):G 32 [.sl 3 (c.map jD),vi (k:Nat)]=some (vi (k':Nat),[]):=by
 have:=Qr c [] k k' hk (by simpa using hl) (jpt c k k' h) h;rw[g32];exact this
theorem KA:∀(r:kg)(M:Xc)(k:Nat),k+mkC r<=100000000->M.length+r.length<=9223372036854775807->(∀l∈r,KZ l.2)->
  ∃c:kg,c.length=r.length/\HC k c (k+mkC r)/\jc7 (vi (k:Nat)) (vi (M.length:Nat)) (M++r.map jD)=some (.top,[vi ((k+mkC r:Nat):Int),.sl 67 (M++c.map jD)])
 | [],M,k,hk,hl,_=>by
  refine⟨[],rfl,rfl,?_⟩;rw[jnd,List.map_nil,List.append_nil];simp only[jg,mkC,Nat.add_zero]
 |l::r,M,k,hk,hl,ht=>by
  simp only[mkC,List.length_cons]at hk hl;have h1:((M.length:Nat):Int)<(((M++jD l::r.map jD).length:Nat):Int):=by simp;omega
  have hm:((k:Nat):Int).tmod 3=((k % 3:Nat):Int):=by rw[Int.tmod_eq_emod_of_nonneg (by omega)];rfl
  generalize hb:decide (((k % 3:Nat):Int)=0)=b;have h2:=jeW M (r.map jD) (jD l);have h3:=jbd M (r.map jD) (jD l);obtain⟨s,e0⟩:=jcD (k+1) (by omega);have s1:=jbe M (r.map jD) (jD l) [vb b,sv l.2.name,jS l.2.args];have i1:=jeW M (r.map jD) [vb b,sv l.2.name,jS l.2.args];have g1:=jbd M (r.map jD) [vb b,sv l.2.name,jS l.2.args];have s2:=jbe M (r.map jD) [vb b,sv l.2.name,jS l.2.args] [vb b,sv s,jS l.2.args];have i2:=jeW M (r.map jD) [vb b,sv s,jS l.2.args];have g2:=jbd M (r.map jD) [vb b,sv s,jS l.2.args];obtain⟨vs,e3,e4⟩:=jrm l.2 (ht l (by simp)) (k+2) (by omega);have s3:=jbe M (r.map jD) [vb b,sv s,jS l.2.args] [vb b,sv s,jS vs];have e1:=jy (i:=k) (n:=k+1) (by omega) (by omega);have e1':=jy (i:=k+1) (n:=k+2) (by omega) (by omega);have e2:=jy (i:=M.length) (n:=M.length+1) (by omega) (by omega);obtain⟨c,l1,l2,ih⟩:=KA r (M++[[vb b,sv s,jS vs]]) (k+2+KY l.2.args) (by omega) (by simp;omega) λu hu=>ht u (by simp[hu]);have q:(M++[[vb b,sv s,jS vs]]).length=M.length+1:=by simp
  have q2:M++[[vb b,sv s,jS vs]]++r.map jD=M++[vb b,sv s,jS vs]::r.map jD:=by simp
  have q3:M++[[vb b,sv s,jS vs]]++c.map jD=M++(((b,T.mk s vs):Lt)::c).map jD:=by rw[List.map_cons,List.append_assoc];rfl
  rw[q,q2,q3,show k+2+KY l.2.args+mkC r=k+(2+KY l.2.args+mkC r) by omega]at ih;have o1:zf (jD l) 0 [vb b]=[vb b,sv l.2.name,jS l.2.args]:=rfl;have o2:zf [vb b,sv l.2.name,jS l.2.args] 1 [sv s]=[vb b,sv s,jS l.2.args]:=rfl;have o3:zf [vb b,sv s,jS l.2.args] 2 [jS vs]=[vb b,sv s,jS vs]:=rfl;have t1:je9 (jD l) 0 1=true:=rfl;have t2:je9 [vb b,sv l.2.name,jS l.2.args] 1 1=true:=rfl;refine⟨(b,T.mk s vs)::c,by simp[l1],?_,?_⟩
  .rw [mkC];exact⟨k+2+KY l.2.args,hb.symm,e0,e4,by omega,by rw[show k+(2+KY l.2.args+mkC r)=k+2+KY l.2.args+mkC r by omega];exact l2⟩
  .rw [jnd,List.map_cons,mkC];simp only[jg,h1,jgg,hm,hb,h2,h3,Yd,t1,o1,e1,e0,s1,i1,Jj,g1,t2,o2,e1',s2,i2,g2,jjb,e3,List.getElem?_cons_zero,o3,s3,e2,ih]
theorem jhT(c:kg)(k:Nat)(hk:k+mkC c<=100000000)(hw:cwf c):∃d:kg,jpl (vi (k:Nat)) (c.map jD)=some (.top,[vi ((k+mkC c:Nat):Int),.sl 67 (d.map jD)])/\G 32 [.sl 3 (d.map jD),vi (k:Nat)]=some (vi ((k+mkC c:Nat):Int),[]):=by
 obtain⟨d,l1,l2,h⟩:=KA c [] k hk (by simpa using hw.2) hw.1;refine⟨d,?_,ji2 d k _ hk (by rw[l1];exact hw.2) l2⟩;rw[jxw];exact h
def HCs:Nat->List kg->Nat->Prop
 |k,[],k'=>k'=k
 |k,c::l,k'=>∃k1:Nat,G 32 [.sl 3 (c.map jD),vi (k:Nat)]=some (vi (k1:Nat),[])/\k<=k1/\HCs k1 l k'
def jx2:Nat->Nat->Xi
 |_,0=>[]
 |k,n+1=>(k:Int)::jx2 (k+1) n
noncomputable def rwL(rs:Xg):kg->Option kg
 | []=>some []
 |x::r=>(match rwN rs false 51 0 x.2 with
  |none=>none
  |some q=>(rwL rs r).map ((x.1,q.1)::·))
theorem jE1{rs:Xg}{c:kg}{i:Nat}(h:i<c.length):rwL rs (c.drop i)=(match rwN rs false 51 0 c[i].2 with|none=>none|some q=>(rwL rs (c.drop (i+1))).map ((c[i].1,q.1)::·)):=by
 rw[js h];rfl
noncomputable def jBp(rs:Xg)(R:kg)(l:kg):Option kg:=(rwL rs l).bind λr=>jfx [] (R++r)
def Cz(c:kg):Prop:=c.length<=1048576/\ ∀l∈c,Tz l.2
noncomputable def wfP(p:Prf):Bool:=decide (p.ax.length<=30) && p.ax.all zD && decide (p.st.length<=60)
def Pok(p:Prf)(s:Stp):Prop:=∀x∈s.par,0<=x/\x<((p.st.length:Nat):Int)
section
variable(a b c d e f g:A)
end
def Res(o:Xe)(r:Option kg):Prop:=∃(c:kg)(b:Bool),o=some (.tup [cm c,vb b],[])/\(b=true->r=some c)/\(b=false->r=none)
theorem Res.of{o:Xe}{r:Option kg}{c:kg}{b:Bool}(h:jbO r=some (.tup [cm c,vb b],[]))(ho:o=some (.tup [cm c,vb b],[])):Res o r:=by
 cases r with
 |none=>exact⟨[],false,by rw[ho,<-h];rfl,(λh=>by cases h),λ_=>rfl⟩
 |some c'=>exact⟨c',true,by rw[ho,<-h];rfl,(λ_=>rfl),λh=>by cases h⟩
def jyK:kg->Option T
 | [l]=>if l.1=true then some l.2 else none
 |_=>none
def jwK(p:Prf):Xi->Option Xg
 | []=>some []
 |x::xs=>match p.st[x.toNat]? with
  |some q=>(match jyK q.cls with
   |some t=>(jwK p xs).map (t::·)
   |none=>none)
  |none=>none
structure Pz(p:Prf):Prop where
 ax:p.ax.length<=1048576
 st:p.st.length<=1048576
 axs:∀c∈p.ax,Cz c
 par:∀s∈p.st,s.par.length<=1048576
 whr:∀s∈p.st,s.whr.length<=1048576
 wI:∀s∈p.st,∀x∈s.whr,I64 x
 cls:∀s∈p.st,Cz s.cls
theorem Cz.of{c:kg}(h:csz c<=1048576):Cz c:=⟨by unfold csz at h;omega,λl hl=>by have:=jnh hl;unfold csz at h;show tsz l.2<=1048576;omega⟩
theorem Pz.of{p:Prf}(hw:pwf p)(h:psz p<=1048576):Pz p:=by
 unfold psz at h;refine⟨by omega,by omega,λc hc=>?_,λs hs=>?_,λs hs=>?_,λs hs=>(hw.2.1 s hs).2.2.1.1,λs hs=>?_⟩
 .have:=jiM hc;exact Cz.of (by omega)
 .have:=jbk hs;unfold ssz at this;omega
 .have:=jbk hs;unfold ssz at this;omega
 .have:=jbk hs;unfold ssz at this;exact Cz.of (by omega)
theorem jcC(c:kg)(hw:cwf c)(hk:1+mkC c<=100000000):∃(m:Nat)(d:kg),jmk (vi 1) (c.map jD)=some (.top,[vi (m:Nat),.sl 67 (d.map jD)])/\G 12 [cm d,vi 1]=some (vi (m:Nat),[]):=by
 obtain⟨d,d1,d2⟩:=jhT c 1 hk hw;simp only[Int.natCast_one]at d1 d2;have n1:¬((1+mkC c:Nat):Int)<0:=by omega
 refine⟨1+mkC c,d,?_,?_⟩
 .rw [jxr];simp only[jg,d1,List.getElem?_cons_zero]
 .rw [g12];simp only[jg,d2,n1]
theorem jlD{c:kg}(h:zD c=true):cwf c/\mkC c<=10000000:=by
 have cn:=(Qv h).1;have hl:=cn.1;refine⟨⟨λl hl=>(cn.tz l hl).wf,by omega⟩,?_⟩;have hz:∀l∈c,tsz l.2<=1048576:=λl hl=>cn.tz l hl;have key:∀d:kg,(∀l∈d,tsz l.2<=1048576)->mkC d<=1048578*d.length:=λd=>by
  induction d with
  |nil=>intro _;exact Nat.zero_le _
  |cons l d ih=>
   intro h;have h1:=ih λx hx=>h x (by simp[hx]);have h2:=jdd l.2.args;have h4:=ze l.2;have h3:=h l (by simp);rw[mkC,List.length_cons,Nat.mul_add];omega
 have:=key c hz;have:1048578*c.length<=1048578*8:=Nat.mul_le_mul_left _ hl;omega
theorem jEn(n:Int):yb (vi n)=true:=rfl
theorem jG2{n:Nat}(h:n<=1048576):jO n 40=true:=by
 unfold jO;exact decide_eq_true ⟨by omega,by omega⟩
theorem jFW{m:ju}(hv:∀q∈m,jr q.1=true)(hm:∀q∈m,Tz q.2):∀t:T,Tz t->qb t=true->jDx (tm t) (.mp (m.map kv))=some (.top,[sv (sub m t).name,.sl 66 ((sub m t).args.map jm)]):=by
 refine T.ind λt ih ht hk=>?_;have hs:=ht;unfold Tz at hs;rw[ze]at hs;have lk:=jDV [sv [],.sl 2 []] m t.name;rw[jGU];cases h:jr t.name with
 |true=>
  have h0:t.args=[]:=jbp hk h;have hz:(((0:Nat):Int)=0)=True:=by simp
  have hta:tm t = .agg [sv t.name,jS []]:=by show A.agg [_,A.sl 2 (t.args.map jm)]=_;rw[h0]
  rw[KI h,jc1,hta];cases hl:look m t.name with
  |none=>
   rw[hl]at lk;have lk:jez none true false [sv [],.sl 2 []] (.mp (m.map kv)) (sv t.name)=some (.tup [.agg [sv [],.sl 2 []],vb false]):=lk;have h1:(0:Int)<((0:Nat):Int)↔False:=by simp
   simp only[jg,lk];rw[jDE];simp only[jg,hz,h1,Option.getD_none,List.map_nil];rfl
  |some r=>
   rw[hl]at lk;have lk:jez none true false [sv [],.sl 2 []] (.mp (m.map kv)) (sv t.name)=some (.tup [tm r,vb true]):=lk;have e2:=juI r (hm _ (Zz hl));simp only[jg,lk,hz,e2,Option.getD_some,List.getElem?_cons_zero,jfV]
 |false=>
  have hn:look m t.name=none:=by
   cases hl:look m t.name with
   |none=>rfl
   |some r=>have:=hv _ (Zz hl);rw[h]at this;cases this
  rw[hn]at lk;have lk:jez none true false [sv [],.sl 2 []] (.mp (m.map kv)) (sv t.name)=some (.tup [.agg [sv [],.sl 2 []],vb false]):=lk;have e0:sub m t = .mk t.name (t.args.map (sub m)):=Jb h;have key:=(upto (P:=λi=>jBS (.mp (m.map kv)) (jS t.args) (vi (t.args.length:Nat)) (vi i) (sv []) (sv t.name) [] (((t.args.map (sub m)).take i).map jm)=some (.top,[sv (sub m t).name,.sl 66 ((sub m t).args.map jm)])) (n:=t.args.length) ?_ ?_ 0 (Nat.zero_le _))
  .simp only[Int.natCast_zero,List.take_zero,List.map_nil]at key;simp only[jg,lk,key]
  .rw [jDE,List.take_of_length_le (by rw[List.length_map];omega),Jb h]
   simp only[jg];rfl
  .intro i hi ih';have hlt:(i:Int)<((t.args.length:Nat):Int):=by omega
   have h5:=jy hi (by show t.args.length<=9223372036854775807;omega)
   have e2:=ih t.args[i] (List.getElem_mem _) (ht.args _ (List.getElem_mem _)) (qi hk _ (List.getElem_mem _));have hf:jO (i+1) 40=true:=jG2 (by omega);have hi2:i<(t.args.map (sub m)).length:=by rw[List.length_map];exact hi
   have hl:(((t.args.map (sub m)).take i).map jm).length=i:=by rw[List.length_map,List.length_take,List.length_map];omega
   have ha:j4 (((t.args.map (sub m)).take i).map jm) [[sv (sub m t.args[i]).name,jS (sub m t.args[i]).args]]=((t.args.map (sub m)).take (i+1)).map jm:=by
    rw[show[sv (sub m t.args[i]).name,jS (sub m t.args[i]).args]=jm (sub m t.args[i]) from(kR _).symm,List.take_add_one,List.getElem?_eq_getElem hi2,List.map_append,List.getElem_map];rfl
   generalize ((t.args.map (sub m)).take i).map jm=R at *;rw[jDE];simp only[jg,hlt,jb hi,ji,e2,hl,hf,ha,h5,ih',List.getElem?_cons_zero,List.getElem?_cons_succ,jfV,Jj]
def jx3(o:Option T):Out:=match o with|some u=>(.top,[sv u.name,vb true,.sl 578 (u.args.map jm)])|none=>(.top,[sv [],vb false,.sl 578 []])
theorem jD7(x y:A)(k:Nat)(r:Xc):hR k (A.top,[x,y,.sl k r]) 2=some r:=by
 unfold hR;simp
theorem jHf(x y z:A)(k:Nat)(r:Xc):hR k (A.top,[x,y,z,.sl k r]) 3=some r:=by
 unfold hR;simp
theorem jHe(x y z:A)(l:Xd):hD (A.top,x::y::z::l) 2=some z:=rfl
theorem jG1(rs:Xg)(hr:RS rs):∀(t:T)(root:Bool),Tz t->(∀u∈t.args,Vs u)->(root=true->Vs t\/ ∀r∈rs,mt [] (jtH r) t=none)->jy2 (tm t) (jS rs) (vb root)=some (jx3 (jyh rs root t)):=by
 refine T.ind λt ih root ht hA hRt=>?_;have hs:=ht;unfold Tz at hs;rw[ze]at hs;have hr1:=hr.1;have second:jBw (vb root) (jS rs) (vi (rs.length:Nat)) (vi 0) (sv t.name) (jS t.args) (sv []) []=some (jx3 (if root then jr0 rs t else none)):=by
  have key:=upto (P:=λj=>jBw (vb root) (jS rs) (vi (rs.length:Nat)) (vi j) (sv t.name) (jS t.args) (sv []) []=some (jx3 (if root then jr0 (rs.drop j) t else none))) (n:=rs.length) ?_ ?_ 0 (Nat.zero_le _)
  .exact key
  .rw [jFI,List.drop_length,jr0,ite_self];show _=some (A.top,[sv [],vb false,.sl 578 []]);simp only[jg]
  .intro j hj ihj;have hltj:(j:Int)<((rs.length:Nat):Int):=by omega
   have h5j:=jy hj (by show rs.length<=9223372036854775807;omega)
   obtain⟨hr2,hr3,hr4⟩:=hr.2 rs[j] (List.getElem_mem _);obtain⟨i0,i1⟩:=jEt hr2;rw[jFI,js hj,jr0];cases root with
   |false=>
    simp only[jg,hltj,jb hj,ji,h5j,ihj]
   |true=>
    have q:=jFQ (jtH rs[j]) hr3.tz hr3.1 t [] ht (λq hq=>by cases hq);cases hm:mt [] (jtH rs[j]) t with
    |none=>
     rw[hm]at q;obtain⟨R,q⟩:=q;have q:jBP (tm (jtH rs[j])) (sv t.name) (jS t.args) []=some (.top,[vb false,.sl 128 R]):=q;simp only[jg,hltj,jb hj,i0,ji,q,List.getElem?_cons_zero,h5j,ihj]
    |some m=>
     rw[hm]at q;have q:jBP (tm (jtH rs[j])) (sv t.name) (jS t.args) []=some (.top,[vb true,.sl 128 (m.map kv)]):=q;have hM:=(match hRt rfl with|Or.inl hv=>jGl hv hm|Or.inr hno=>by rw[hno _ (List.getElem_mem _)]at hm;cases hm);have p1:=jFW (m:=m) (λq hq=>(hM.2 q hq).1) (λq hq=>(hM.2 q hq).2.tz) (jt9 rs[j]) hr4.tz hr4.1;show _=some (A.top,[sv (sub m (jt9 rs[j])).name,vb true,.sl 578 ((sub m (jt9 rs[j])).args.map jm)]);simp only[jg,hltj,jb hj,i0,i1,ji,q,List.getElem?_cons_zero,List.getElem?_cons_succ,p1,jfV]
 have first:∀i,i<=t.args.length->jCx (jS rs) (vb root) (jS t.args) (vi (t.args.length:Nat)) (vi i) (sv t.name) (jS t.args) (sv []) []=some (match jvl rs (t.args.drop i)with|some us=>jx3 (some (.mk t.name (t.args.take i++us)))|none=>jx3 (if root then jr0 rs t else none)):=by
  refine upto ?_ ?_
  .rw [jFH,List.drop_length,jvl];simp only[jg,second]
  .intro i hi ih2;have hlt:(i:Int)<((t.args.length:Nat):Int):=by omega
   have h5:=jy hi (by show t.args.length<=9223372036854775807;omega)
   have hu:t.args[i]∈t.args:=List.getElem_mem _;have hv:=hA _ hu;have e1:=ih t.args[i] hu true hv.tz hv.args λ_=>Or.inl hv;rw[jFH,js hi,jvl];cases ho:jyh rs true t.args[i]with
   |none=>
    rw[ho]at e1;have e1:jy2 (tm t.args[i]) (jS rs) (vb true)=some (.top,[sv [],vb false,.sl 578 []]):=e1;simp only[jg,hlt,jb hi,ji,e1,jD7,List.getElem?_cons_zero,List.getElem?_cons_succ,jfV,jfW,h5,ih2];cases jvl rs (t.args.drop (i+1))with
    |none=>rfl
    |some us=>
     show some (jx3 (some (.mk t.name (t.args.take (i+1)++us))))=some (jx3 (some (.mk t.name (t.args.take i++t.args[i]::us))));have e:t.args.take (i+1)++us=t.args.take i++t.args[i]::us:=by
      rw[List.take_add_one,List.getElem?_eq_getElem hi,List.append_assoc];rfl
     rw[e]
   |some u=>
    rw[ho]at e1;have e1:jy2 (tm t.args[i]) (jS rs) (vb true)=some (.top,[sv u.name,vb true,.sl 578 (u.args.map jm)]):=e1;have e2:=juI t ht;have ix:ZB t.args.length (vi (i:Nat))=some i:=zR hi;have rg:ZY (t.args.map jm) i=some (jm t.args[i]):=by unfold ZY;simp[hi]
    have co:zf (jm t.args[i]) 0 [sv u.name,jS u.args]=jm u:=by rw[kR,kR];rfl
    have rs':yh (t.args.map jm) i (jm u)=(t.args.take i++u::t.args.drop (i+1)).map jm:=by
     unfold yh;rw[<-List.map_set,List.set_eq_take_append_cons_drop,if_pos hi]
    show _=some (A.top,[sv t.name,vb true,.sl 578 ((t.args.take i++u::t.args.drop (i+1)).map jm)]);simp only[jg,hlt,jb hi,ji,e1,e2,ix,rg,co,rs',jD7,List.getElem?_cons_zero,List.getElem?_cons_succ,jfV,jfW,Jj]
 have first:=first 0 (Nat.zero_le _)
 simp only[List.drop_zero,Int.natCast_zero,List.take_zero,List.nil_append]at first
 rw[jHc,jCH];simp only[jg,first];cases jvl rs t.args<;>rfl
def jBR(o:Option (T×Nat)):Out:=match o with|some r=>(.top,[sv r.1.name,vi (r.2:Nat),vb true,.sl 66 (r.1.args.map jm)])|none=>(.top,[sv [],vi 0,vb false,.sl 66 []])
theorem jG4(rs:Xg)(hr:RS rs)(H:∀t,EXB t->jy2 (tm t) (jS rs) (vb false)=some (jx3 (jyh rs false t))):∀(k n:Nat),k+n=51->1<=k-> ∀t:T,EXB t->jEG (jS rs) (vb false) (vi (n:Nat)) (sv []) (sv t.name) [] (t.args.map jm)=some (jBR (rwN rs false k n t)):=by
 intro k;induction k with
 |zero=>intro n _ h;omega
 |succ k ih=>
 intro n hk _ t ht;have e1:=H t ht;rw[jGC,rwN];cases ho:jyh rs false t with
 |none=>
  rw[ho]at e1;have e1:jy2 (tm t) (jS rs) (vb false)=some (.top,[sv [],vb false,.sl 578 []]):=e1;show _=some (A.top,[sv t.name,vi (n:Nat),vb true,.sl 66 (t.args.map jm)]);simp only[jg,e1,jD7,List.getElem?_cons_zero,List.getElem?_cons_succ,jfV,jfW]
 |some u=>
  rw[ho]at e1;have e1:jy2 (tm t) (jS rs) (vb false)=some (.top,[sv u.name,vb true,.sl 578 (u.args.map jm)]):=e1;obtain⟨hu,hb,hs,hA⟩:=jw7 hr ht ho;have e2:G 68 [tm u]=some (vb (jH u),[]):=QI u hu.wf hu;by_cases h50:n=50
  .have hk0:k=0:=by omega
   have hn:((n:Nat):Int)=50:=by omega
   show _=some (jBR (if k=0\/jH u=false then none else rwN rs false k (n+1) u));rw[if_pos (Or.inl hk0)];show _=some (A.top,[sv [],vi 0,vb false,.sl 66 []]);simp only[jg,e1,hn,jD7,List.getElem?_cons_zero,List.getElem?_cons_succ,jfV,jfW]
  .have hn:¬((n:Nat):Int)=50:=by omega
   have hk0:¬k=0:=by omega
   show _=some (jBR (if k=0\/jH u=false then none else rwN rs false k (n+1) u));cases hsm:jH u with
   |false=>
    rw[hsm]at e2;rw[if_pos (Or.inr rfl)];show _=some (A.top,[sv [],vi 0,vb false,.sl 66 []]);simp only[jg,e1,hn,e2,jD7,List.getElem?_cons_zero,List.getElem?_cons_succ,jfV,jfW]
   |true=>
    rw[hsm]at e2;rw[if_neg (by simp[hk0])];have h5:ck ((n:Int)+1)=some (vi ((n+1:Nat):Int)):=jZ (by omega) (by omega);have:=ih (n+1) (by omega) (by omega) u ⟨hs hsm,hb⟩;rw[<-this];simp only[jg,e1,hn,e2,h5,jD7,List.getElem?_cons_zero,List.getElem?_cons_succ,jfV,jfW]
theorem jG3(rs:Xg)(hr:RS rs)(H:∀t,EXB t->jy2 (tm t) (jS rs) (vb false)=some (jx3 (jyh rs false t))):∀(k n:Nat),k+1+n=51-> ∀t:T,EXB t->jDv (jS rs) (vb false) (vi (n:Nat)) (sv []) (sv t.name) (t.args.map jm) []=some (jBR (rwN rs false (k+1) n t)):=by
 intro k n hk t ht;have e1:=H t ht;rw[jGB,rwN];cases ho:jyh rs false t with
 |none=>
  rw[ho]at e1;have e1:jy2 (tm t) (jS rs) (vb false)=some (.top,[sv [],vb false,.sl 578 []]):=e1;show _=some (A.top,[sv t.name,vi (n:Nat),vb true,.sl 66 (t.args.map jm)]);simp only[jg,e1,jD7,List.getElem?_cons_zero,List.getElem?_cons_succ,jfV,jfW]
 |some u=>
  rw[ho]at e1;have e1:jy2 (tm t) (jS rs) (vb false)=some (.top,[sv u.name,vb true,.sl 578 (u.args.map jm)]):=e1;obtain⟨hu,hb,hs,hA⟩:=jw7 hr ht ho;have e2:G 68 [tm u]=some (vb (jH u),[]):=QI u hu.wf hu;by_cases h50:n=50
  .have hk0:k=0:=by omega
   have hn:((n:Nat):Int)=50:=by omega
   show _=some (jBR (if k=0\/jH u=false then none else rwN rs false k (n+1) u));rw[if_pos (Or.inl hk0)];show _=some (A.top,[sv [],vi 0,vb false,.sl 66 []]);simp only[jg,e1,hn,jD7,List.getElem?_cons_zero,List.getElem?_cons_succ,jfV,jfW]
  .have hn:¬((n:Nat):Int)=50:=by omega
   have hk0:¬k=0:=by omega
   show _=some (jBR (if k=0\/jH u=false then none else rwN rs false k (n+1) u));cases hsm:jH u with
   |false=>
    rw[hsm]at e2;rw[if_pos (Or.inr rfl)];show _=some (A.top,[sv [],vi 0,vb false,.sl 66 []]);simp only[jg,e1,hn,e2,jD7,List.getElem?_cons_zero,List.getElem?_cons_succ,jfV,jfW]
   |true=>
    rw[hsm]at e2;rw[if_neg (by simp[hk0])];have h5:ck ((n:Int)+1)=some (vi ((n+1:Nat):Int)):=jZ (by omega) (by omega);have:=jG4 rs hr H k (n+1) (by omega) (by omega) u ⟨hs hsm,hb⟩;rw[<-this];simp only[jg,e1,hn,e2,h5,jD7,List.getElem?_cons_zero,List.getElem?_cons_succ,jfV,jfW]
theorem jFY(rs:Xg)(hr:RS rs)(H:∀t,EXB t->jy2 (tm t) (jS rs) (vb false)=some (jx3 (jyh rs false t)))(t:T)(ht:EXB t):jEN (tm t) (jS rs) (vb false)=some (jBR (rwN rs false 51 0 t)):=by
 have e1:=juI t ht.1.1.2;have:=jG3 rs hr H 50 0 rfl t ht;have:jDv (jS rs) (vb false) (vi 0) (sv []) (sv t.name) (t.args.map jm) []=_:=this;rw[jHb];simp only[jg,e1,this,List.getElem?_cons_zero,List.getElem?_cons_succ,jfV]
theorem jEJ(c:kg)(hc:zD c=true)(rs:Xg)(hr:RS rs):∃r:Option kg,jCq (jS rs) (.sl 3 (c.map jD)) (vi (c.length:Nat)) (vi 0) [] []=jtU r/\G 35 [cm c,jS rs]=jbO r/\ ∀x,r=some x->zD x=true:=by
 obtain⟨cc,_,_,_⟩:=Qv hc;have lc:=cc.1;have zb:sb [] = .agg [.sl 3 []]:=rfl;have ld:∀l:Lt,kU (.elt (jD l) 0)=some (vb l.1):=λl=>rfl;have kI:=upto (P:=λi=>∀R:kg,R.length<=i->(∀x∈R,Bx x.2/\nodes x.2<=100)->jCq (jS rs) (.sl 3 (c.map jD)) (vi (c.length:Nat)) (vi (i:Nat)) (R.map jD) []=jtU (jBp rs R (c.drop i))) (n:=c.length) ?_ ?_ 0 (Nat.zero_le _) [] (Nat.zero_le _) (λx h=>by cases h);rotate_left
 .intro R hR hx;have e:=jn4 [] jpe R ⟨by omega,hx⟩;have hend:jBp rs R (c.drop c.length)=jfx [] R:=by
   rw[List.drop_length];show jfx [] (R++[])=_;rw[List.append_nil]
  rw[hend];obtain⟨c',b',_,hr',_,_⟩:=jbP (jfx [] R);rw[hr']at e⊢;have e:jpn (.agg [.sl 3 []]) (.sl 3 (R.map jD))=_:=e;rw[jFG];simp only[jg,e,jqo,List.getElem?_cons_zero,jfW]
 .intro i hi ih R hR hx;have hlt:(i:Int)<((c.length:Nat):Int):=by omega
  have hck:ck ((i:Int)+1)=some (vi ((i+1:Nat):Int)):=jZ (by omega) (by omega);have hb:=cc.2 _ (List.getElem_mem hi);have e1:=jFY rs hr (λu hu=>jG1 rs hr u false hu.1.1.2 hu.1.2.1 λe=>by cases e) c[i].2 (hb.1.exB hb.2);have hf:jO (R.length+1) 48=true:=jaX (by omega);rw[jFG];unfold jBp;rw[jE1 hi];cases hq:rwN rs false 51 0 c[i].2 with
  |none=>
   rw[hq]at e1;have e1:jEN (tm c[i].2) (jS rs) (vb false)=some (A.top,[sv [],vi 0,vb false,.sl 66 []]):=e1;simp only[jg,hlt,jb hi,zy,e1,jHf,jHe,List.getElem?_cons_zero,List.getElem?_cons_succ,jfV,jfW,jEn,Jj,Yd];rfl
  |some q=>
   rw[hq]at e1;have e1:jEN (tm c[i].2) (jS rs) (vb false)=some (A.top,[sv q.1.name,vi (q.2:Nat),vb true,.sl 66 (q.1.args.map jm)]):=e1;obtain⟨bq,nq⟩:=jDh hr 51 0 (hb.1.exB hb.2) hq;have:=ih (R++[(c[i].1,q.1)]) (by rw[List.length_append];simp only[List.length_cons,List.length_nil];omega) (λx h=>by
    rcases List.mem_append.1 h with h|h
    .exact hx x h
    .rw [List.mem_singleton.1 h];exact⟨bq,by show nodes q.1<=100;omega⟩)
   have ha:j4 (R.map jD) [[vb c[i].1,sv q.1.name,jS q.1.args]]=(R++[(c[i].1,q.1)]).map jD:=by rw[List.map_append];rfl
   have hend:((rwL rs (c.drop (i+1))).map ((c[i].1,q.1)::·)).bind (λr=>jfx [] (R++r))=jBp rs (R++[(c[i].1,q.1)]) (c.drop (i+1)):=by
    unfold jBp;cases rwL rs (c.drop (i+1))with
    |none=>rfl
    |some r=>show jfx [] (R++(c[i].1,q.1)::r)=jfx [] (R++[(c[i].1,q.1)]++r);rw[List.append_assoc];rfl
   show _=jtU (((rwL rs (c.drop (i+1))).map ((c[i].1,q.1)::·)).bind (λr=>jfx [] (R++r)));rw[hend,<-this];simp only[jg,hlt,jb hi,zy,e1,jHf,jHe,List.getElem?_cons_zero,List.getElem?_cons_succ,jfV,jfW,jEn,Jj,Yd,hf,ha,hck]
 have kS:=upto (P:=λi=>∀R:kg,R.length<=i->(∀x∈R,Bx x.2/\nodes x.2<=100)->jFD (jS rs) (vi (i:Nat)) (.sl 3 (c.map jD)) (R.map jD) []=jbO (jBp rs R (c.drop i))) (n:=c.length) ?_ ?_ 0 (Nat.zero_le _) [] (Nat.zero_le _) (λx h=>by cases h);rotate_left
 .intro R hR hx;have e:=jhI [] jpe R ⟨by omega,hx⟩;have hend:jBp rs R (c.drop c.length)=jfx [] R:=by
   rw[List.drop_length];show jfx [] (R++[])=_;rw[List.append_nil]
  rw[hend];obtain⟨c',b',hr'⟩:=jon (jfx [] R);rw[hr']at e⊢;have e:G 50 [.agg [.sl 3 []],.sl 3 (R.map jD)]=_:=e;rw[jGM];simp only[jg,e]
 .intro i hi ih R hR hx;have hlt:(i:Int)<((c.length:Nat):Int):=by omega
  have hck:ck ((i:Int)+1)=some (vi ((i+1:Nat):Int)):=jZ (by omega) (by omega);have hb:=cc.2 _ (List.getElem_mem hi);have e1:=jGp rs hr c[i].2 (hb.1.exB hb.2);have hf:jO (R.length+1) 48=true:=jaX (by omega);rw[jGM];unfold jBp;rw[jE1 hi];cases hq:rwN rs false 51 0 c[i].2 with
  |none=>
   rw[hq]at e1;have e1:G 62 [tm c[i].2,jS rs,vb false]=some (.tup [.agg [sv [],.sl 2 []],vi 0,vb false],[]):=e1;simp only[jg,hlt,jb hi,ldT,e1];rfl
  |some q=>
   rw[hq]at e1;have e1:G 62 [tm c[i].2,jS rs,vb false]=some (.tup [tm q.1,vi (q.2:Nat),vb true],[]):=e1;obtain⟨bq,nq⟩:=jDh hr 51 0 (hb.1.exB hb.2) hq;have:=ih (R++[(c[i].1,q.1)]) (by rw[List.length_append];simp only[List.length_cons,List.length_nil];omega) (λx h=>by
    rcases List.mem_append.1 h with h|h
    .exact hx x h
    .rw [List.mem_singleton.1 h];exact⟨bq,by show nodes q.1<=100;omega⟩)
   have ha:j4 (R.map jD) [[vb c[i].1,sv q.1.name,jS q.1.args]]=(R++[(c[i].1,q.1)]).map jD:=by rw[List.map_append];rfl
   have hend:((rwL rs (c.drop (i+1))).map ((c[i].1,q.1)::·)).bind (λr=>jfx [] (R++r))=jBp rs (R++[(c[i].1,q.1)]) (c.drop (i+1)):=by
    unfold jBp;cases rwL rs (c.drop (i+1))with
    |none=>rfl
    |some r=>show jfx [] (R++(c[i].1,q.1)::r)=jfx [] (R++[(c[i].1,q.1)]++r);rw[List.append_assoc];rfl
   show _=jbO (((rwL rs (c.drop (i+1))).map ((c[i].1,q.1)::·)).bind (λr=>jfx [] (R++r)));rw[hend,<-this];simp only[jg,hlt,jb hi,ldT,e1,hf,ha,hck]
 simp only[Int.natCast_zero,List.map_nil,List.drop_zero]at kI kS;refine⟨jBp rs [] c,kI,?_,λx h=>?_⟩
 .rw [g35];simp only[jg,kS]
 .unfold jBp at h;rw[Option.bind_eq_some_iff]at h;obtain⟨r,_,h⟩:=h;exact jkd h
theorem jFX(c:kg)(lc:c.length<=1048576)(zc:∀l∈c,Tz l.2)(rs:Xg)(hl:rs.length<=1048576)(hz:∀r∈rs,Tz r):∃r:Option kg,jFB (cm c) (jS rs)=jtU r/\G 14 [cm c,jS rs]=jbO r/\ ∀x,r=some x->zD x=true:=by
 have n1:=jcu c lc zc;have m1:=jjn c lc zc;cases hc:zD c<;>rw[hc]at n1 m1
 .exact ⟨none,by rw[jF9];simp only[jg,n1];rfl,by rw[g14];simp only[jg,m1];rfl,λx h=>by cases h⟩
 obtain⟨b,r1,r2,hb⟩:=jGr rs hl hz;cases b
 .exact ⟨none,by rw[jF9];simp only[jg,n1,r2];rfl,by rw[g14];simp only[jg,m1,r1];rfl,λx h=>by cases h⟩
 obtain⟨r,e1,e2,e3⟩:=jEJ c hc rs (hb rfl).1;obtain⟨c',b',hr,hw,_,_⟩:=jbP r;refine⟨r,?_,?_,e3⟩
 .rw [hw]at e1⊢;rw[jF9];simp only[jg,n1,r2,e1]
 .rw [hr]at e2⊢;rw[g14];simp only[jg,m1,r1,e2]
theorem jEH(c:kg)(k:Nat)(hw:cwf c)(hk:k+mkC c<=100000000):∃d:kg,jmk (vi (k:Nat)) (c.map jD)=some (.top,[vi ((k+mkC c:Nat):Int),.sl 67 (d.map jD)]):=by
 obtain⟨d,d1,_⟩:=jhT c k hk hw;refine⟨d,?_⟩;rw[jxr];simp only[jg,d1,List.getElem?_cons_zero]
theorem jCG(c:kg)(rs:Xg)(hwc:cwf c)(hwr:(∀t∈rs,KZ t)/\rs.length<=9223372036854775807):G 4 [cm c,jS rs]=some (vb true,[]):=by
 have e1:=jwR c hwc 1048576 (by decide) (by decide);rw[g4];by_cases h1:kL 1048576 ((csz c:Nat):Int)<0
 .simp only[jg,e1,h1]
 obtain⟨b1,b2,b3⟩:=jrf (by decide) (by decide) h1;have e2:=jsk rs hwr.2 (λt ht=>jur t (hwr.1 t ht)) _ b1 b2;by_cases h2:kL (kL 1048576 ((csz c:Nat):Int)) ((rs.length+JP rs:Nat):Int)<0
 .simp only[jg,e1,h1,e2,h2]
 obtain⟨_,_,d3⟩:=jrf b1 b2 h2;have hcz:Cz c:=Cz.of b3;have hrz:∀t∈rs,tsz t<=1048576:=λt ht=>by have:=yQ ht;omega
 have t1:=jma c hcz.1 hcz.2;have t2:=jo8 rs (by omega) λt ht=>jsn t (jut t (hrz t ht));have q1:=jqf c hwc;have q2:=jqg rs hwr.2 λt ht=>jtp t (hwr.1 t ht);obtain⟨r,r1,r2,r3⟩:=jFX c hcz.1 hcz.2 rs (by omega) hrz;obtain⟨c',b',hr,hw',hb1,hb2⟩:=jbP r;rw[hr]at r2;rw[hw']at r1;obtain⟨w1,w2⟩:cwf c'/\mkC c'<=10000000:=by
  cases b' with
  |true=>exact jlD (r3 _ (hb1 rfl))
  |false=>rw[hb2 rfl];exact⟨⟨λ_ h=>(List.not_mem_nil h).elim,by show 0<=_;omega⟩,by show 0<=_;omega⟩
 have q4:=jqf c' w1;have hm1:=jro c;have hm2:=jdd rs;unfold csz at b3;obtain⟨x0,k0⟩:=jEH c 1 hwc (by omega);obtain⟨x1,k1⟩:=jEI rs hwr.1 hwr.2 (1+mkC c) (by omega);obtain⟨m,z,m1,m2⟩:=jcC c' w1 (by omega);simp only[Int.natCast_one]at k0;have n1:¬((1+mkC c+KY rs:Nat):Int)<0:=by omega
 have n2:¬((m:Nat):Int)<0:=by omega
 generalize 1+mkC c+KY rs=K2 at *;generalize 1+mkC c=K1 at *;have fl:∀b:Bool,yb (vb b)=true:=λb=>rfl;have fb:∀b:Bool,fin true (vb b,[])=some (vb b):=λb=>rfl;have fi:∀n:Int,fin true (vi n,[])=some (vi n):=λn=>rfl;simp only[jg,e1,h1,e2,h2,t1,t2,r1,r2,jd0,jqo,fl,fb,fi,q1,q2,q4,k0,k1,n1,m1,m2,n2,List.getElem?_cons_zero]
end Go.Proofs.YtkkcepmpbackoaaGreatDoor
