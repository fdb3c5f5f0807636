/- Pd -/
import Derived.Test.YteoaojbmnibpcaaGreatDoorPb
import Derived.Test.YteoaojbmnibpcaaGreatDoorPa
import Derived.Test.YteoaojbmnibpcaaGreatDoorPq
namespace Go.Proofs.YteoaojbmnibpcaaGreatDoor
open Go Go.RowKit Go.Proofs.YteoaojbmnibpcaaGreatDoor.Abs
set_option linter.unusedSimpArgs false
set_option linter.unusedVariables false
set_option maxHeartbeats 1000000
def MD(code:Xi)(z q:Nat)(a:Int)(o:Xe):Prop:=∃a' s' t,a<=a'/\a'<=a+(q:Nat)/\(tsz t<=z/\Yl t=true)/\o=some (.top,[kP code,vi a',vu s',tm t])
def fT(n:Xb):T:= .mk [102] [.mk n []]
def hT:T:= .mk [104] [fT [97],fT [97],fT [97],fT [97]]
def gT(us:Xg):T:= .mk [103] us
section
variable{code:Xi}(hb:By code)
include hb
theorem jp5(a s:Int)(h0:0<=a)(h1:a<=999990000):MD code 200 2 a (jeC (kP code) (vi a) (vu s)):=by
 obtain⟨a1,s1,b1,q1,q2,e1⟩:=JA hb 2 (by decide) (by decide) a s h0 (by omega);obtain⟨a2,s2,b2,r1,r2,e2⟩:=JA hb 2 (by decide) (by decide) a1 s1 (by omega) (by omega);have inner:∀(x y:Int)(r1:Xc),x+1=y->0<=x->x<4->r1.length<=10->YC (vi x) (vi 0) (kP code) (vi a) (vu s) (sv []) (sv [103]) (sv [104]) [] r1 []=KJ (vi y) (kP code) (vi a) (vu s) (sv []) (sv [103]) [] (r1++[jl hT]):=by
  intro x y r1 hxy hx hi hr;have hf:ky (r1.length+1) 40=true:=jlk (by omega);have c5:ck (x+1)=some (vi y):=by rw[hxy];exact ko (by omega) (by omega)
  have k1:ck ((0:Int)+1)=some (vi 1):=ko (by decide) (by decide);have k2:ck ((1:Int)+1)=some (vi 2):=ko (by decide) (by decide);have k3:ck ((2:Int)+1)=some (vi 3):=ko (by decide) (by decide);have k4:ck ((3:Int)+1)=some (vi 4):=ko (by decide) (by decide);have f1:ky (0+1) 40=true:=rfl;have f2:ky (1+1) 40=true:=rfl;have f3:ky (2+1) 40=true:=rfl;have f4:ky (3+1) 40=true:=rfl;have l0:((0:Int)<4)=True:=by simp
  have l1:((1:Int)<4)=True:=by simp
  have l2:((2:Int)<4)=True:=by simp
  have l3:((3:Int)<4)=True:=by simp
  rw[K3];simp only[jk,l0,f1,k1];rw[K3];simp only[jk,l1,f2,k2,zk];rw[K3];simp only[jk,l2,f3,k3,zk];rw[K3];simp only[jk,l3,f4,k4,zk];rw[K3];simp only[jk,hf,c5,zk];rfl
 have l0:((0:Int)<4)=True:=by simp
 have l1:((1:Int)<4)=True:=by simp
 have l2:((2:Int)<4)=True:=by simp
 have l3:((3:Int)<4)=True:=by simp
 have head:jeC (kP code) (vi a) (vu s)=KJ (vi 4) (kP code) (vi a) (vu s) (sv []) (sv [103]) [] [jl hT,jl hT,jl hT,jl hT]:=by
  rw[jrl,K2];simp only[jk,l0];rw[inner 0 1 [] (by decide) (by decide) (by decide) (by decide),K2];simp only[jk,l1];rw[inner 1 2 _ (by decide) (by decide) (by decide) (by decide),K2];simp only[jk,l2];rw[inner 2 3 _ (by decide) (by decide) (by decide) (by decide),K2];simp only[jk,l3];rw[inner 3 4 _ (by decide) (by decide) (by decide) (by decide)];rfl
 rw[head,K2];have n4:((4:Int)<4)=False:=by simp
 cases b1 with
 |true=>
  cases b2 with
  |true=>
   refine⟨a2,s2,gT [hT,hT,hT,fT [98]],by omega,by omega,by decide,?_⟩;simp only[jk,n4,e1,e2,List.getElem?_cons_zero,List.getElem?_cons_succ];rfl
  |false=>
   refine⟨a2,s2,gT [hT,hT,hT],by omega,by omega,by decide,?_⟩;simp only[jk,n4,e1,e2,List.getElem?_cons_zero,List.getElem?_cons_succ];rfl
 |false=>
  refine⟨a2,s2,gT [hT,hT,hT,hT],by omega,by omega,by decide,?_⟩;cases b2<;>simp only[jk,n4,e1,e2,List.getElem?_cons_zero,List.getElem?_cons_succ]<;>rfl
theorem jh2(a s:Int)(h0:0<=a)(h1:a<=999980000):MD code 1000 1200 a (jl6 (kP code) (vi a) (vu s)):=by
 obtain⟨a1,s1,t1,q1,q2,q3,e1⟩:=Qt hb a s h0 (by omega);obtain⟨a2,s2,x,r1,r2,x0,x1,e2⟩:=zf hb 24 (by decide) (by decide) a1 s1 (by omega) (by omega);have hz:=kU t1;rw[jsU];by_cases y0:x=0
 .subst y0;obtain⟨a3,s3,w,hw,u1,u2,e⟩:=jg5 hb [[],[116,114,117,101],[116,114,117,116,104],[105,102],[88,121,122,57],[88,121,122,57,57],[120,65],[97,95,98],[97,98,99,100,101,102],[97,98,99,100,101,102,103],[95,97],[57],[88,95],[61]] (by decide) (by decide) a2 s2 (by omega) (by omega);have hl:w.length<=7/\JV w=true:=(show ∀w∈([[],[116,114,117,101],[116,114,117,116,104],[105,102],[88,121,122,57],[88,121,122,57,57],[120,65],[97,95,98],[97,98,99,100,101,102],[97,98,99,100,101,102,103],[95,97],[57],[88,95],[61]]:Xa),w.length<=7/\JV w=true by decide) w hw;have e:yV (kP code) (vi a2) (vu s2) [[sv []],[sv [116,114,117,101]],[sv [116,114,117,116,104]],[sv [105,102]],[sv [88,121,122,57]],[sv [88,121,122,57,57]],[sv [120,65]],[sv [97,95,98]],[sv [97,98,99,100,101,102]],[sv [97,98,99,100,101,102,103]],[sv [95,97]],[sv [57]],[sv [88,95]],[sv [61]]]=some (.top,[kP code,vi a3,vu s3,sv w]):=e;refine⟨a3,s3,.mk w t1.args,by omega,by omega,⟨by rw[zp];omega,jg3 hl.2 (nmA q3.2)⟩,?_⟩;simp only[jk,e1,e2,e,List.getElem?_cons_zero,List.getElem?_cons_succ,z6];rfl
 by_cases y1:x=1
 .subst y1;obtain⟨a3,s3,y,u1,u2,u3,u4,e3⟩:=zf hb 3 (by decide) (by decide) a2 s2 (by omega) (by omega);obtain⟨k,hk⟩:∃k:Nat,7+y=(k:Nat):=⟨(7+y).toNat,by omega⟩;have c1:ck (7+y)=some (vi (k:Nat)):=by rw[hk];exact ko (by omega) (by omega)
  obtain⟨a4,s4,t4,v1,v2,v3,e4⟩:=joc hb k (by omega) a3 s3 (by omega) (by omega);refine⟨a4,s4,t4,by omega,by omega,⟨by omega,v3.2⟩,?_⟩;simp only[jk,y0,e1,e2,e3,c1,e4,List.getElem?_cons_zero,List.getElem?_cons_succ,z6]
 by_cases y2:x=2
 .subst y2;obtain⟨a3,s3,t3,u1,u2,u3,e3⟩:=jp5 hb a2 s2 (by omega) (by omega);refine⟨a3,s3,t3,by omega,by omega,⟨by omega,u3.2⟩,?_⟩;simp only[jk,y0,y1,e1,e2,e3,List.getElem?_cons_zero,List.getElem?_cons_succ,z6]
 by_cases y3:x=3
 .subst y3;obtain⟨a3,s3,t3,u1,u2,u3,e3⟩:=Qt hb a2 s2 (by omega) (by omega);obtain⟨a4,s4,t4,v1,v2,v3,e4⟩:=Qt hb a3 s3 (by omega) (by omega);obtain⟨a5,s5,t5,w1,w2,w3,e5⟩:=Qt hb a4 s4 (by omega) (by omega);have hf:ky (t1.args.length+3) 40=true:=jlk (by omega);have hsz:∀us:Xg,kM (us++[t3,t4,t5])=kM us+(tsz t3+(tsz t4+tsz t5)):=by
   intro us;induction us with
   |nil=>simp[kM]
   |cons u us ih=>simp only[List.cons_append,kM];omega
  refine⟨a5,s5,.mk t1.name (t1.args++[t3,t4,t5]),by omega,by omega,⟨by rw[zp,hsz,List.length_append,List.length_cons,List.length_cons,List.length_cons,List.length_nil];omega,jg3 (nmN q3.2) (by rw[jck,nmA q3.2,Jk,u3.2,Jk,v3.2,Jk,w3.2];rfl)⟩,?_⟩
  simp only[jk,y0,y1,y2,e1,e2,e3,e4,e5,hf,List.length_map,List.getElem?_cons_zero,List.getElem?_cons_succ,z6];show _=some (A.top,[kP code,vi a5,vu s5,A.agg [sv t1.name,.sl 2 ((t1.args++[t3,t4,t5]).map jl)]]);rw[List.map_append,List.map_cons,List.map_cons,List.map_cons,jI t3,jI t4,jI t5];rfl
 by_cases y4:x=4
 .subst y4;cases ht:t1.args with
  |nil=>
   rw[ht]at e1;refine⟨a2,s2,t1,by omega,by omega,⟨by omega,q3.2⟩,?_⟩;simp only[jk,y0,y1,y2,y3,e1,e2,Int.natCast_zero,List.map_nil,List.getElem?_cons_zero,List.getElem?_cons_succ,z6];rw[show tm t1=A.agg [sv t1.name,.sl 2 (t1.args.map jl)] from rfl,ht];rfl
  |cons u us=>
   rw[ht]at e1 hz;obtain⟨a3,s3,w,hw,u1,u2,e⟩:=jg5 hb [[61],[],[81,49],[98,50]] (by decide) (by decide) a2 s2 (by omega) (by omega);have hl:w.length<=2/\JV w=true:=(show ∀w∈([[61],[],[81,49],[98,50]]:Xa),w.length<=2/\JV w=true by decide) w hw;have e:yV (kP code) (vi a2) (vu s2) [[sv [61]],[sv []],[sv [81,49]],[sv [98,50]]]=some (.top,[kP code,vi a3,vu s3,sv w]):=e;have hu:=kU u;simp only[kM,List.length_cons]at hz;refine⟨a3,s3,.mk t1.name (.mk w u.args::us),by omega,by omega,⟨by rw[zp];simp only[kM,List.length_cons,zp];omega,?_⟩,?_⟩
   .have h1:=nmA q3.2;rw[ht,Jk,Bool.and_eq_true]at h1;exact jg3 (nmN q3.2) (by rw[Jk,jg3 hl.2 (nmA h1.1),h1.2];rfl)
   have x2:pIx (us.length+1) (vi 0)=some 0:=K7 (i:=0) (by omega);have x3:jat (jl u::us.map jl) 0 1=some (zR u.args):=by rw[jI];rfl
   have x4:(0:Int)<((us.length+1:Nat):Int):=by omega
   simp only[jk,y0,y1,y2,y3,e1,e2,e,List.map_cons,List.length_cons,List.length_map,x2,x3,x4,List.getElem?_cons_zero,List.getElem?_cons_succ,z6];generalize hB:yc _ _ _=B;have hB':B=some (.agg [sv w,zR u.args]):=by rw[<-hB];kernel_rfl
   rw[hB'];simp only[jk,QX,Zc,jjB,List.getElem?_cons_zero,List.getElem?_cons_succ,z6];rw[jI];show some (A.top,[kP code,vi a3,vu s3,A.agg [sv t1.name,A.sl 2 (qp [sv u.name,A.sl 2 (List.map jl u.args)] 0 [sv w,zR u.args]::List.map jl us)]])=some (A.top,[kP code,vi a3,vu s3,A.agg [sv t1.name,.sl 2 (jl (.mk w u.args)::us.map jl)]]);rw[jjB,jI];rfl
 .refine ⟨a2,s2,t1,by omega,by omega,⟨by omega,q3.2⟩,?_⟩;simp only[jk,e1,e2,y0,y1,y2,y3,y4,List.getElem?_cons_zero,List.getElem?_cons_succ,z6]
end
def OD(code:Xi)(q:Nat)(a:Int)(o:Xe):Prop:=∃a' s' r,a<=a'/\a'<=a+(q:Nat)/\owf r/\o=some (.top,[kP code,vi a',vu s',od r])
section
variable{code:Xi}(hb:By code)
include hb
end
def PD(code:Xi)(z q:Nat)(a:Int)(o:Xe):Prop:=∃a' s' t u,a<=a'/\a'<=a+(q:Nat)/\tsz t<=z/\tsz u<=z/\o=some (.top,[kP code,vi a',vu s',.tup [tm t,tm u]])
section
variable{code:Xi}(hb:By code)
include hb
end
section
variable{code:Xi}(hb:By code)
include hb
end
section
variable{code:Xi}(hb:By code)
include hb
end
abbrev S3:Xa:=[[88],[89],[90]]
theorem jtq:∀t:T,zy t=true->VIn S3 t->Yl t=true:=by
 refine T.ind λt ih hk hv=>?_;rw[zF]at hk;unfold VIn at hv;rw[jc7]at hv;rw[jiz];cases h:jE t.name with
 |true=>
  rw[h,if_pos rfl]at hk hv;have h1:=hv t.name (by simp);have h2:JV t.name=true:=by
   unfold JV;simp only[List.mem_cons,List.not_mem_nil,or_false]at h1;rcases h1 with e|e|e<;>rw[e]<;>decide
  rw[h2,List.isEmpty_iff.1 hk];rfl
 |false=>
  rw[h,if_neg Bool.false_ne_true]at hk hv;simp only[Bool.and_eq_true]at hk;have h2:JV t.name=true:=by unfold JV;rw[h];rfl
  have h3:∀us:Xg,(∀u∈us,u∈t.args)->(∀x∈qm us,x∈S3)->QS us=true->Jk us=true:=by
   intro us;induction us with
   |nil=>intro _ _ _;rfl
   |cons u us ih2=>
    intro hm hx hk;rw[QS,Bool.and_eq_true]at hk;rw[qm]at hx;rw[Jk,ih u (hm u (by simp)) hk.1 (λx h=>hx x (List.mem_append_left _ h)),ih2 (λv h=>hm v (by simp[h])) (λx h=>hx x (List.mem_append_right _ h)) hk.2];rfl
  rw[h2,h3 t.args (λ_ h=>h) hv hk.2.2];rfl
def GT(N:Nat)(t:T):Prop:=zy t=true/\nodes t<=N/\VIn S3 t
theorem GT.valid{N:Nat}(hN:N<=8){t:T}(h:GT N t):j9 t=true/\tsz t<=80:=by
 have h1:=K6 t h.1;have h2:=jia t;have h3:=h.2.1;refine⟨?_,by omega⟩;unfold j9 kz;rw[h.1,decide_eq_true (show nodes t<=30 by omega),decide_eq_true (show qx t<=8 by omega)];rfl
theorem GT.nm{N:Nat}{t:T}(h:GT N t):Yl t=true:=jtq t h.1 h.2.2
theorem GT.le{M N:Nat}(h:M<=N){t:T}(ht:GT M t):GT N t:=⟨ht.1,Nat.le_trans ht.2.1 h,ht.2.2⟩
theorem GT.leaf{w:Xb}(h:w∈([[88],[89],[90],[97],[98]]:Xa)):GT 1 (.mk w []):=by
 simp only[List.mem_cons,List.not_mem_nil,or_false]at h;refine⟨?_,Nat.le_refl _,?_⟩
 .rcases h with rfl|rfl|rfl|rfl|rfl<;>decide
 .intro x hx;rw[jc7]at hx;rcases h with rfl|rfl|rfl|rfl|rfl<;>simp[jE,upc,KB,T.name,T.args,qm]at hx<;>simp[hx]
theorem GT.app{n:Xb}{us:Xg}{N:Nat}(hv:jE n=false)(hs:zW n=true)(hl:us.length<=4)(h:∀u∈us,zy u=true/\VIn S3 u)(hN:1+jA us<=N):GT N (.mk n us):=by
 refine⟨?_,?_,?_⟩
 .rw [zF];show(if jE n then _ else zW n && (decide (us.length<=4) && QS us))=true;rw[hv,if_neg Bool.false_ne_true,hs,decide_eq_true hl,Bool.true_and,Bool.true_and,yq,List.all_eq_true];exact λu hu=>(h u hu).1
 .rw [jM];exact hN
 .intro x hx;rw[jc7]at hx;have hx:x∈(if jE n then[n]else qm us):=hx;rw[hv,if_neg Bool.false_ne_true]at hx;have:∀us:Xg,(∀u∈us,VIn S3 u)->x∈qm us->x∈S3:=by
   intro us;induction us with
   |nil=>intro _ h;cases h
   |cons u us ih=>
    intro h hx;rw[qm]at hx;rcases List.mem_append.1 hx with hx|hx
    .exact h u (by simp) x hx
    .exact ih (λv hv=>h v (by simp[hv])) hx
  exact this us (λu hu=>(h u hu).2) hx
def GD(code:Xi)(N q:Nat)(a:Int)(o:Xe):Prop:=∃a' s' t,a<=a'/\a'<=a+(q:Nat)/\GT N t/\o=some (.top,[kP code,vi a',vu s',sv (T.name t),zR (T.args t)])
section
variable{code:Xi}(hb:By code)
include hb
theorem jcc(a s:Int)(h0:0<=a)(h1:a<=1000000000):∃a' s' w,GT 1 (.mk w [])/\a<=a'/\a'<=a+1/\yV (kP code) (vi a) (vu s) [[sv [88]],[sv [89]],[sv [90]],[sv [97]],[sv [98]],[sv [88]],[sv [97]]]=some (.top,[kP code,vi a',vu s',sv w]):=by
 obtain⟨a',s',w,hw,q1,q2,e⟩:=jg5 hb [[88],[89],[90],[97],[98],[88],[97]] (by decide) (by decide) a s h0 h1;refine⟨a',s',w,GT.leaf ?_,q1,q2,e⟩;simp only[List.mem_cons,List.not_mem_nil,or_false]at hw⊢;rcases hw with h|h|h|h|h|h|h<;>simp[h]
theorem jdE(qx:Int)(hd:qx<=1)(a s:Int)(h0:0<=a)(h1:a<=999999000):GD code 1 1 a (zS (vi qx) (kP code) (vi a) (vu s)):=by
 obtain⟨a1,s1,w,hw,q1,q2,e⟩:=jcc hb a s h0 (by omega);refine⟨a1,s1,.mk w [],q1,by omega,hw,?_⟩;rw[qR];simp only[jk,hd,e,List.getElem?_cons_zero,List.getElem?_cons_succ,z6];rfl
theorem jkU(N q:Nat)(d:Nat)(h1d:1<=d)(hd:d<=10)(ih:∀a s:Int,0<=a->a<=999999000->GD code N q a (zS (vi (d:Nat)) (kP code) (vi a) (vu s)))(hq:q<=300)(a s:Int)(h0:0<=a)(h1:a<=999998000):GD code (2*N+1) (2*q+3) a (zS (vi ((d+1:Nat):Int)) (kP code) (vi a) (vu s)):=by
 have hle:¬((d+1:Nat):Int)<=1:=by omega
 obtain⟨a1,s1,b1,q1,q2,e1⟩:=JA hb 3 (by decide) (by decide) a s h0 (by omega);cases b1 with
 |true=>
  obtain⟨a2,s2,w,hw,r1,r2,e⟩:=jcc hb a1 s1 (by omega) (by omega);refine⟨a2,s2,.mk w [],by omega,by omega,hw.le (by omega),?_⟩;rw[qR];simp only[jk,hle,e1,e,List.getElem?_cons_zero,List.getElem?_cons_succ,z6];rfl
 |false=>
  obtain⟨a2,s2,b2,r1,r2,e2⟩:=JA hb 2 (by decide) (by decide) a1 s1 (by omega) (by omega);have c1:ck (((d+1:Nat):Int)-1)=some (vi (d:Nat)):=by rw[show((d+1:Nat):Int)-1=(d:Nat) by omega];exact ko (by omega) (by omega)
  obtain⟨a3,s3,t3,u1,u2,u3,e3⟩:=ih a2 s2 (by omega) (by omega);cases b2 with
  |true=>
   refine⟨a3,s3,.mk [102] [t3],by omega,by omega,GT.app (by decide) (by decide) (by simp) (λu hu=>?_) ?_,?_⟩
   .simp only[List.mem_singleton]at hu;subst hu;exact⟨u3.1,u3.2.2⟩
   .have:=u3.2.1;simp only[jA];omega
   rw[qR];simp only[jk,hle,e1,e2,c1,e3,List.getElem?_cons_zero,List.getElem?_cons_succ,z6];rw[<-jp1];rfl
  |false=>
   obtain⟨a4,s4,t4,v1,v2,v3,e4⟩:=ih a3 s3 (by omega) (by omega);refine⟨a4,s4,.mk [103] [t3,t4],by omega,by omega,GT.app (by decide) (by decide) (by simp) (λu hu=>?_) ?_,?_⟩
   .simp only[List.mem_cons,List.not_mem_nil,or_false]at hu;rcases hu with rfl|rfl
    .exact ⟨u3.1,u3.2.2⟩
    .exact ⟨v3.1,v3.2.2⟩
   .have:=u3.2.1;have:=v3.2.1;simp only[jA];omega
   rw[qR];simp only[jk,hle,e1,e2,c1,e3,e4,List.getElem?_cons_zero,List.getElem?_cons_succ,z6];rw[<-ji9];rfl
theorem JP(a s:Int)(h0:0<=a)(h1:a<=999998000):GD code 3 5 a (zS (vi 2) (kP code) (vi a) (vu s)):=
 jkU hb 1 1 1 (by decide) (by decide) (λa s h0 h1=>jdE hb 1 (by decide) a s h0 h1) (by decide) a s h0 h1
theorem jkT(a s:Int)(h0:0<=a)(h1:a<=999997000):GD code 7 13 a (zS (vi 3) (kP code) (vi a) (vu s)):=by
 obtain⟨a1,s1,b1,q1,q2,e1⟩:=JA hb 3 (by decide) (by decide) a s h0 (by omega);have hle:¬(3:Int)<=1:=by decide
 cases b1 with
 |true=>
  obtain⟨a2,s2,w,hw,r1,r2,e⟩:=jcc hb a1 s1 (by omega) (by omega);refine⟨a2,s2,.mk w [],by omega,by omega,hw.le (by omega),?_⟩;rw[qR];simp only[jk,hle,e1,e,List.getElem?_cons_zero,List.getElem?_cons_succ,z6];rfl
 |false=>
  obtain⟨a2,s2,b2,r1,r2,e2⟩:=JA hb 2 (by decide) (by decide) a1 s1 (by omega) (by omega);have c1:ck ((3:Int)-1)=some (vi 2):=ko (n:=3-1) (by decide) (by decide);obtain⟨a3,s3,t3,u1,u2,u3,e3⟩:=JP hb a2 s2 (by omega) (by omega);cases b2 with
  |true=>
   refine⟨a3,s3,.mk [102] [t3],by omega,by omega,GT.app (by decide) (by decide) (by simp) (λu hu=>?_) ?_,?_⟩
   .simp only[List.mem_singleton]at hu;subst hu;exact⟨u3.1,u3.2.2⟩
   .have:=u3.2.1;simp only[jA];omega
   rw[qR];simp only[jk,hle,e1,e2,c1,e3,List.getElem?_cons_zero,List.getElem?_cons_succ,z6];rw[<-jp1];rfl
  |false=>
   obtain⟨a4,s4,t4,v1,v2,v3,e4⟩:=JP hb a3 s3 (by omega) (by omega);refine⟨a4,s4,.mk [103] [t3,t4],by omega,by omega,GT.app (by decide) (by decide) (by simp) (λu hu=>?_) ?_,?_⟩
   .simp only[List.mem_cons,List.not_mem_nil,or_false]at hu;rcases hu with rfl|rfl
    .exact ⟨u3.1,u3.2.2⟩
    .exact ⟨v3.1,v3.2.2⟩
   .have:=u3.2.1;have:=v3.2.1;simp only[jA];omega
   rw[qR];simp only[jk,hle,e1,e2,c1,e3,e4,List.getElem?_cons_zero,List.getElem?_cons_succ,z6];rw[<-ji9];rfl
end
def ED(code:Xi)(q:Nat)(a:Int)(o:Xe):Prop:=∃a' s' r,a<=a'/\a'<=a+(q:Nat)/\R3 S3 r/\(tsz r<=400/\nodes r<=15)/\o=some (.top,[kP code,vi a',vu s',tm r])
section
variable{code:Xi}(hb:By code)
include hb
end
def RT:T:= .mk [61] [.mk [102] [.mk [88] []],.mk [88] []]
def LD(code:Xi)(q:Nat)(a:Int)(o:Xe):Prop:=∃a' s' rs,a<=a'/\a'<=a+(q:Nat)/\rs.length<=14/\(∀r∈rs,R3 S3 r/\tsz r<=400)/\o=some (.top,[kP code,vi a',vu s',zR rs])
section
variable{code:Xi}(hb:By code)
include hb
end
def EXB(t:T):Prop:=EX false t/\Bx t
open Go Go.RowKit Go.Proofs.YteoaojbmnibpcaaGreatDoor.Abs Go.Sort
section
variable{α:Type}{c:α->α->Int}
end
theorem jqX:∀d:Nat,d<10->jU (sv [48,49,50,51,52,53,54,55,56,57]) (some (vi (d:Nat))) (some (vi ((d+1:Nat):Int)))=some (sv [UInt8.ofNat (48+d)])
 |0,_=>rfl|1,_=>rfl|2,_=>rfl|3,_=>rfl|4,_=>rfl|5,_=>rfl|6,_=>rfl|7,_=>rfl|8,_=>rfl|9,_=>rfl
theorem jm3:∀n:Nat,n<=1000000->G 47 [vi (n:Nat)]=some (sv (Lib.decDigits n),[]):=by
 intro n;induction n using Nat.strongRecOn with
 |ind n ih=>
  intro hn;have h0:¬((n:Nat):Int)<0:=by omega
  rw[g47];by_cases h:n<10
  .have h1:((n:Nat):Int)<10:=by omega
   have h2:ck ((n:Int)+1)=some (vi ((n+1:Nat):Int)):=ko (by omega) (by omega);have h3:=jqX n h;rw[KV h];simp only[jk,h0,h1,h2,h3]
  .have h1:¬((n:Nat):Int)<10:=by omega
   have hq:jx .quo false (vi (n:Nat)) (vi 10)=some (vi ((n / 10:Nat):Int)):=by
    show ck (((n:Nat):Int).tdiv 10)=_;rw[Int.tdiv_eq_ediv_of_nonneg (by omega)];exact ko (by omega) (by omega)
   have hr:jx .rem false (vi (n:Nat)) (vi 10)=some (vi ((n % 10:Nat):Int)):=by
    show some (vi (((n:Nat):Int).tmod 10))=_;rw[Int.tmod_eq_emod_of_nonneg (by omega)];rfl
   have h2:ck (((n % 10:Nat):Int)+1)=some (vi ((n % 10+1:Nat):Int)):=ko (by omega) (by omega);have h3:=jqX (n % 10) (by omega);have h4:=ih (n / 10) (by omega) (by omega);have hl:(Lib.decDigits (n / 10)).length + [UInt8.ofNat (48+n % 10)].length<=9223372036854775807:=by
    have:=(qy 6 (n / 10) (by omega)).2;simp only[List.length_cons,List.length_nil];omega
   have h5:=QT false (Lib.decDigits (n / 10)) [UInt8.ofNat (48+n % 10)];rw[if_pos hl]at h5;rw[jbE h];simp only[jk,h0,h1,hq,hr,h2,h3,h4,h5]
def jto:Nat->Xa->Bool
 |_,[]=>true
 |i,n::r=>decide (n=jnd 88 i) && jto (i+1) r
abbrev Nm':=List (Xb×Xb)
abbrev kn(p:Xb×Xb):Xd:=[sv p.1,sv p.2]
def jtk:Nm'->Xb->Option Xb
 | [],_=>none
 |p::m,n=>if p.1=n then some p.2 else jtk m n
def jtA(p:UInt8):Nat->Xa->Nm'
 |_,[]=>[]
 |i,n::r=>(n,jnd p i)::jtA p (i+1) r
theorem jiF{n:Nat}(h:n<=1000000):ky n 48=true:=by
 unfold ky;exact decide_eq_true ⟨by omega,by omega⟩
noncomputable def eqL(a b:Lt):Bool:=decide (a.1=b.1) && dq a.2 b.2
noncomputable def cpG:Lt->List Lt->List Lt
 |_,[]=>[]
 |p,b::l=>if eqL b p then cpG b l else b::cpG b l
theorem jtL{α:Type}{f:α->Xd}{xs:List α}{i:Nat}(h:i<xs.length)(n:Nat):qt (xs.map f) i 0 n=some (.agg ((f xs[i]).take n)):=by unfold qt;simp[h]
theorem jko{xs:List Lt}{i:Nat}(h:i<xs.length):qt (xs.map kq) i 0 3=some (ltm xs[i]):=jtL h 3
theorem jrU{α:Type}{f:α->Xd}{xs:List α}{i:Nat}(h:i<xs.length):pIx (jD (xs.map f)) (vi (i:Nat))=some i:=by
 rw[jhg,List.length_map];exact K7 h
noncomputable def sameC(a b:kA):Bool:=dq a b
theorem jqZ{α:Type}{p:α->Bool}{l:List α}{k:Nat}(hk:k<=l.length)(h1:∀j,(h:j<k)-> ∀h':j<l.length,p l[j]=true)(h2:(∃h:k<l.length,p l[k]=false)\/k=l.length):l.takeWhile p=l.take k/\l.dropWhile p=l.drop k:=by
 have hp:∀a∈l.take k,p a=true:=λa ha=>by
  obtain⟨j,hj,rfl⟩:=List.mem_iff_getElem.1 ha;rw[List.length_take]at hj;rw[List.getElem_take];exact h1 j (by omega) (by omega)
 have e:=List.takeWhile_append_of_pos (l₂:=l.drop k) hp;have e':=List.dropWhile_append_of_pos (l₂:=l.drop k) hp;rw[List.take_append_drop]at e e';rw[e,e'];rcases h2 with⟨h,h2⟩|h
 .rw [jL h,List.takeWhile_cons_of_neg (by simp[h2]),List.dropWhile_cons_of_neg (by simp[h2]),List.append_nil];exact⟨rfl,rfl⟩
 .rw [h,List.drop_length];simp
theorem jjS(u:List Lt)(hl:u.length<=900000)(i:Nat)(hi:i<=u.length)(x:Lt) :
  pB (Qg (u.map kq)) (jfA (u.map kq) 0) (some (vi (i:Nat)))=some i/\jdp (u.map kq) 0 (Yk i 0)=(u.take i).map kq/\ky (u.take i).length 48=true/\pB (Qg (u.map kq)) (jfA (u.map kq) 0) none=some u.length/\pB 0 u.length (some (vi (i:Nat)))=some i/\jdp (u.map kq) i (Yk u.length i)=(u.drop i).map kq/\
  ky ((u.take i).length+1) 48=true/\ky ((zk ((u.take i).map kq) [kq x]).length+((u.drop i).map kq).length) 48=true/\zk (zk ((u.take i).map kq) [kq x]) ((u.drop i).map kq)=(u.take i++x::u.drop i).map kq:=by
 have e1:Qg (u.map kq)=u.length:=jlt kq u;have e2:jfA (u.map kq) 0=u.length:=by rw[jpI,List.length_map];rfl
 refine⟨by rw[e1,e2];exact jqM hi,by rw[jkf,jj6,Nat.sub_zero,List.drop_zero,List.map_take],?_,by rw[e1,e2];exact jiD (Nat.le_refl _),jqM hi,?_,?_,?_,?_⟩
 .rw [List.length_take];exact jiF (by omega)
 .rw [jkf,jj6,<-List.map_drop,List.take_of_length_le (by rw[List.length_map,List.length_drop];omega)]
 .rw [List.length_take];exact jiF (by omega)
 .exact jiF (by unfold zk;rw[List.length_append,List.length_map,List.length_map,List.length_take,List.length_drop];simp only[List.length_cons,List.length_nil];omega)
 .unfold zk;rw[List.map_append,List.append_assoc];rfl
theorem jmO{u:List Lt}(hu:Asc cmpL u)(x:Lt){y:Lt} :y∈KF cmpL u x↔y∈u\/y=x:=(jbU KS hu x).2 y
mutual
def mkN:T->Nat
 |.mk _ us=>1+mkL us
def mkL:Xg->Nat
 | []=>0
 |t::ts=>mkN t+mkL ts
end
mutual
theorem jpp:∀t:T,mkN t<=1+tsz t
 |.mk n us=>by
  have:=jj5 us;simp only[mkN,tsz];omega
theorem jj5:∀ts:Xg,mkL ts<=ts.length+kM ts
 | []=>by simp[mkL]
 |t::ts=>by
  have h1:=jpp t;have h2:=jj5 ts;simp only[mkL,kM,List.length_cons];omega
end
def HL:Nat->Xg->Nat->Prop
 |k,[],k'=>k'=k
 |k,u::us,k'=>∃k1:Nat,G 111 [vi (k:Nat)]=some (sv u.name,[])/\G 113 [zR u.args,vi ((k+1:Nat):Int)]=some (vi (k1:Nat),[])/\k<k1/\HL k1 us k'
def jt2:Option Xb->kI->Bool
 |_,[]=>true
 |none,q::r=>jE q.1 && (j9 q.2 && (!decide (q.2.name=q.1) && jt2 (some q.1) r))
 |some m,q::r=>JD m q.1 && (jE q.1 && (j9 q.2 && (!decide (q.2.name=q.1) && jt2 (some q.1) r)))
def okB(q:Xb×T):Bool:=jE q.1 && (j9 q.2 && !decide (q.2.name=q.1))
def SzB(s:kI):Prop:=s.length<=1000000/\ ∀q∈s,q.1.length<=1000000/\Tz q.2
def outT(o:Option T):Xe:=match o with|some t=>some (.tup [tm t,vb true],[])|none=>some (.tup [.agg [sv [],.sl 2 []],vb false],[])
def AxT(t:T):Prop:=zy t=true\/(t.name=[61]/\t.args.length=2/\ ∀u∈t.args,zy u=true)
theorem AxT.rx{t:T}(h:AxT t):Rx' t:=h.elim Or.inl λh=>Or.inr ⟨h.1,h.2.2⟩
theorem AxT.tz{t:T}(h:AxT t)(hn:nodes t<=100000):Tz t:=by
 rcases h with h|h
 .have:=K6 t h;unfold Tz;omega
 .unfold Tz;rw[jM]at hn;rw[kU,h.1,h.2.1];have:=jj8 h.2.2;simp only[List.length_cons,List.length_nil];omega
theorem AxT.sub{s:kI}(hs:ql s=true){t:T}(h:AxT t):AxT (sub s t):=by
 rcases h with h|h
 .exact Or.inl (Q0 (jew hs) t h)
 .have hvn:jE t.name=false:=by rw[h.1];decide
  right;rw[jbe hvn];refine⟨h.1,by show(t.args.map _).length=2;rw[List.length_map,h.2.1],λu hu=>?_⟩;obtain⟨a,ha,rfl⟩:=List.mem_map.1 hu;exact Q0 (jew hs) a (h.2.2 a ha)
theorem AxT.sub_tz{s:kI}(hs:ql s=true){t:T}(h:AxT t)(hn:nodes t<=3000):Tz (Go.Proofs.YteoaojbmnibpcaaGreatDoor.sub s t):=by
 have:=jlQ (u:=s) (Z:=30) (by decide) (jfV hs) t;exact(h.sub hs).tz (by omega)
abbrev LtB(p q:Xb×T):Prop:=JD p.1 q.1=true
def jxb(o:Option kI):Xe:=match o with|some s=>some (.tup [sb s,vb true],[])|none=>some (.tup [.agg [.sl 3 []],vb false],[])
def jtf(l:kI):kI:=l.filter λp=> !decide (p.2.name=p.1)
def jv8(s u:kI):kI:=jtf (s.map λq=>(q.1,sub u q.2))++u.filter λq=>(look s q.1).isNone
theorem jo8(a x0 x1 x2 x3 x4:A)(us:Xg)(l:Xd):hR 2 (a,x0::x1::x2::x3::x4::zR us::l) 5=some (us.map jl):=by simp[hR,zR]
def AD(code:Xi)(q:Nat)(a:Int)(o:Xe):Prop:=∃a' s' t,a<=a'/\a'<=a+(q:Nat)/\(Bx t/\nodes t<=15/\Yl t=true)/\o=some (.top,[kP code,vi a',vu s',sv (T.name t),zR (T.args t)])
def LV(l:Lt):Prop:=Bx l.2/\nodes l.2<=15/\Yl l.2=true
def LtD(code:Xi)(q:Nat)(a:Int)(o:Xe):Prop:=∃a' s' l,a<=a'/\a'<=a+(q:Nat)/\LV l/\o=some (.top,[kP code,vi a',vu s',vb (Prod.fst l),sv (T.name (Prod.snd l)),zR (T.args (Prod.snd l))])
theorem GT.two{n:Xb}(hn:n=[61]\/zW n=true){u v:T}(hu:GT 7 u)(hv:GT 7 v):Bx (.mk n [u,v])/\nodes (.mk n [u,v])<=15/\Yl (.mk n [u,v])=true:=by
 have h1:=hu.2.1;have h2:=hv.2.1;have hk:∀x ∈ [u,v],zy x=true:=λx hx=>by
  simp only[List.mem_cons,List.not_mem_nil,or_false]at hx;rcases hx with rfl|rfl
  .exact hu.1
  .exact hv.1
 have hnm:JV n=true:=by
  rcases hn with rfl|hn
  .decide
  .unfold JV;rw[jcZ hn];rfl
 refine⟨?_,by rw[jM];show 1+jA [u,v]<=15;simp only[jA];omega,nm2 hnm hu.nm hv.nm⟩
 rcases hn with hn|hn
 .exact Or.inl ⟨hn,rfl,hk⟩
 .refine Or.inr ⟨hn,?_⟩;have hn':jE n=false:=jcZ hn;rw[zF];show(if jE n then _ else zW n && (decide ([u,v].length<=4) && QS [u,v]))=true;rw[hn',if_neg Bool.false_ne_true,hn,yq,List.all_eq_true.2 hk];rfl
theorem GT.one{n:Xb}(hn:zW n=true){u:T}(hu:GT 7 u):Bx (.mk n [u])/\nodes (.mk n [u])<=15/\Yl (.mk n [u])=true:=by
 have h1:=hu.2.1;have hk:∀x ∈ [u],zy x=true:=λx hx=>by
  simp only[List.mem_cons,List.not_mem_nil,or_false]at hx;rw[hx];exact hu.1
 refine⟨Or.inr ⟨hn,?_⟩,by rw[jM];show 1+jA [u]<=15;simp only[jA];omega,nm1 (by unfold JV;rw[jcZ hn];rfl) hu.nm⟩
 have hn':jE n=false:=jcZ hn;rw[zF];show(if jE n then _ else zW n && (decide ([u].length<=4) && QS [u]))=true;rw[hn',if_neg Bool.false_ne_true,hn,yq,List.all_eq_true.2 hk];rfl
theorem LV.tsz{l:Lt}(h:LV l):tsz l.2<=150:=by have:=h.1.tsz;have:=h.2;omega
theorem LV.tz{l:Lt}(h:LV l):Tz l.2:=by have:=h.tsz;unfold Tz;omega
section
variable{code:Xi}(hb:By code)
include hb
theorem jhK(a s:Int)(h0:0<=a)(h1:a<=999996000):GD code 7 14 a (ZT (kP code) (vi a) (vu s)):=by
 obtain⟨a1,s1,x,q1,q2,x0,x1,e1⟩:=zf hb 3 (by decide) (by decide) a s h0 (by omega);have c1:ck (1+x)=some (vi (1+x)):=ko (by omega) (by omega);have key:GD code 7 13 a1 (zS (vi (1+x)) (kP code) (vi a1) (vu s1)):=by
  by_cases y0:x=0
  .subst y0;obtain⟨a2,s2,t,r1,r2,r3,e⟩:=jdE hb (1+0) (by decide) a1 s1 (by omega) (by omega);exact⟨a2,s2,t,r1,by omega,r3.le (by decide),e⟩
  by_cases y1:x=1
  .subst y1;obtain⟨a2,s2,t,r1,r2,r3,e⟩:=JP hb a1 s1 (by omega) (by omega);exact⟨a2,s2,t,r1,by omega,r3.le (by decide),e⟩
  .have:x=2:=by omega
   subst this;exact jkT hb a1 s1 (by omega) (by omega)
 obtain⟨a2,s2,t,r1,r2,r3,e2⟩:=key;refine⟨a2,s2,t,by omega,by omega,r3,?_⟩;rw[jqi];simp only[jk,e1,c1,e2,List.getElem?_cons_zero,List.getElem?_cons_succ,z6]
theorem jml(a s:Int)(h0:0<=a)(h1:a<=999990000):AD code 40 a (jhW (kP code) (vi a) (vu s)):=by
 obtain⟨a1,s1,x,q1,q2,x0,x1,e1⟩:=zf hb 8 (by decide) (by decide) a s h0 (by omega);obtain⟨a2,s2,t2,r1,r2,r3,e2⟩:=jhK hb a1 s1 (by omega) (by omega);obtain⟨a3,s3,t3,u1,u2,u3,e3⟩:=jhK hb a2 s2 (by omega) (by omega);obtain⟨a4,s4,t4,v1,v2,v3,e4⟩:=JP hb a1 s1 (by omega) (by omega);obtain⟨a5,s5,t5,w1,w2,w3,e5⟩:=JP hb a4 s4 (by omega) (by omega);have v3:=v3.le (N:=7) (by decide);have w3:=w3.le (N:=7) (by decide);rw[jrj];by_cases y0:x=0
 .subst y0;refine⟨a3,s3,.mk [61] [t2,t3],by omega,by omega,GT.two (Or.inl rfl) r3 u3,?_⟩;simp only[jk,e1,e2,e3,List.getElem?_cons_zero,List.getElem?_cons_succ,z6];rw[<-ji9];rfl
 by_cases y1:x=1
 .subst y1;refine⟨a3,s3,.mk [61] [t2,t3],by omega,by omega,GT.two (Or.inl rfl) r3 u3,?_⟩;simp only[jk,e1,e2,e3,List.getElem?_cons_zero,List.getElem?_cons_succ,z6];rw[<-ji9];rfl
 by_cases y2:x=2
 .subst y2;refine⟨a1,s1,.mk [114] [],by omega,by omega,⟨Or.inr ⟨by decide,by decide⟩,by decide,by decide⟩,?_⟩;simp only[jk,e1,List.getElem?_cons_zero,List.getElem?_cons_succ,z6];rfl
 by_cases y3:x=3
 .subst y3;refine⟨a5,s5,.mk [113] [t4,t5],by omega,by omega,GT.two (Or.inr (by decide)) v3 w3,?_⟩;simp only[jk,e1,e4,e5,List.getElem?_cons_zero,List.getElem?_cons_succ,z6];rw[<-ji9];rfl
 by_cases y4:x=4
 .subst y4;refine⟨a5,s5,.mk [113] [t4,t5],by omega,by omega,GT.two (Or.inr (by decide)) v3 w3,?_⟩;simp only[jk,e1,e4,e5,List.getElem?_cons_zero,List.getElem?_cons_succ,z6];rw[<-ji9];rfl
 .refine ⟨a4,s4,.mk [112] [t4],by omega,by omega,GT.one (by decide) v3,?_⟩;simp only[jk,e1,y0,y1,y2,y3,y4,e4,List.getElem?_cons_zero,List.getElem?_cons_succ,z6];rw[<-jp1];rfl
theorem jcd(a s:Int)(h0:0<=a)(h1:a<=999980000):LtD code 41 a (jjm (kP code) (vi a) (vu s)):=by
 obtain⟨a1,s1,b,q1,q2,e1⟩:=JA hb 2 (by decide) (by decide) a s h0 (by omega);obtain⟨a2,s2,t,r1,r2,r3,e2⟩:=jml hb a1 s1 (by omega) (by omega);refine⟨a2,s2,(b,t),by omega,by omega,r3,?_⟩;rw[jsT];simp only[jk,e1,e2,List.getElem?_cons_zero,List.getElem?_cons_succ,z6]
end
theorem YG(ls:List Lt)(l:Lt):zk (ls.map kq) [kq l]=(ls++[l]).map kq:=by rw[List.map_append];rfl
def LsD(code:Xi)(m q:Nat)(a:Int)(o:Xe):Prop:=∃a' s' ls,a<=a'/\a'<=a+(q:Nat)/\List.length ls<=m/\(∀l∈ls,LV l)/\o=some (.top,[kP code,vi a',vu s',.sl 3 (List.map kq ls)])
section
variable{code:Xi}(hb:By code)
include hb
theorem jk3:∀(k:Nat)(ls:List Lt),ls.length+k<=10->(∀l∈ls,LV l)-> ∀a s:Int,0<=a->a<=999970000-41*(k:Nat)->LsD code (ls.length+k+1) (41*k+2) a (Zq (vi (k:Nat)) (kP code) (vi a) (vu s) (ls.map kq)):=by
 intro k;induction k with
 |zero=>
  intro ls hl hls a s h0 h1;have hgt:¬(0:Int)<((0:Nat):Int):=by decide
  by_cases hp:0<ls.length
  .have hp':(0:Int)<((ls.length:Nat):Int):=by omega
   obtain⟨a1,s1,b,q1,q2,e1⟩:=JA hb 8 (by decide) (by decide) a s h0 (by omega);cases b with
   |false=>
    refine⟨a1,s1,ls,q1,by omega,by omega,hls,?_⟩;rw[ja6];simp only[jk,hgt,hp',e1,List.getElem?_cons_zero,List.getElem?_cons_succ]
   |true=>
    obtain⟨a2,s2,x,r1,r2,x0,x1,e2⟩:=zf hb ((ls.length:Nat):Int) (by omega) (by omega) a1 s1 (by omega) (by omega);obtain⟨i,rfl⟩:∃i:Nat,x=(i:Nat):=⟨x.toNat,by omega⟩;have hi:i<ls.length:=by omega
    have i1:pIx ls.length (vi ((i:Nat):Int))=some i:=K7 hi;have i2:=jko hi;have hv:=hls _ (List.getElem_mem hi);generalize ls[i]=y at i2 hv;have o1:=jno y.2 (by have:=hv.tsz;omega);have o1:G 100 [.agg [sv y.2.name,zR y.2.args]]=some (.agg [sv y.2.name,zR y.2.args],[]):=o1;have f1:ky (ls.length+1) 48=true:=jiF (by omega);refine⟨a2,s2,ls++[(!y.1,y.2)],by omega,by omega,by rw[List.length_append,List.length_singleton];omega,λl h=>?_,?_⟩
    .rcases List.mem_append.1 h with h|h
     .exact hls l h
     .rw [List.mem_singleton.1 h];exact hv
    rw[<-YG];rw[ja6];have i2:qt (ls.map kq) i 0 3=some (.agg [vb y.1,sv y.2.name,zR y.2.args]):=i2;have rl:jD (ls.map kq)=ls.length:=by unfold jD;exact List.length_map ..
    simp only[jk,hgt,hp',e1,e2,i1,i2,o1,List.getElem?_cons_zero,List.getElem?_cons_succ];generalize hB:yc _ _ _=B;have hB':B=some (.agg [vb (!y.1),sv y.2.name,zR y.2.args]):=by rw[<-hB];kernel_rfl
    rw[hB'];simp only[jk,f1]
  .have hp':¬(0:Int)<((ls.length:Nat):Int):=by omega
   refine⟨a,s,ls,by omega,by omega,by omega,hls,?_⟩;rw[ja6];simp only[jk,hgt,hp',List.getElem?_cons_zero,List.getElem?_cons_succ]
 |succ k ih=>
  intro ls hl hls a s h0 h1;have hgt:(0:Int)<((k+1:Nat):Int):=by omega
  have c1:ck (((k+1:Nat):Int)-1)=some (vi (k:Nat)):=by rw[show((k+1:Nat):Int)-1=(k:Nat) by omega];exact ko (by omega) (by omega)
  obtain⟨a1,s1,l,q1,q2,hv,e1⟩:=jcd hb a s h0 (by omega);have f1:ky (ls.length+1) 48=true:=jiF (by omega);obtain⟨a2,s2,us,r1,r2,r3,r4,e2⟩:=ih (ls++[l]) (by rw[List.length_append,List.length_singleton];omega) (λy h=>by
   rcases List.mem_append.1 h with h|h
   .exact hls y h
   .rw [List.mem_singleton.1 h];exact hv) a1 s1 (by omega) (by omega)
  rw[<-YG]at e2;rw[List.length_append,List.length_singleton]at r3;refine⟨a2,s2,us,by omega,by omega,by omega,r4,?_⟩;rw[ja6];have e2:Zq (vi (k:Nat)) (kP code) (vi a1) (vu s1) (zk (ls.map kq) [[vb l.1,sv l.2.name,zR l.2.args]])=_:=e2;simp only[jk,hgt,e1,f1,c1,e2,List.getElem?_cons_zero,List.getElem?_cons_succ,jo8]
theorem jgS(m:Nat)(hm:m<=9)(a s:Int)(h0:0<=a)(h1:a<=999960000):LsD code (m+1) 500 a (jjk (vi (m:Nat)) (kP code) (vi a) (vu s)):=by
 have c1:ck (((m:Nat):Int)+1)=some (vi ((m:Nat)+1)):=ko (by omega) (by omega);obtain⟨a1,s1,x,q1,q2,x0,x1,e1⟩:=zf hb (((m:Nat):Int)+1) (by omega) (by omega) a s h0 (by omega);obtain⟨k,rfl⟩:∃k:Nat,x=(k:Nat):=⟨x.toNat,by omega⟩;obtain⟨a2,s2,ls,r1,r2,r3,r4,e2⟩:=jk3 hb k [] (by rw[List.length_nil];omega) (λl h=>by cases h) a1 s1 (by omega) (by omega);rw[List.length_nil]at r3;refine⟨a2,s2,ls,by omega,by omega,by omega,r4,?_⟩;have e2:Zq (vi (k:Nat)) (kP code) (vi a1) (vu s1) []=_:=e2;rw[jsR];simp only[jk,c1,e1,e2,List.getElem?_cons_zero,List.getElem?_cons_succ]
end
inductive Hgt(s:kI):Nat->Eqs->Prop
 |nil (r:Nat):Hgt s r []
 |blk (r τ δ:Nat) (b es:Eqs):9*τ+(8-δ)<r->τ<=s.length+1->δ<=8->b.length<=4->(τ=s.length+1-> ∀p∈b,sub s p.1=p.1/\sub s p.2=p.2/\qx p.1<=δ/\qx p.2<=δ)->Hgt s (9*τ+(8-δ)) es->Hgt s r (b++es)
theorem Hgt.mono{s:kI}{r r':Nat}{es:Eqs}(h:Hgt s r es)(hr:r<=r'):Hgt s r' es:=by
 induction h with
 |nil=>exact Hgt.nil _
 |blk r τ δ b es h1 h2 h3 h4 h5 h6 _=>exact Hgt.blk r' τ δ b es (by omega) h2 h3 h4 h5 h6
abbrev ec(p:T×T):Xd:=[sv p.1.name,zR p.1.args,sv p.2.name,zR p.2.args]
def LN(l:kA):Prop:=l.length<=40/\ ∀x∈l,Bx x.2/\nodes x.2<=100
theorem LN.app{s:kI}(hs:ql s=true){l:kA}(h:LN l):∀x∈l.map (λx=>(x.1,Go.Proofs.YteoaojbmnibpcaaGreatDoor.sub s x.2)),Bx x.2/\Tz x.2:=λx hx=>by
 obtain⟨y,hy,rfl⟩:=List.mem_map.1 hx;have hb:=(h.2 y hy).1;exact⟨hb.sub hs,AxT.sub_tz hs hb.ax (by have:=(h.2 y hy).2;omega)⟩
def jwq(f g:FuncId)(args:Xd):Prop:=∃r:Option kA,G f args=jpB r/\G g args=jpB r/\ ∀x,r=some x->jbb x=true
def jw5(c:kA)(i:Int):Bool:=KB 0 (((c.length:Nat):Int)-1) i
noncomputable def rwL(rs:Xg):kA->Option kA
 | []=>some []
 |x::r=>(match rwN rs false 51 0 x.2 with
  |none=>none
  |some q=>(rwL rs r).map ((x.1,q.1)::·))
noncomputable def jwD(rs:Xg)(R:kA)(l:kA):Option kA:=(rwL rs l).bind λr=>jvI [] (R++r)
structure Mdl where
 M:Xb->Xi->Int
 Q:Xb->Xi->Bool
 good:Int->Prop
 ok:∀n vs,good (M n vs)
def jtc(m:Mdl)(e:Xb->Int)(t:T):Bool:=if t.name=[61]/\t.args.length=2 then decide (val m.M e (jit t)=val m.M e (jiU t))else m.Q t.name (t.args.map (val m.M e))
def clV(m:Mdl)(e:Xb->Int)(c:kA):Prop:=∃l∈c,jtc m e l.2=l.1
def jss(m:Mdl)(e:Xb->Int):Prop:=∀x,m.good (e x)
def trM(m:Mdl)(c:kA):Prop:=∀e,jss m e->clV m e c
def Sd(ps:List kA)(x:kA):Prop:=∀m:Mdl,(∀c∈ps,trM m c)->trM m x
section
variable(m:Mdl)
variable{m}
end
def jwu(M:Xb->Xi->Int)(e:Xb->Int)(s:kI):Prop:=∀q∈s,e q.1=val M e q.2
section
variable{M:Xb->Xi->Int}{e:Xb->Int}
end
def jvQ(ps:List kA)(f g:FuncId)(args:Xd):Prop:=∃r:Option kA,G f args=jpB r/\G g args=jpB r/\ ∀x,r=some x->jbb x=true/\Sd ps x
def Cz(c:kA):Prop:=c.length<=1048576/\ ∀l∈c,Tz l.2
noncomputable def wfP(p:Prf):Bool:=decide (p.ax.length<=30) && p.ax.all jbb && decide (p.st.length<=60)
noncomputable def jvw(out:List kA)(r:kA):Bool:=out.any λx=>dq x r
noncomputable def juB(out:List kA)(r:kA):List kA:=if jvw out r then out else out++[r]
noncomputable def jt1:List kA->List kA->List kA
 |out,[]=>out
 |out,r::l=>jt1 (juB out r) l
def jtK(R:Nat->Option kA):Nat->Nat->List kA
 |0,_=>[]
 |j+1,k=>(R k).toList++jtK R j (k+1)
def jtM(R:Nat->Nat->Option kA)(m:Nat):Nat->Nat->List kA
 |0,_=>[]
 |j+1,i=>jtK (R i) m 0++jtM R m j (i+1)
theorem CN.cz{c:kA}(h:CN c):Cz c:=⟨by have:=h.1;omega,h.tz⟩
theorem jfi(l:List Lt)(hl:l.length<=1000)(hz:∀x∈l,Tz x.2)(i:Nat)(hi:i<l.length)(u:List Lt)(hu:u.length<=1000)(hzu:∀x∈u,Tz x.2):∀k,k<=u.length->(∀j,(h:j<k)-> ∀h':j<u.length,cmpL u[j] l[i]<0)->
  jaZ (vi (i:Nat)) (vi (k:Nat)) (l.map kq) (u.map kq) []=Zp (vi ((i+1:Nat):Int)) (l.map kq) ((KF cmpL u l[i]).map kq) []:=by
 have xi:pIx l.length (vi (i:Nat))=some i:=K7 hi;have ri:=jko hi;have rp:jat (l.map kq) i 0=some (vb l[i].1):=by unfold jat;simp[hi,kq]
 have rn:qt (l.map kq) i 1 2=some (tm l[i].2):=by unfold qt;simp[hi,kq]
 have e2:=jno l[i].2 (hz _ (List.getElem_mem _));have hck:ck ((i:Int)+1)=some (vi ((i+1:Nat):Int)):=ko (by omega) (by omega);refine upto ?_ ?_
 .intro hall;obtain⟨t1,t2⟩:=jqZ (p:=λa=>decide (cmpL a l[i]<0)) (Nat.le_refl u.length) (λj h h'=>decide_eq_true (hall j h h')) (Or.inr rfl);obtain⟨k1,k2,k3,k4,k5,k6,k7,k8,k9⟩:=jjS u (by omega) u.length (Nat.le_refl _) l[i];have hins:KF cmpL u l[i]=u.take u.length++l[i]::u.drop u.length:=by
   unfold KF;rw[t1,t2,List.drop_length,if_neg (by simp)]
  have nlt:¬((u.length:Nat):Int)<((u.length:Nat):Int):=by omega
  rw[hins,jj0];simp only[jk,nlt,xi,ri,rp,rn,e2];generalize hB:yc _ _ _=B;have hB':B=some (ltm l[i]):=by rw[<-hB];kernel_rfl
  rw[hB'];simp only[jk,k1,k2,k4,k5];rw[if_pos k3,if_pos k7,k6,if_pos k8,hck,Option.bind_some,k9]
 .intro k hk ih hall;have hlt:((k:Nat):Int)<((u.length:Nat):Int):=by omega
  have x1:pIx u.length (vi (k:Nat))=some k:=K7 hk;have r1:=jko hk;have e1:=Z2 u[k] l[i] (hzu _ (List.getElem_mem _)) (hz _ (List.getElem_mem _));rw[jj0];by_cases hc:cmpL u[k] l[i]<0
  .have ih:=ih λj h h'=>by
    by_cases hj:j=k
    .subst hj;exact hc
    .exact hall j (by omega) h'
   have hk1:ck ((k:Int)+1)=some (vi ((k+1:Nat):Int)):=ko (by omega) (by omega);generalize cmpL u[k] l[i]=d at *;simp only[jk,hlt,x1,r1,xi,ri,e1,hc,hk1];exact ih
  .obtain ⟨t1,t2⟩:=jqZ (p:=λa=>decide (cmpL a l[i]<0)) (Nat.le_of_lt hk) (λj h h'=>decide_eq_true (hall j h h')) (Or.inl ⟨hk,decide_eq_false hc⟩);have hins:KF cmpL u l[i]=if cmpL u[k] l[i]=0 then u else u.take k++l[i]::u.drop k:=by
    unfold KF;rw[t1,t2,jL hk];by_cases h0:cmpL u[k] l[i]=0
    .rw [if_pos h0];exact if_pos (decide_eq_true h0)
    .rw [if_neg h0];exact if_neg (λe=>h0 (of_decide_eq_true e))
   rw[hins];by_cases h0:cmpL u[k] l[i]=0
   .rw [if_pos h0];rw[h0]at e1;simp only[jk,hlt,x1,r1,xi,ri,e1,hck]
   .obtain ⟨k1,k2,k3,k4,k5,k6,k7,k8,k9⟩:=jjS u (by omega) k (Nat.le_of_lt hk) l[i];rw[if_neg h0];generalize cmpL u[k] l[i]=d at *;simp only[jk,hlt,x1,r1,xi,ri,e1,hc,h0,rp,rn,e2];generalize hB:yc _ _ _=B;have hB':B=some (ltm l[i]):=by rw[<-hB];kernel_rfl
    rw[hB'];simp only[jk,k1,k2,k4,k5];rw[if_pos k3,if_pos k7,k6,if_pos k8,hck,Option.bind_some,k9]
theorem jis(l:List Lt)(hl:l.length<=900)(hz:∀x∈l,Tz x.2):jl5 (l.map kq)=some (.top,[.sl 3 ((KC cmpL l).map kq)]):=by
 have key:=upto (P:=λi=>∀u:List Lt,Asc cmpL u->u.length<=i->(∀x∈u,Tz x.2)->Zp (vi (i:Nat)) (l.map kq) (u.map kq) []=some (.top,[.sl 3 (((l.drop i).foldl (KF cmpL) u).map kq)])) (n:=l.length) ?_ ?_ 0 (Nat.zero_le _) [] List.Pairwise.nil (Nat.le_refl _) (λx h=>by cases h)
 .rw [List.drop_zero]at key;simp only[Int.natCast_zero,List.map_nil]at key;rw[jsQ,key];rfl
 .intro u _ _ _;have nlt:¬((l.length:Nat):Int)<((l.length:Nat):Int):=by omega
  rw[jjZ,List.drop_length];simp only[jk,nlt];rfl
 .intro i hi ih u ha hu hzu;have hlt:(i:Int)<((l.length:Nat):Int):=by omega
  have:=jfi l (by omega) hz i hi u (by omega) hzu 0 (Nat.zero_le _) (λj h=>absurd h (Nat.not_lt_zero _));simp only[Int.natCast_zero]at this;have h2:=ih (KF cmpL u l[i]) (jbU KS ha l[i]).1 (by have:=jgx cmpL u l[i];omega) λx hx=>by
   rcases(jmO ha l[i]).1 hx with h|h
   .exact hzu x h
   .rw [h];exact hz _ (List.getElem_mem _)
  rw[jjZ,jL hi,List.foldl_cons];simp only[jk,hlt,this,h2]
def Cq(c:kA):Prop:=c.length<=12/\ ∀l∈c,tsz l.2<=1000
theorem Cq.cz{c:kA}(h:Cq c):Cz c:=⟨by have:=h.1;omega,λl hl=>by have:=h.2 l hl;unfold Tz;omega⟩
theorem jru{c:kA}(h:CN c):∀l∈c,tsz l.2<=300:=λl hl=>by have:=(h.2 l hl).1.tsz;have:=(h.2 l hl).2;omega
theorem CN.cq{c:kA}(h:CN c):Cq c:=⟨by have:=h.1;omega,λl hl=>by have:=jru h l hl;omega⟩
def RwD(code:Xi)(q:Nat)(a:Int)(o:Xe):Prop:=∃a' s' c,a<=a'/\a'<=a+(q:Nat)/\(List.length c<=5/\Asc cmpL c/\ ∀l∈c,LV l)/\o=some (.top,[kP code,vi a',vu s',.sl 3 (List.map kq c)])
def CqD(code:Xi)(q:Nat)(a:Int)(o:Xe):Prop:=∃a' s' c,a<=a'/\a'<=a+(q:Nat)/\Cq c/\o=some (.top,[kP code,vi a',vu s',cm c])
def CqN(code:Xi)(q:Nat)(a:Int)(o:Xe):Prop:=∃a' s' c,a<=a'/\a'<=a+(q:Nat)/\(List.length c<=12/\ ∀l∈c,tsz (Prod.snd l)<=1000/\Yl (Prod.snd l)=true)/\o=some (.top,[kP code,vi a',vu s',cm c])
theorem CqN.cq{code:Xi}{q:Nat}{a:Int}{o:Xe}(h:CqN code q a o):CqD code q a o:=by
 obtain⟨a',s',c,h1,h2,h3,h4⟩:=h;exact⟨a',s',c,h1,h2,⟨h3.1,λl hl=>(h3.2 l hl).1⟩,h4⟩
def CnD(code:Xi)(q:Nat)(a:Int)(o:Xe):Prop:=∃a' s' c,a<=a'/\a'<=a+(q:Nat)/\CN c/\o=some (.top,[kP code,vi a',vu s',cm c])
theorem jtl{c:kA}(h1:c.length<=5)(h2:∀l∈c,LV l):CN c:=⟨by omega,λl hl=>⟨(h2 l hl).1,by have:=(h2 l hl).2;omega⟩⟩
theorem KX(a x0 x1 x2:A)(xs:Xc)(l:Xd):hR 3 (a,x0::x1::x2:: .sl 3 xs::l) 3=some xs:=by simp[hR]
section
variable{code:Xi}(hb:By code)
include hb
theorem jbB(a s:Int)(h0:0<=a)(h1:a<=999950000):RwD code 500 a (jjh (kP code) (vi a) (vu s)):=by
 obtain⟨a1,s1,ls,q1,q2,hl,hv,e1⟩:=jgS hb 4 (by decide) a s h0 (by omega);have e1:jjk (vi 4) (kP code) (vi a) (vu s)=_:=e1;have e2:=jis ls (by omega) (λx hx=>(hv x hx).tz);have hm:=jdW cmpL ls;refine⟨a1,s1,KC cmpL ls,q1,q2,⟨by omega,(jdV KS ls).1,λl h=>hv l (jdX.1 h)⟩,?_⟩;rw[jsL];simp only[jk,e1,KX,e2,List.getElem?_cons_zero,List.getElem?_cons_succ]
theorem jbs(a s:Int)(h0:0<=a)(h1:a<=999950000):∃a' s' l,a<=a'/\a'<=a+1300/\(tsz (Prod.snd l)<=1000/\Yl (Prod.snd l)=true)/\jji (kP code) (vi a) (vu s)=some (.top,[kP code,vi a',vu s',ltm l]):=by
 obtain⟨a1,s1,l,q1,q2,hv,e1⟩:=jcd hb a s h0 (by omega);obtain⟨a2,s2,x,r1,r2,x0,x1,e2⟩:=zf hb 16 (by decide) (by decide) a1 s1 (by omega) (by omega);have hz:=hv.tsz;rw[jsO];by_cases y0:x=0
 .subst y0;obtain⟨a3,s3,t3,u1,u2,u3,e3⟩:=jh2 hb a2 s2 (by omega) (by omega);refine⟨a3,s3,(l.1,t3),by omega,by omega,u3,?_⟩;simp only[jk,e1,e2,e3,List.getElem?_cons_zero,List.getElem?_cons_succ,jo8]
 by_cases y1:x=1
 .subst y1;obtain⟨a3,s3,t3,u1,u2,u3,e3⟩:=Qt hb a2 s2 (by omega) (by omega);have hargs:l.2.args.length<=1000:=by have:=kU l.2;omega
  have hf:ky (l.2.args.length+1) 40=true:=jlk (by omega);have hsz:∀us:Xg,kM (us++[t3])=kM us+tsz t3:=by
   intro us;induction us with
   |nil=>simp[kM]
   |cons u us ih=>simp only[List.cons_append,kM];omega
  have hq:=kU l.2;refine⟨a3,s3,(l.1,.mk l.2.name (l.2.args++[t3])),by omega,by omega,⟨by show tsz (.mk _ _)<=1000;rw[zp,hsz,List.length_append,List.length_singleton];omega,jg3 (nmN hv.2.2) (by rw[jck,nmA hv.2.2,Jk,u3.2];rfl)⟩,?_⟩;simp only[jk,e1,e2,e3,hf,List.length_map,List.getElem?_cons_zero,List.getElem?_cons_succ,jo8,z6];show _=some (A.top,[kP code,vi a3,vu s3,A.agg [vb l.1,sv l.2.name,.sl 2 ((l.2.args++[t3]).map jl)]]);rw[List.map_append,List.map_cons,jI t3];rfl
 .refine ⟨a2,s2,l,by omega,by omega,⟨by omega,hv.2.2⟩,?_⟩;simp only[jk,e1,e2,y0,y1,List.getElem?_cons_zero,List.getElem?_cons_succ,jo8]
theorem jiv:∀(k i:Nat),i+k=9-> ∀(c:kA),c.length=i->(∀l∈c,tsz l.2<=1000/\Yl l.2=true)-> ∀a s:Int,0<=a->a<=999980000-10*(k:Nat)->CqN code (2*k+2) a (Zo (vi (i:Nat)) (kP code) (vi a) (vu s) (c.map kq) []):=by
 intro k;induction k with
 |zero=>
  intro i hi c hc hz a s h0 h1;obtain⟨a1,s1,x,q1,q2,x0,x1,e1⟩:=zf hb 2 (by decide) (by decide) a s h0 (by omega);have c1:ck (8+x)=some (vi (8+x)):=ko (by omega) (by omega);have nlt:¬((i:Nat):Int)<8+x:=by omega
  refine⟨a1,s1,c,q1,by omega,⟨by omega,hz⟩,?_⟩;rw[jff];simp only[jk,e1,c1,nlt,List.getElem?_cons_zero,List.getElem?_cons_succ]
 |succ k ih=>
  intro i hi c hc hz a s h0 h1;obtain⟨a1,s1,x,q1,q2,x0,x1,e1⟩:=zf hb 2 (by decide) (by decide) a s h0 (by omega);have c1:ck (8+x)=some (vi (8+x)):=ko (by omega) (by omega);by_cases hlt:((i:Nat):Int)<8+x
  .have n1:=jm3 i (by omega);have hd:=(qy 6 i (by omega)).2;have a2:jx .add false (sv [112]) (sv (Lib.decDigits i))=some (sv ([112]++Lib.decDigits i)):=by rw[QT,if_pos (by simp only[List.length_cons,List.length_nil];omega)]
   obtain⟨a3,s3,w,hw,r1,r2,e3⟩:=ja8 hb [[88],[89]] (by decide) (by decide) (by decide) a1 s1 (by omega) (by omega);have e3:yV (kP code) (vi a1) (vu s1) [[sv [88]],[sv [89]]]=some (.top,[kP code,vi a3,vu s3,sv w]):=e3;have f1:ky (c.length+1) 48=true:=jiF (by omega);have c5:ck ((i:Int)+1)=some (vi ((i+1:Nat):Int)):=ko (by omega) (by omega);obtain⟨a4,s4,c',v1,v2,v3,e4⟩:=ih (i+1) (by omega) (c++[(true,.mk ([112]++Lib.decDigits i) [.mk w []])]) (by rw[List.length_append,List.length_singleton];omega) (λl h=>by
    rcases List.mem_append.1 h with h|h
    .exact hz l h
    .rw [List.mem_singleton.1 h];refine⟨?_,nm1 rfl (nm0 hw.2)⟩;show tsz (.mk _ _)<=1000;rw[zp];simp only[List.length_append,List.length_cons,List.length_nil,kM,zp];omega) a3 s3 (by omega) (by omega)
   refine⟨a4,s4,c',by omega,by omega,v3,?_⟩;rw[<-YG]at e4;have e4:Zo (vi ((i+1:Nat):Int)) (kP code) (vi a3) (vu s3) (zk (c.map kq) [[vb true,sv ([112]++Lib.decDigits i),.sl 2 [[sv w,.sl 2 []]]]]) []=_:=e4;rw[jff];generalize [112]++Lib.decDigits i=nm at *;simp only[jk,e1,c1,hlt,n1,a2,e3,f1,c5,e4,List.getElem?_cons_zero,List.getElem?_cons_succ]
  .refine ⟨a1,s1,c,q1,by omega,⟨by omega,hz⟩,?_⟩;rw[jff];simp only[jk,e1,c1,hlt,List.getElem?_cons_zero,List.getElem?_cons_succ]
theorem jde(a s:Int)(h0:0<=a)(h1:a<=999940000):CqN code 2000 a (jjg (kP code) (vi a) (vu s)):=by
 obtain⟨a1,s1,c,q1,q2,⟨hl,ha,hv⟩,e1⟩:=jbB hb a s h0 (by omega);obtain⟨a2,s2,x,r1,r2,x0,x1,e2⟩:=zf hb 20 (by decide) (by decide) a1 s1 (by omega) (by omega);have hz:∀l∈c,tsz l.2<=1000/\Yl l.2=true:=λl h=>⟨by have:=(hv l h).tsz;omega,(hv l h).2.2⟩;have hq:List.length c<=12/\ ∀l∈c,tsz (Prod.snd l)<=1000/\Yl (Prod.snd l)=true:=⟨by omega,hz⟩;have f1:ky (c.length+1) 48=true:=jiF (by omega);rw[jsK];by_cases y0:x=0
 .subst y0;obtain⟨a3,s3,l,u1,u2,u3,e3⟩:=jbs hb a2 s2 (by omega) (by omega);refine⟨a3,s3,c++[l],by omega,by omega,⟨by rw[List.length_append,List.length_singleton];omega,λy h=>by
   rcases List.mem_append.1 h with h|h
   .exact hz y h
   .rw [List.mem_singleton.1 h];exact u3⟩,?_⟩
  have e3:jji (kP code) (vi a2) (vu s2)=some (.top,[kP code,vi a3,vu s3,.agg [vb l.1,sv l.2.name,zR l.2.args]]):=e3;show _=some (A.top,[kP code,vi a3,vu s3,.agg [.sl 3 ((c++[l]).map kq)]]);rw[<-YG];simp only[jk,e1,e2,e3,KX,f1,List.getElem?_cons_zero,List.getElem?_cons_succ]
 by_cases y1:x=1
 .subst y1;by_cases hg:(1:Int)<((c.length:Nat):Int)
  .obtain ⟨l0,l1,r,rfl⟩:∃l0 l1 r,c=l0::l1::r:=by
    match c,hg with
    |l0::l1::r,_=>exact⟨l0,l1,r,rfl⟩
    | [],h=>simp at h
    | [x],h=>simp at h
   refine⟨a2,s2,l1::l0::r,by omega,by omega,⟨by simp only[List.length_cons]at hl⊢;omega,λy h=>hz y (by
    simp only[List.mem_cons]at h⊢;rcases h with h|h|h
    .exact Or.inr (Or.inl h)
    .exact Or.inl h
    .exact Or.inr (Or.inr h))⟩,?_⟩
   have i0:pIx ((l0::l1::r).map kq).length (vi 0)=some 0:=jrU (f:=kq) (xs:=l0::l1::r) (i:=0) (by simp);have i1:pIx ((l0::l1::r).map kq).length (vi 1)=some 1:=jrU (f:=kq) (xs:=l0::l1::r) (i:=1) (by simp);have j1:pIx ((l1::l1::r).map kq).length (vi 1)=some 1:=jrU (f:=kq) (xs:=l1::l1::r) (i:=1) (by simp);have r0:qt ((l0::l1::r).map kq) 0 0 3=some (.agg [vb l0.1,sv l0.2.name,zR l0.2.args]):=rfl;have r1:qt ((l0::l1::r).map kq) 1 0 3=some (.agg [vb l1.1,sv l1.2.name,zR l1.2.args]):=rfl;have g0:QX ((l0::l1::r).map kq) 0=some (kq l0):=rfl;have s0:Zc ((l0::l1::r).map kq) 0 (qp (kq l0) 0 [vb l1.1,sv l1.2.name,zR l1.2.args])=(l1::l1::r).map kq:=rfl;have g1:QX ((l1::l1::r).map kq) 1=some (kq l1):=rfl;have s1':Zc ((l1::l1::r).map kq) 1 (qp (kq l1) 0 [vb l0.1,sv l0.2.name,zR l0.2.args])=(l1::l0::r).map kq:=rfl;have hg:(1:Int)<((((l0::l1::r).map kq).length:Nat):Int):=by rw[List.length_map];exact hg
   have n0:jx .eql false (vi 1) (vi 0)=some (vb false):=rfl;show _=some (A.top,[kP code,vi a2,vu s2,.agg [.sl 3 ((l1::l0::r).map kq)]]);rw[<-s1'];generalize (l0::l1::r).map kq=X at *;generalize (l1::l1::r).map kq=Y at *;simp only[jk,e1,e2,y0,KX,hg,i0,r0,i1,r1,g0,s0,j1,g1,List.getElem?_cons_zero,List.getElem?_cons_succ]
  .refine ⟨a2,s2,c,by omega,by omega,hq,?_⟩;simp only[jk,e1,e2,y0,hg,KX,List.getElem?_cons_zero,List.getElem?_cons_succ]
 by_cases y2:x=2
 .subst y2;obtain⟨a3,s3,c',u1,u2,u3,e3⟩:=jiv hb 9 0 (by decide) [] rfl (λl h=>by cases h) a2 s2 (by omega) (by omega);have e3:Zo (vi 0) (kP code) (vi a2) (vu s2) [] []=_:=e3;refine⟨a3,s3,c',by omega,by omega,u3,?_⟩;simp only[jk,e1,e2,y0,y1,e3,KX,List.getElem?_cons_zero,List.getElem?_cons_succ]
 by_cases y3:x=3
 .subst y3;by_cases hg:(0:Int)<((c.length:Nat):Int)
  .have hi:c.length-1<c.length:=by omega
   have c1:ck (((c.length:Nat):Int)-1)=some (vi ((c.length-1:Nat):Int)):=by rw[show((c.length:Nat):Int)-1=((c.length-1:Nat):Int) by omega];exact ko (by omega) (by omega)
   have i1:pIx c.length (vi ((c.length-1:Nat):Int))=some (c.length-1):=K7 hi;have r1:=jko hi;have hzl:=hz _ (List.getElem_mem hi);generalize c[c.length-1]=l at r1 hzl;have r1:qt (c.map kq) (c.length-1) 0 3=some (.agg [vb l.1,sv l.2.name,zR l.2.args]):=r1;refine⟨a2,s2,c++[l],by omega,by omega,⟨by rw[List.length_append,List.length_singleton];omega,λy h=>by
    rcases List.mem_append.1 h with h|h
    .exact hz y h
    .rw [List.mem_singleton.1 h];exact hzl⟩,?_⟩
   show _=some (A.top,[kP code,vi a2,vu s2,.agg [.sl 3 ((c++[l]).map kq)]]);rw[<-YG];simp only[jk,e1,e2,y0,y1,y2,KX,hg,c1,i1,r1,f1,List.getElem?_cons_zero,List.getElem?_cons_succ]
  .refine ⟨a2,s2,c,by omega,by omega,hq,?_⟩;simp only[jk,e1,e2,y0,y1,y2,hg,KX,List.getElem?_cons_zero,List.getElem?_cons_succ]
 .refine ⟨a2,s2,c,by omega,by omega,hq,?_⟩;simp only[jk,e1,e2,y0,y1,y2,y3,KX,List.getElem?_cons_zero,List.getElem?_cons_succ]
theorem jdd(a s:Int)(h0:0<=a)(h1:a<=999940000):CqD code 2000 a (jjg (kP code) (vi a) (vu s)):=(jde hb a s h0 h1).cq
end
theorem joB(code:Xi):G 5 [kP code]=some (vb (decide (65536<((code.length:Nat):Int))),[]):=by
 rw[g5];simp only[jk]
theorem jn0(d:kA)(hd:CN d):G 10 [cm d,cm d]=some (vb true,[]):=by
 have key:=upto (n:=d.length) (P:=λi=>jjn (vi (i:Nat)) (.sl 3 (d.map kq)) (.sl 3 (d.map kq))=some (vb true,[])) ?_ ?_ 0 (Nat.zero_le _)
 .simp only[Int.natCast_zero]at key;rw[g10];simp only[jk,key]
 .have nlt:¬((d.length:Nat):Int)<((d.length:Nat):Int):=by omega
  rw[jqu];simp only[jk,nlt]
 .intro i hi ih;have hlt:(i:Int)<((d.length:Nat):Int):=by omega
  have h5:=j6 hi (by have:=hd.1;show d.length<=9223372036854775807;omega)
  have x1:js 3 (.sl 3 (d.map kq)) (vi (i:Nat))=some (.elt (kq d[i]) 0):=jf hi;have ht:=(hd.tz _ (List.getElem_mem hi)).wf;generalize d[i]=x at x1 ht;have y0:jaT (.elt (kq x) 0) 0=some (.elt (kq x) 0):=rfl;have y1:Km (.elt (kq x) 0)=some (vb x.1):=rfl;have y2:jaT (.elt (kq x) 0) 1=some (.elt (kq x) 1):=rfl;have y3:kR 2 (.elt (kq x) 1)=some (tm x.2):=rfl;have e1:=jlY x.2 ht x.2 ht;rw[jeX]at e1;rw[jqu];simp only[jk,hlt,x1,y0,y1,y2,y3,e1,h5,ih]
section
variable{code:Xi}(hb:By code)
include hb
theorem jhb(n:Int)(hn:1<=n)(hn':n<=1000000)(a s:Int)(h0:0<=a)(h1:a<=999999999):∃a' s' x,a<=a'/\a'<=a+2/\0<=x/\x<n/\yz (vi n) (kP code) (vi a) (vu s)=some (.top,[kP code,vi a',vu s',vi x]):=by
 by_cases hs:n<=200
 .obtain ⟨a',s',x,q1,q2,q3⟩:=zf hb n hn hs a s h0 (by omega);exact⟨a',s',x,q1,by omega,q3⟩
 .obtain ⟨s1,x,x0,x1,e1⟩:=jfp hb a s h0 (by omega);obtain⟨s2,y,y0,y1,e2⟩:=jfp hb (a+1) s1 (by omega) (by omega);have g1:¬n<=1:=by omega
  have g2:(200:Int)<n:=by omega
  have c1:ck (x*256)=some (vi (x*256)):=ko (by omega) (by omega);have c2:ck (x*256+y)=some (vi (x*256+y)):=ko (by omega) (by omega);have e3:=jty (x:=x*256+y) (by omega) hn;refine⟨a+1+1,s2,(x*256+y) % n,by omega,by omega,Int.emod_nonneg _ (by omega),Int.emod_lt_of_pos _ (by omega),?_⟩;rw[jqh];simp only[jk,g1,g2,e1,e2,c1,c2,e3,List.getElem?_cons_zero,List.getElem?_cons_succ]
theorem jlL(t wi:Xb)(ht:t.length<=900000)(hw:1<=wi.length)(hw':wi.length<=200)(a s:Int)(h0:0<=a)(h1:a<=999990000):∃a' s' u,List.length u<=t.length+1/\jl3 (sv t) (sv wi) (kP code) (vi a) (vu s)=some (.top,[kP code,vi a',vu s',sv u]):=by
 rw[jsM];by_cases hn:t=[]
 .have s1:jU (sv wi) none (some (vi 1))=some (sv (wi.take 1)):=jlH hw;refine⟨a,s,wi.take 1,by rw[List.length_take];omega,?_⟩;simp only[jk,hn,s1]
 .have hl:0<t.length:=by cases t with|nil=>exact absurd rfl hn|cons=>simp
  obtain⟨a1,s1,x,q1,q2,x0,x1,e1⟩:=jhb hb ((t.length:Nat):Int) (by omega) (by omega) a s h0 (by omega);obtain⟨i,rfl⟩:∃i:Nat,x=(i:Nat):=⟨x.toNat,by omega⟩;obtain⟨a2,s2,y,r1,r2,y0,y1,e2⟩:=jhb hb ((wi.length:Nat):Int) (by omega) (by omega) a1 s1 (by omega) (by omega);obtain⟨j,rfl⟩:∃j:Nat,y=(j:Nat):=⟨y.toNat,by omega⟩;obtain⟨a3,s3,z,u1,u2,z0,z1,e3⟩:=zf hb 3 (by decide) (by decide) a2 s2 (by omega) (by omega);have t1:=jiY (s:=wi) (a:=j) (by omega);have t2:jU (sv (wi.drop j)) none (some (vi 1))=some (sv ((wi.drop j).take 1)):=jlH (s:=wi.drop j) (b:=1) (by rw[List.length_drop];omega);have wl:((wi.drop j).take 1).length<=1:=by rw[List.length_take];omega
  generalize (wi.drop j).take 1=w at *;have k1:=jlH (s:=t) (b:=i) (by omega);have k2:=jiY (s:=t) (a:=i) (by omega);have k3:=jiY (s:=t) (a:=i+1) (by omega);have k4:jx .add false (vi (i:Nat)) (vi 1)=some (vi ((i+1:Nat):Int)):=jbo 1 (by omega);have l1:(t.take i).length=i:=by rw[List.length_take];omega
  have l2:(t.drop i).length=t.length-i:=List.length_drop;have l3:(t.drop (i+1)).length=t.length-(i+1):=List.length_drop;generalize t.take i=A at *;generalize t.drop i=B at *;generalize t.drop (i+1)=C at *;have m1:=JE false (x:=A) (y:=w) (by omega);have m2:=JE false (x:=A++w) (y:=B) (by rw[List.length_append];omega);have m3:=JE false (x:=A++w) (y:=C) (by rw[List.length_append];omega);have m4:=JE false (x:=A) (y:=C) (by omega);by_cases g0:z=0
  .refine ⟨a3,s3,A++w++B,by simp only[List.length_append];omega,?_⟩
   simp only[jk,hn,e1,e2,t1,t2,e3,g0,k1,k2,m1,m2,List.getElem?_cons_zero,List.getElem?_cons_succ]
  by_cases g1:z=1
  .refine ⟨a3,s3,A++w++C,by simp only[List.length_append];omega,?_⟩
   simp only[jk,hn,e1,e2,t1,t2,e3,g1,k1,k3,k4,m1,m3,show ¬(1:Int)=0 by decide,List.getElem?_cons_zero,List.getElem?_cons_succ]
  .refine ⟨a3,s3,A++C,by simp only[List.length_append];omega,?_⟩
   simp only[jk,hn,e1,e2,t1,t2,e3,g0,g1,k1,k3,k4,m4,List.getElem?_cons_zero,List.getElem?_cons_succ]
theorem jgi:∃u:Xb,u.length<=50000/\G 11 [kP code]=some (sv u,[]):=by
 obtain⟨a1,s1,c,q1,q2,⟨hl,ha,hv⟩,e1⟩:=jbB hb 0 0 (by decide) (by decide);have hcn:=jtl hl hv;have e2:=jgO hcn;have hlen:=jmJ hcn;obtain⟨a2,s2,x,r1,r2,x0,x1,e3⟩:=zf hb 6 (by decide) (by decide) a1 s1 (by omega) (by omega);have okb:jO (kP code)=true:=rfl;have e2:G 25 [.agg [.sl 3 (c.map kq)]]=some (sv (fmtC c),[]):=e2;rw[g11];generalize fmtC c=t at *;by_cases g0:x=0
 .obtain ⟨a3,s3,u,u1,e4⟩:=jlL hb t [97,88,102,40,41,44,61,32,126,124,49,95,33,36] (by omega) (by decide) (by decide) a2 s2 (by omega) (by omega);refine⟨u,by omega,?_⟩;simp only[jk,okb,e1,KX,e2,jbM,e3,g0,e4,List.getElem?_cons_zero,List.getElem?_cons_succ]
 by_cases g1:x=1
 .obtain ⟨a3,s3,w,hw,u1,u2,e4⟩:=jg5 hb [[32,124,32,112,40,97,41],[32,124,32],[124],[32,124,32,36,102,97,108,115,101],[]] (by decide) (by decide) a2 s2 (by omega) (by omega);have hwl:w.length<=9:=(show ∀w ∈ [[32,124,32,112,40,97,41],[32,124,32],[124],[32,124,32,36,102,97,108,115,101],([]:Xb)],w.length<=9 by decide) w hw;have e4:yV (kP code) (vi a2) (vu s2) [[sv [32,124,32,112,40,97,41]],[sv [32,124,32]],[sv [124]],[sv [32,124,32,36,102,97,108,115,101]],[sv []]]=_:=e4;have m1:=JE false (x:=t) (y:=w) (by omega);refine⟨t++w,by rw[List.length_append];omega,?_⟩;simp only[jk,okb,e1,KX,e2,jbM,e3,g1,e4,m1,show ¬(1:Int)=0 by decide,List.getElem?_cons_zero,List.getElem?_cons_succ]
 .refine ⟨t,by omega,?_⟩;simp only[jk,okb,e1,KX,e2,jbM,e3,g0,g1,List.getElem?_cons_zero,List.getElem?_cons_succ]
theorem jdh:∃c,Cq c/\G 6 [kP code]=some (cm c,[]):=by
 obtain⟨a1,s1,c,q1,q2,hc,e1⟩:=jdd hb 0 0 (by decide) (by decide);have okb:jO (kP code)=true:=rfl;refine⟨c,hc,?_⟩;rw[g6];simp only[jk,okb,e1,List.getElem?_cons_zero,List.getElem?_cons_succ]
end
theorem jcb(code:Xi)(hp:(∀n∈code,0<=n/\n<=255)/\code.length<=9223372036854775807):G 3 [kP code]=some (vb true,[]):=by
 have e0:=joB code;rw[g3];by_cases hbig:65536<((code.length:Nat):Int)
 .simp only[jk,e0,hbig]
 .have hb:By code:=⟨hp.1,by omega⟩;obtain⟨c,hq,e1⟩:=jdh hb;obtain⟨u,hu,e2⟩:=jgi hb;have hcz:∀l∈c,Tz l.2:=λl hl=>by have:=hq.2 l hl;unfold Tz;omega
  have hcl:c.length<=1048576:=by have:=hq.1;omega
  have f1:=qf hcl hcz;have v1:G 9 [cm c]=some (vb (kh c),[]):=by
   have:=jdR c hcl hcz;rw[g9];simp only[jk,this]
  have p2:=Kf (s:=u) (by omega);have w2:=jfL (s:=u) (by omega);rw[jjE]at p2;have f2:∀d,clF zw u=some d->G 7 [cm d]=some (.tup [sv u,vb true],[]):=λd hd=>by
   obtain⟨k1,k2⟩:=jdy hd;have:=qf (c:=d) (by have:=(ZM k1).2;omega) (λl hl=>by
    have:=(jbt (List.all_eq_true.1 (ZM k1).1 l hl)).2;unfold Tz;omega)
   rw[k1,if_pos rfl,k2]at this;exact this
  have second:∀B,B=some (vb true,[])->B=some (vb true,([]:Xd)):=λB h=>h;have h2:∃(e:kA)(b:Bool)(t:Xb)(sh:Bool),G 8 [sv u]=some (.tup [cm e,vb b],[])/\(∃w,G 12 [sv u]=some (.tup [cm w,vb b],[]))/\G 7 [cm e]=some (.tup [sv t,vb sh],[])/\(b=true->sh=true/\t=u):=by
   cases hcl:clF zw u with
   |some d=>
    rw[hcl]at p2 w2;obtain⟨k1,k2⟩:=jdy hcl;have hlen:u.length<=4000:=by rw[<-k2];have:=jjF k1;omega
    rw[if_pos hlen]at w2;exact⟨d,true,u,true,p2,⟨d,w2⟩,f2 d hcl,λ_=>⟨rfl,rfl⟩⟩
   |none=>
    rw[hcl]at p2 w2;have hw:(if u.length<=4000 then(none:Option kA)else none)=none:=by split<;>rfl
    rw[hw]at w2;have:=qf (c:=[]) (by simp) (λl h=>by cases h);exact⟨[],false,_,_,p2,⟨[],w2⟩,this,λh=>by cases h⟩
  obtain⟨e,b,t,sh,h3,⟨w,h4⟩,h5,h6⟩:=h2;cases hv:kh c with
  |false=>
   rw[hv]at f1 v1;have f1:G 7 [cm c]=some (.tup [sv [],vb false],[]):=f1;have p1:=Kf (s:=[]) (by simp);cases b with
   |false=>simp only[jk,e0,hbig,e1,f1,p1,v1,e2,h3,h4,h5]
   |true=>
    obtain⟨rfl,rfl⟩:=h6 rfl;simp only[jk,e0,hbig,e1,f1,p1,v1,e2,h3,h4,h5]
  |true=>
   rw[hv]at f1 v1;have f1:G 7 [cm c]=some (.tup [sv (fmtC c),vb true],[]):=f1;have p1:=Kf (s:=fmtC c) (by have:=jjF hv;omega);rw[jjE,jmy hv]at p1;have p1:G 8 [sv (fmtC c)]=some (.tup [cm c,vb true],[]):=p1;have s1:=jn0 c (Qu hv).1;generalize fmtC c=x at *;cases b with
   |false=>simp only[jk,e0,hbig,e1,f1,p1,v1,s1,e2,h3,h4,h5]
   |true=>
    obtain⟨rfl,rfl⟩:=h6 rfl;simp only[jk,e0,hbig,e1,f1,p1,v1,s1,e2,h3,h4,h5]
end Go.Proofs.YteoaojbmnibpcaaGreatDoor
