/- Pd -/
import Derived.Test.YthapkjbfjniaiaaGreatDoorPb
import Derived.Test.YthapkjbfjniaiaaGreatDoorPq
import Derived.Test.YthapkjbfjniaiaaGreatDoorPa
namespace Go.Proofs.YthapkjbfjniaiaaGreatDoor
open Go Go.RowKit Go.Proofs.YthapkjbfjniaiaaGreatDoor.Abs
set_option linter.unusedSimpArgs false
set_option linter.unusedVariables false
set_option maxHeartbeats 1000000
theorem jn3(x y:Xb):(sLt x y || decide (x=y))=!sLt y x:=by
 rw[jlc,jlc];by_cases h1:x<y
 .rw [decide_eq_true h1,decide_eq_false (λh2=>List.lt_irrefl _ (List.lt_trans h1 h2))];rfl
 .by_cases h2:x=y
  .subst h2;rw[decide_eq_false h1,decide_eq_true rfl];rfl
  .rw [decide_eq_false h1,decide_eq_false h2,decide_eq_true (jwS h1 h2)];rfl
theorem ju8(b:Bool)(x y:Xb):jgx .leq b (sv x) (sv y)=some (vb (!sLt y x)):=by rw[<-jn3];rfl
theorem ju7(b:Bool)(x y:Xb):jgx .geq b (sv x) (sv y)=some (vb (!sLt x y)):=rfl
def jl4:Option Xb->je6->Bool
 |_,[]=>true
 |none,q::r=>jc2 q.1 && (jgc q.2 && (!decide (q.2.name=q.1) && jl4 (some q.1) r))
 |some m,q::r=>sLt m q.1 && (jc2 q.1 && (jgc q.2 && (!decide (q.2.name=q.1) && jl4 (some q.1) r)))
def okB(q:Xb×T):Bool:=jc2 q.1 && (jgc q.2 && !decide (q.2.name=q.1))
theorem jpW:∀(s:je6)(m:Xb)(t:T),jl4 (some m) s=(jri ((m,t)::s) && s.all okB)
 | [],m,t=>rfl
 |q::r,m,t=>by
  rw[jl4,jpW r q.1 q.2,jri,zE,okB];cases sLt m q.1<;>cases jc2 q.1<;>cases jgc q.2<;>cases decide (q.2.name=q.1)<;>simp
theorem jpV(s:je6):(jl4 none s && decide (s.length<=12))=jfN s:=by
 have hd:∀q:Xb×T,dq q.2.name q.1=decide (q.2.name=q.1):=λq=>by
  by_cases h:q.2.name=q.1
  .rw [jh4.2 h,decide_eq_true h]
  .rw [jov.2 h,decide_eq_false h]
 have ha:s.all (λq=>jc2 q.1 && (jgc q.2 && !dq q.2.name q.1))=s.all okB:=by
  unfold okB;congr 1;funext q;rw[hd]
 unfold jfN;rw[ha];cases s with
 |nil=>rfl
 |cons q r=>
  rw[jl4,jpW r q.1 q.2,zE];unfold okB;cases jc2 q.1<;>cases jgc q.2<;>cases decide (q.2.name=q.1)<;>simp[Bool.and_comm]
def SzB(s:je6):Prop:=s.length<=1000000/\ ∀q∈s,q.1.length<=1000000/\Tz q.2
theorem SzB.sz{s:je6}(h:SzB s):Sz 1048576 s:=⟨by have:=h.1;omega,λq hq=>⟨by have:=(h.2 q hq).1;omega,(h.2 q hq).2⟩⟩
theorem jiQ{s:je6}(h:jfN s=true):SzB s:=by
 obtain⟨h1,_,h3⟩:=jf9 h;refine⟨by omega,λq hq=>⟨?_,?_⟩⟩
 .have:=jo7 (h3 q hq).1;omega
 .have:=jjK q.2 (jlY (h3 q hq).2.1);have:=jjg h q hq;unfold Tz;omega
theorem jj1(q:Xb×T):jch 3 (.elt (bc q) 0)=some (.agg [sv q.1,sv q.2.name,tms q.2.args]):=rfl
theorem jpX(s:je6)(hs:SzB s):G 110 [sb s]=some (vb (jfN s),[]):=by
 have hl:=hs.1;have key:=upto (P:=λi=>∀p:Option Xb,(p=none↔i=0)->(∀m,p=some m-> ∃h:i-1<s.length,s[i-1].1=m)->jp9 (sbs s) (vi (s.length:Nat)) (vi (i:Nat)) (sbs s)=some (vb (jl4 p (s.drop i) && decide (s.length<=12)),[])) (n:=s.length) ?_ ?_ 0 (Nat.zero_le _) none (by simp) (λm h=>by cases h)
 .simp only[Int.natCast_zero,List.drop_zero]at key;rw[jpV]at key;rw[jCJ];simp only[evz,key]
 .intro p _ _;have e:decide (((s.length:Nat):Int)<=12)=decide (s.length<=12):=by congr 1;exact propext (by omega)
  have:jl4 p []=true:=by cases p<;>rfl
  rw[jwo,List.drop_length,this,Bool.true_and,<-e];simp only[evz]
 .intro i hi ih p hp hq;have hlt:(i:Int)<((s.length:Nat):Int):=by omega
  have h5:=jeZ hi (by show s.length<=9223372036854775807;omega)
  have hm:=hs.2 _ (YX hi);have e1:=jl7 s[i].1 (by show s[i].1.length<=9223372036854775807;omega);have e2:=jjx s[i].2 hm.2.wf hm.2;have ih:=ih (some s[i].1) (by simp) (λm h=>by cases h;exact⟨by simpa using hi,rfl⟩);rw[jwo,jeX hi];have e3:decide (s[i].2.name=s[i].1)=decide (s[i].2.name=s[i].1):=rfl;generalize hn:decide (s[i].2.name=s[i].1)=nn at *;have e4:jgx .eql false (sv s[i].2.name) (sv s[i].1)=some (vb nn):=by rw[jnk,hn]
  generalize hv:jl4 (some s[i].1) (s.drop (i+1))=vv at *;cases p with
  |none=>
   have h0:¬(0:Int)<(i:Int):=by have:=hp.1 rfl;omega
   rw[jl4,hn,hv];cases hb:jc2 s[i].1<;>rw[hb]at e1
   .simp only[evz,hlt,jaH hi,jj1,e1,Bool.false_and]
   cases hk:jgc s[i].2<;>rw[hk]at e2
   .simp only[evz,hlt,jaH hi,jj1,e1,e2,h0,Bool.false_and,Bool.true_and]
   cases nn
   .simp only[evz,hlt,jaH hi,jj1,e1,e2,h0,e4,h5,ih,Bool.true_and]
   .simp only[evz,hlt,jaH hi,jj1,e1,e2,h0,e4,Bool.false_and,Bool.true_and]
  |some m=>
   obtain⟨hq1,rfl⟩:=hq m rfl;have h0:(0:Int)<(i:Int):=by
    have:¬i=0:=λh=>by have:=hp.2 h;cases this
    omega
   have c1:ck ((i:Int)-1)=some (vi ((i-1:Nat):Int)):=by rw[show(i:Int)-1=((i-1:Nat):Int) by omega];exact jgN (by omega) (by omega)
   have e5:=ju8 false s[i].1 s[i-1].1;rw[jl4,hn,hv];cases hb:jc2 s[i].1<;>rw[hb]at e1
   .rw [Bool.false_and,Bool.and_false];simp only[evz,hlt,jaH hi,jj1,e1,Bool.false_and]
   cases hc:sLt s[i-1].1 s[i].1<;>rw[hc]at e5
   .simp only[evz,hlt,jaH hi,jaH hq1,jj1,e1,h0,c1,e5,Bool.false_and]
   cases hk:jgc s[i].2<;>rw[hk]at e2
   .simp only[evz,hlt,jaH hi,jaH hq1,jj1,e1,h0,c1,e5,e2,Bool.false_and,Bool.true_and]
   cases nn
   .simp only[evz,hlt,jaH hi,jaH hq1,jj1,e1,h0,c1,e5,e2,e4,h5,ih,Bool.true_and]
   .simp only[evz,hlt,jaH hi,jaH hq1,jj1,e1,h0,c1,e5,e2,e4,Bool.false_and,Bool.true_and]
theorem jlX(s:je6)(hs:SzB s):G 119 [sb s]=some (vb (jfN s),[]):=by
 have hl:=hs.1;have key:=upto (P:=λi=>∀p:Option Xb,(p=none↔i=0)->(∀m,p=some m-> ∃h:i-1<s.length,s[i-1].1=m)->jqc (vi (i:Nat)) (sbs s)=some (vb (jl4 p (s.drop i) && decide (s.length<=12)),[])) (n:=s.length) ?_ ?_ 0 (Nat.zero_le _) none (by simp) (λm h=>by cases h)
 .simp only[Int.natCast_zero,List.drop_zero]at key;rw[jpV]at key;rw[jCQ];simp only[evz,key]
 .intro p _ _;have e:decide (((s.length:Nat):Int)<=12)=decide (s.length<=12):=by congr 1;exact propext (by omega)
  have:jl4 p []=true:=by cases p<;>rfl
  rw[jwr,List.drop_length,this,Bool.true_and,<-e];simp only[evz]
 .intro i hi ih p hp hq;have hlt:(i:Int)<((s.length:Nat):Int):=by omega
  have h5:=jeZ hi (by show s.length<=9223372036854775807;omega)
  have hm:=hs.2 _ (YX hi);have e1:=jit s[i].1 (by show s[i].1.length<=9223372036854775807;omega);have e2:=jlL s[i].2 hm.2.wf hm.2;have ih:=ih (some s[i].1) (by simp) (λm h=>by cases h;exact⟨by simpa using hi,rfl⟩);rw[jwr,jeX hi];generalize hn:decide (s[i].2.name=s[i].1)=nn at *;have e4:jgx .eql false (sv s[i].2.name) (sv s[i].1)=some (vb nn):=by rw[jnk,hn]
  generalize hv:jl4 (some s[i].1) (s.drop (i+1))=vv at *;cases p with
  |none=>
   have h0:¬(0:Int)<(i:Int):=by have:=hp.1 rfl;omega
   rw[jl4,hn,hv];cases hb:jc2 s[i].1<;>rw[hb]at e1
   .simp only[evz,hlt,jaH hi,jj1,e1,Bool.false_and]
   cases hk:jgc s[i].2<;>rw[hk]at e2
   .simp only[evz,hlt,jaH hi,jj1,e1,e2,Bool.false_and,Bool.true_and]
   cases nn
   .simp only[evz,hlt,jaH hi,jj1,e1,e2,h0,e4,h5,ih,Bool.true_and]
   .simp only[evz,hlt,jaH hi,jj1,e1,e2,e4,Bool.false_and,Bool.true_and]
  |some m=>
   obtain⟨hq1,rfl⟩:=hq m rfl;have h0:(0:Int)<(i:Int):=by
    have:¬i=0:=λh=>by have:=hp.2 h;cases this
    omega
   have c1:ck ((i:Int)-1)=some (vi ((i-1:Nat):Int)):=by rw[show(i:Int)-1=((i-1:Nat):Int) by omega];exact jgN (by omega) (by omega)
   have e5:=ju7 false s[i-1].1 s[i].1;rw[jl4,hn,hv];cases hb:jc2 s[i].1<;>rw[hb]at e1
   .rw [Bool.false_and,Bool.and_false];simp only[evz,hlt,jaH hi,jj1,e1,Bool.false_and]
   cases hk:jgc s[i].2<;>rw[hk]at e2
   .rw [Bool.false_and,Bool.and_false,Bool.and_false];simp only[evz,hlt,jaH hi,jj1,e1,e2,Bool.false_and]
   cases nn
   .cases hc:sLt s[i-1].1 s[i].1<;>rw[hc]at e5
    .simp only[evz,hlt,jaH hi,jaH hq1,jj1,e1,h0,c1,e5,e2,e4,Bool.false_and]
    .simp only[evz,hlt,jaH hi,jaH hq1,jj1,e1,h0,c1,e5,e2,e4,h5,ih,Bool.true_and]
   .rw [Bool.not_true,Bool.false_and,Bool.and_false,Bool.and_false,Bool.and_false];simp only[evz,hlt,jaH hi,jj1,e1,e2,e4,Bool.false_and]
theorem jxm{α:Type}{R:α->α->Prop}(irr:∀a,¬R a a)(asy:∀a b,R a b-> ¬R b a):∀{l m:List α},l.Pairwise R->m.Pairwise R->(∀x,x∈l↔x∈m)->l=m
 | [],[],_,_,_=>rfl
 | [],b::m,_,_,hx=>absurd ((hx b).2 (by simp)) (by simp)
 |a::l,[],_,_,hx=>absurd ((hx a).1 (by simp)) (by simp)
 |a::l,b::m,h1,h2,hx=>by
  obtain⟨g1,g2⟩:=List.pairwise_cons.1 h1;obtain⟨k1,k2⟩:=List.pairwise_cons.1 h2;have hab:a=b:=by
   rcases jK.1 ((hx a).1 (by simp))with e|e
   .exact e
   rcases jK.1 ((hx b).2 (by simp))with e'|e'
   .exact e'.symm
   .exact (asy _ _ (k1 a e) (g1 b e')).elim
  subst hab;have:l=m:=jxm irr asy g2 k2 λx=>by
   constructor
   .intro hxl;rcases jK.1 ((hx x).1 (by simp[hxl]))with e|e
    .exact (irr x (e ▸ g1 x hxl)).elim
    .exact e
   .intro hxm;rcases jK.1 ((hx x).2 (by simp[hxm]))with e|e
    .exact (irr x (e ▸ k1 x hxm)).elim
    .exact e
  rw[this]
theorem jkS{x y z:Xb}(h1:sLt x y=true)(h2:sLt y z=true):sLt x z=true:=by
 rw[jlc,KR]at *;exact List.lt_trans h1 h2
theorem jqr:∀{s:je6},jri s=true->s.Pairwise λp q=>sLt p.1 q.1=true
 | [],_=>List.Pairwise.nil
 | [p],_=>by simp
 |p::q::s,h=>by
  rw[jri,jm]at h;have ih:=jqr h.2;refine List.pairwise_cons.2 ⟨λx hx=>?_,ih⟩;rcases jK.1 hx with e|e
  .rw [e];exact h.1
  .exact jkS h.1 ((List.pairwise_cons.1 ih).1 x e)
theorem jBE{m:Nat}(h:m<=2000000):jeA .u64 (vi (m:Nat))=some (.val (.int .u64 (m:Nat))):=by
 show some (A.val (.int .u64 (IntKind.u64.wrap (m:Nat))))=_;have:IntKind.u64.wrap ((m:Nat):Int)=(m:Nat):=by
  unfold IntKind.wrap;simp[IntKind.bits,IntKind.signed];omega
 rw[this]
theorem jBF{m:Nat}(h:m<=2000000):jgx .shr false (.val (.int .u64 (m:Nat))) (.val (.int .u64 1))=some (.val (.int .u64 ((m / 2:Nat):Int))):=by
 show some (A.val (.int .u64 (((m:Nat):Int).fdiv (2 ^ min 1 64))))=_;rw[Int.fdiv_eq_ediv_of_nonneg _ (by decide)];rfl
theorem jBG{m:Nat}(h:m<=2000000):jeA .i64 (.val (.int .u64 (m:Nat)))=some (vi (m:Nat)):=jgN (by omega) (by omega)
theorem jtL(x y:Xb):jjo x y<0↔sLt x y=true:=by
 unfold jjo;cases h:sLt x y with
 |true=>simp
 |false=>
  rw[jo Bool.false_ne_true];split<;>simp
theorem jsi(q:Xb×T)(n:Xb):G 115 [.agg (bc q),sv n]=some (vi (jjo q.1 n),[]):=by
 have e:=jnr q.1 n;rw[jCN];simp only[evz,e]
theorem jnw{s:je6}(hs:s.Pairwise λp q=>sLt p.1 q.1=true){n:Xb}{i:Nat}(h1:∀k,(h:k<s.length)->k<i->sLt s[k].1 n=true)(h2:∀k,(h:k<s.length)->i<=k->sLt s[k].1 n=false):look s n=if h:i<s.length then(if s[i].1=n then some s[i].2 else none)else none:=by
 have hne:∀k,(h:k<s.length)->k≠i->s[k].1≠n:=λk h hk e=>by
  rcases Nat.lt_or_ge k i with hl|hl
  .have:=h1 k h hl;rw[e,jlP]at this;cases this
  .have hi:i<k:=by omega
   have:=(List.pairwise_iff_getElem.1 hs) i k (by omega) h hi;rw[e]at this;rw[h2 i (by omega) (jR _)]at this;cases this
 split
 .rename_i hi;split
  .rename_i he;have hm:(n,s[i].2)∈s:=by rw[<-he];exact YX hi
   cases hl:look s n with
   |none=>exact(jjJ.1 hl _ hm rfl).elim
   |some r=>
    obtain⟨k,hk,e⟩:=List.mem_iff_getElem.1 (jkD hl);have:k=i:=Classical.byContradiction λh=>hne k hk h (by rw[e]);subst this;rw[e]
  .rename_i he;refine jjJ.2 λp hp=>?_;obtain⟨k,hk,rfl⟩:=List.mem_iff_getElem.1 hp;by_cases h:k=i
   .subst h;exact he
   .exact hne k hk h
 .rename_i hi;refine jjJ.2 λp hp=>?_;obtain⟨k,hk,rfl⟩:=List.mem_iff_getElem.1 hp;exact hne k hk (by omega)
theorem jr9(s:je6)(hl:s.length<=1000000)(hs:s.Pairwise λp q=>sLt p.1 q.1=true)(n:Xb):∀(d i j:Nat),j-i<=d->i<=j->j<=s.length->(∀k,(h:k<s.length)->k<i->sLt s[k].1 n=true)->(∀k,(h:k<s.length)->j<=k->sLt s[k].1 n=false)->
  ∃(i':Nat)(b:Bool),joa (sbs s) (sv n) (.fn 115 []) (vi (s.length:Nat)) (vi (i:Nat)) (vi (j:Nat))=some (.tup [vi (i':Nat),vb b],[])/\look s n=(if h:i'<s.length then(if b then some s[i'].2 else none)else none)/\(b=true->i'<s.length):=by
 intro d;induction d with
 |zero=>
  intro i j hd hij hj h1 h2;have hij:i=j:=by omega
  subst hij;have hlt:¬(i:Int)<(i:Int):=by omega
  have hp:K.pureF 115=true:=rfl;rw[jwp];by_cases hi:i<s.length
  .have hi':(i:Int)<((s.length:Nat):Int):=by omega
   have cc:DX.run K (MM K) (.callc (.fn 115 []) [.agg (bc s[i]),sv n] false)=some (vi (jjo s[i].1 n)):=by
    rw[jjR hp,KQ,jsi];rfl
   refine⟨i,decide (s[i].1=n),?_,?_,λ_=>hi⟩
   .have hz:decide (jjo s[i].1 n=0)=decide (s[i].1=n):=decide_eq_decide.2 (jkM.zero _ _);rw[<-hz];simp only[evz,hlt,hi',jaH hi,jj1,cc]
   .rw [jnw hs h1 h2,dif_pos hi,dif_pos hi];by_cases he:s[i].1=n
    .rw [ju he,decide_eq_true he,ju rfl]
    .rw [jo he,decide_eq_false he,jo Bool.false_ne_true]
  .have hi':¬(i:Int)<((s.length:Nat):Int):=by omega
   refine⟨i,false,?_,?_,λh=>by cases h⟩
   .simp only[evz,hlt,hi']
   .rw [jnw hs h1 h2,dif_neg hi,dif_neg hi]
 |succ d ih=>
  intro i j hd hij hj h1 h2;by_cases hlt0:i<j;rotate_left
  .exact ih i j (by omega) hij hj h1 h2
  have hlt:(i:Int)<(j:Int):=by omega
  have hp:K.pureF 115=true:=rfl;have hm:(i+j) / 2<s.length:=by omega
  have c0:ck ((i:Int)+(j:Int))=some (vi ((i+j:Nat):Int)):=jgN (by omega) (by omega);have c1:=jBE (m:=i+j) (by omega);have c2:=jBF (m:=i+j) (by omega);have c3:=jBG (m:=(i+j) / 2) (by omega);have cc:DX.run K (MM K) (.callc (.fn 115 []) [.agg (bc s[(i+j) / 2]),sv n] false)=some (vi (jjo s[(i+j) / 2].1 n)):=by
   rw[jjR hp,KQ,jsi];rfl
  have ix:=jaH (k:=3) (f:=bc) hm;have hpw:=List.pairwise_iff_getElem.1 hs;rw[jwp];have hc:=jtL s[(i+j) / 2].1 n;generalize hg:jjo s[(i+j) / 2].1 n=c at *;generalize hme:(i+j) / 2=m at *;by_cases hneg:c<0
  .have hs1:=hc.1 hneg;have h5:ck ((m:Int)+1)=some (vi ((m+1:Nat):Int)):=jgN (by omega) (by omega);have:=ih (m+1) j (by omega) (by omega) hj (λk hk hk2=>by
    by_cases e:k=m
    .subst e;exact hs1
    .exact jkS (hpw k m hk hm (by omega)) hs1) h2
   obtain⟨i',b,e1,e2⟩:=this;exact⟨i',b,by simp only[evz,hlt,c0,c1,c2,c3,ix,jj1,cc,hneg,h5];exact e1,e2⟩
  .have hs1:sLt s[m].1 n=false:=by
    cases h:sLt s[m].1 n with
    |false=>rfl
    |true=>exact(hneg (hc.2 h)).elim
   have:=ih i m (by omega) (by omega) (by omega) h1 (λk hk hk2=>by
    by_cases e:k=m
    .subst e;exact hs1
    .cases h:sLt s[k].1 n with
     |false=>rfl
     |true=>rw[jkS (hpw m k hm hk (by omega)) h]at hs1;cases hs1)
   obtain⟨i',b,e1,e2⟩:=this;exact⟨i',b,by simp only[evz,hlt,c0,c1,c2,c3,ix,jj1,cc,hneg];exact e1,e2⟩
def outT(o:Option T):Xe:=match o with|some t=>some (.tup [tm t,vb true],[])|none=>some (.tup [.agg [sv [],.sl 2 []],vb false],[])
theorem jo0(s:je6)(hs:jfN s=true)(n:Xb):G 75 [sb s,sv n]=outT (look s n):=by
 have hl:=(jf9 hs).1;obtain⟨i,b,e1,e2,e3⟩:=jr9 s (by omega) (jqr (jf9 hs).2.1) n s.length 0 s.length (by omega) (Nat.zero_le _) (jR _) (λk _ h=>by omega) (λk h1 h2=>by omega);simp only[Int.natCast_zero]at e1;have e4:G 114 [sbs s,sv n,.fn 115 []]=some (.tup [vi (i:Nat),vb b],[]):=by
  rw[jCM];simp only[evz,e1]
 rw[g75,e2];cases b with
 |false=>
  have:(if h:i<s.length then(if false=true then some s[i].2 else none)else none)=(none:Option T):=by split<;>simp
  rw[this];simp only[evz,e4];rfl
 |true=>
  have hi:=e3 rfl;rw[dif_pos hi,ju rfl];simp only[evz,e4,jaH hi,jk9];rfl
theorem jlJ(s:je6)(hs:jfN s=true):∀t:T,Rx' t->Tz t->G 43 [sb s,tm t]=some (tm (sub s t),[]):=by
 refine T.ind λt ih hk ht=>?_;have hz:=ht;unfold Tz at hz;rw[jhG]at hz;rw[g43];by_cases ha:t.args=[]
 .have e1:=jo0 s hs t.name;have h0:jf1 (tms t.args)=some (vi 0):=by rw[ha];rfl
  cases hl:look s t.name with
  |some r=>
   rw[hl]at e1;have e1:G 75 [sb s,sv t.name]=some (.tup [tm r,vb true],[]):=e1;have hv:jc2 t.name=true:=((jf9 hs).2.2 _ (jkD hl)).1;have e2:=jls r ((jiQ hs).2 _ (jkD hl)).2;have:sub s t=r:=by rw[jkd hv,jkc,hl];rfl
   rw[this];simp only[evz,h0,e1,e2]
  |none=>
   rw[hl]at e1;have e1:G 75 [sb s,sv t.name]=some (.tup [.agg [sv [],.sl 2 []],vb false],[]):=e1;have:sub s t = .mk t.name []:=by
    cases hv:jc2 t.name with
    |true=>rw[jkd hv,jkc,hl];rfl
    |false=>rw[jjA hv,ha];rfl
   rw[this];simp only[evz,h0,e1];rfl
 .have hv:jc2 t.name=false:=by
   cases hv:jc2 t.name with
   |false=>rfl
   |true=>exact(ha (hk.va hv)).elim
  have hpos:0<t.args.length:=by
   cases h:t.args with
   |nil=>exact(ha h).elim
   |cons _ _=>simp
  have h0:¬((t.args.length:Nat):Int)=0:=by omega
  rw[jjA hv];generalize hus:t.args.map (sub s)=us at *;have hul:us.length=t.args.length:=by rw[<-hus,jbP]
  have hm:=jpO (b:=40) (n:=t.args.length) (by omega) (by omega);have hz0:(0:Int)<((t.args.length:Nat):Int):=by omega
  have step:∀i,(hi:i<t.args.length)->G 43 [sb s,tm t.args[i]]=some (tm (us[i]'(by omega)),[]):=λi hi=>by
   rw[ih t.args[i] (YX _) (hk.args _ (YX _)) (ht.args _ (YX _))];simp only[<-hus,List.getElem_map]
  have stepR:∀i,(hi:i<t.args.length)->pIx (part jbY [sv [],.sl 2 []] us i).length (vi (i:Nat))=some i/\jbm (part jbY [sv [],.sl 2 []] us i) i=some [sv [],.sl 2 []]/\jat (part jbY [sv [],.sl 2 []] us i) i [sv (us[i]'(by omega)).name,tms (us[i]'(by omega)).args]=part jbY [sv [],.sl 2 []] us (i+1):=λi hi=>by
   have h4:=jrR (f:=jbY) (z:=[sv [],.sl 2 []]) (xs:=us) (i:=i) (by omega);rw[jhF]at h4;refine⟨jiG (by rw[jnx (by omega)];omega),jrQ (by omega),h4⟩
  have key:=(upto (P:=λi=>1<=i->jvJ (tms t.args) (vi (t.args.length:Nat)) (vi (i:Nat)) (sbs s) (sv []) (sv t.name) [] (part jbY [sv [],.sl 2 []] us i)=some (tm (.mk t.name us),[])) (n:=t.args.length) ?_ ?_ 1 hpos (jR _));rotate_left
  .intro _;rw[jzv,<-hul,jrP];simp only[evz];rfl
  .intro i hi ih' _;have hlt:(i:Int)<((t.args.length:Nat):Int):=by omega
   have h5:=jeZ hi (by show t.args.length<=9223372036854775807;omega)
   have e2:=step i hi;obtain⟨h2,h3,h4⟩:=stepR i hi;have ih':=ih' (by omega);rw[jzv];simp only[evz,hlt,jaH hi,jbV,e2,h2,h3,jqs,h4,h5,ih']
  have e2:=step 0 hpos;obtain⟨h2,h3,h4⟩:=stepR 0 hpos;rw[<-jpP]at h2 h3 h4;simp only[Int.natCast_zero,qM]at h2 h4 key;have ix:=jaH (k:=2) (f:=jbY) hpos;simp only[Int.natCast_zero]at ix;have h5:ck (0+1)=some (vi ((1:Nat):Int)):=jgN (n:=0+1) (by omega) (by omega);have first:jvI (tms t.args) (vi (t.args.length:Nat)) (vi 0) (sbs s) (sv []) (sv t.name) (jck us.length [sv [],.sl 2 []]) []=some (tm (.mk t.name us),[]):=by
   rw[jBN];simp only[evz,hz0,ix,jbV,e2,h2,h3,jqs,h4,h5,key]
  rw[hul]at first
  simp only[evz,h0,hm,first]
theorem jAQ(s:je6):∀t:T,Rx' t->nodes t<=nodes (sub s t)/\dep t<=dep (sub s t):=by
 refine T.ind λt ih hk=>?_;cases hv:jc2 t.name with
 |true=>
  have ha:=hk.va hv;rw[jfw t,jjY t,ha];have:=jiO (sub s t);have:=jjY (sub s t);simp only[jcO,jkH];omega
 |false=>
  have hL:∀us:Xg,(∀u∈us,nodes u<=nodes (sub s u)/\dep u<=dep (sub s u))->jcO us<=jcO (us.map (sub s))/\jkH us<=jkH (us.map (sub s)):=by
   intro us;induction us with
   |nil=>intro _;exact⟨jR _,jR _⟩
   |cons v vs ih2=>
    intro h;have h1:=h v (by simp);have h2:=ih2 λw hw=>h w (by simp[hw]);simp only[zB,jcO,jkH];omega
  have:=hL t.args λu hu=>ih u hu (hk.args u hu);rw[jfw t,jjY t,jfw (sub s t),jjY (sub s t),jmV hv];omega
def AxT(t:T):Prop:=okT t=true\/(t.name=[61]/\t.args.length=2/\ ∀u∈t.args,okT u=true)
theorem AxT.rx{t:T}(h:AxT t):Rx' t:=h.elim Or.inl λh=>Or.inr ⟨h.1,h.2.2⟩
theorem AxT.tz{t:T}(h:AxT t)(hn:nodes t<=100000):Tz t:=by
 rcases h with h|h
 .have:=jjK t h;unfold Tz;omega
 .unfold Tz;rw[jfw]at hn;rw[jhG,h.1,h.2.1];have:=jt9 h.2.2;simp only[KP,YU];omega
theorem AxT.sub{s:je6}(hs:jfN s=true){t:T}(h:AxT t):AxT (sub s t):=by
 rcases h with h|h
 .exact Or.inl (jkJ (ji7 hs) t h)
 .have hvn:jc2 t.name=false:=by rw[h.1];decide
  right;rw[jjA hvn];refine⟨h.1,by show(t.args.map _).length=2;rw[jbP,h.2.1],λu hu=>?_⟩;obtain⟨a,ha,rfl⟩:=qQ.1 hu;exact jkJ (ji7 hs) a (h.2.2 a ha)
theorem AxT.sub_tz{s:je6}(hs:jfN s=true){t:T}(h:AxT t)(hn:nodes t<=3000):Tz (Go.Proofs.YthapkjbfjniaiaaGreatDoor.sub s t):=by
 have:=jnn (u:=s) (Z:=30) (by decide) (jjg hs) t;exact(h.sub hs).tz (by omega)
theorem jvi{s:je6}{t:T}(h:Rx' t)(hs:je7 (sub s t)=true):je7 t=true:=by
 have:=jAQ s t h;simp only[je7,jm,KR]at hs⊢;omega
theorem jkw(s:je6)(hs:jfN s=true)(t:T)(h:AxT t)(hn:nodes t<=3000):G 72 [sb s,tm t]=outT (if je7 (sub s t)then some (sub s t)else none):=by
 have ht:=h.tz (by omega);have hu:=h.sub_tz hs hn;have e1:=jlJ s hs t h.rx ht;have e2:=jk2 (sub s t) hu.wf hu;rw[g72];cases hsm:je7 (sub s t)<;>rw[hsm]at e2
 .rw [jo Bool.false_ne_true];simp only[evz,e1,e2];rfl
 .rw [ju rfl];simp only[evz,e1,e2];rfl
theorem jkx(s:je6)(hs:jfN s=true)(t:T)(h:AxT t)(hn:nodes t<=3000):G 85 [sb s,tm t]=outT (if je7 (sub s t)then some (sub s t)else none):=by
 have ht:=h.tz (by omega);have hu:=h.sub_tz hs hn;have e0:=jlX s (jiQ hs);have e1:=jtI ht h;have e2:=jk4 s (jiQ hs).sz t ht;have e3:=jtI hu (h.sub hs);rw[hs]at e0;rw[g85];cases hsm:je7 (sub s t)<;>rw[hsm]at e3
 .rw [jo Bool.false_ne_true];cases hs1:je7 t<;>rw[hs1]at e1
  .simp only[evz,e0,e1];rfl
  .simp only[evz,e0,e1,e2,e3];rfl
 .rw [ju rfl];rw[jvi h.rx hsm]at e1;simp only[evz,e0,e1,e2,e3];rfl
abbrev LtB(p q:Xb×T):Prop:=sLt p.1 q.1=true
theorem jny(n:Xb)(t:T):∀s:je6,s.Pairwise LtB->(∀q∈s,q.1≠n)->(jkI s n t).Pairwise LtB
 | [],_,_=>by unfold jkI;simp
 |p::s,h,hn=>by
  obtain⟨h1,h2⟩:=List.pairwise_cons.1 h;cases hc:sLt p.1 n with
  |true=>
   have e:jkI (p::s) n t=p::jkI s n t:=by
    unfold jkI;rw[List.takeWhile_cons_of_pos (p:=λp:Xb×T=>sLt p.1 n) hc,List.dropWhile_cons_of_pos (p:=λp:Xb×T=>sLt p.1 n) hc,qN]
   rw[e];refine List.pairwise_cons.2 ⟨λx hx=>?_,jny n t s h2 λq hq=>hn q (by simp[hq])⟩;rcases joV.1 hx with hx|hx
   .exact h1 x hx
   .rw [hx];exact hc
  |false=>
   have e:jkI (p::s) n t=(n,t)::p::s:=by
    unfold jkI;rw[List.takeWhile_cons_of_neg (p:=λp:Xb×T=>sLt p.1 n) (by simp[hc]),List.dropWhile_cons_of_neg (p:=λp:Xb×T=>sLt p.1 n) (by simp[hc])];rfl
   have hlt:sLt n p.1=true:=by
    have h3:=jn3 n p.1;rw[hc]at h3;have h4:decide (n=p.1)=false:=decide_eq_false λe=>hn p (by simp) e.symm;rw[h4,Bool.or_false]at h3;exact h3
   rw[e];refine List.pairwise_cons.2 ⟨λx hx=>?_,h⟩;rcases jK.1 hx with e|e
   .rw [e];exact hlt
   .exact jkS hlt (h1 x e)
theorem jla:∀(m s:je6),s.Pairwise LtB->(m.map Prod.fst).Nodup->(∀p∈m,∀q∈s,q.1≠p.1)->(m.foldl (λs p=>jkv s p.1 p.2) s).Pairwise LtB
 | [],s,h,_,_=>h
 |p::m,s,h,hn,hd=>by
  rw[zB,Ju]at hn;rw[List.foldl_cons];by_cases he:p.2.name=p.1
  .have:jkv s p.1 p.2=s:=ju he;rw[this];exact jla m s h hn.2 λq hq r hr=>hd q (by simp[hq]) r hr
  .have:jkv s p.1 p.2=jkI s p.1 p.2:=jo he;rw[this];refine jla m _ (jny p.1 p.2 s h (hd p (by simp))) hn.2 λq hq r hr=>?_;rcases joV.1 hr with hr|hr
   .exact hd q (by simp[hq]) r hr
   .rw [hr];intro e;exact hn.1 (qQ.2 ⟨q,hq,e.symm⟩)
theorem jmr:∀(m s:je6),m.foldl (λs p=>jkv s p.1 p.2) s=(m.filter λp=> !decide (p.2.name=p.1)).foldl (λs p=>jkv s p.1 p.2) s
 | [],s=>rfl
 |p::m,s=>by
  rw[List.foldl_cons,List.filter_cons];by_cases he:p.2.name=p.1
  .rw [jo (by simp[he]),show jkv s p.1 p.2=s from ju he];exact jmr m s
  .rw [ju (by simp[he]),List.foldl_cons];exact jmr m _
theorem jqQ{l s:je6}(hn:(l.map Prod.fst).Nodup)(hk:∀p∈l,p.2.name≠p.1)(hp:s.Perm l)(hs:s.Pairwise λa b=>¬jjo b.1 a.1<0):s=jmq l:=by
 have h1:=jla l [] List.Pairwise.nil hn λp _ q h=>by cases h
 have h2:=(jkE l [] hk).2;refine jxm (R:=LtB) (λa h=>by unfold LtB at h;rw[jlP]at h;cases h) (λa b h h'=>by have:=jkS h h';rw[jlP]at this;cases this) ?_ h1 λx=>?_
 .have hne:s.Pairwise λa b=>a.1≠b.1:=by
   have:(s.map Prod.fst).Nodup:=(hp.map Prod.fst).nodup_iff.2 hn;rw[List.nodup_iff_pairwise_ne]at this;exact List.pairwise_map.1 this
  refine(hs.and hne).imp λ{a b} h=>?_;have h3:=jn3 a.1 b.1;rw[decide_eq_false h.2,Bool.or_false]at h3;show sLt a.1 b.1=true;rw[h3];cases hc:sLt b.1 a.1 with
  |false=>rfl
  |true=>exact(h.1 ((jtL _ _).2 hc)).elim
 .rw [hp.mem_iff];have:=h2 x;simp only[Y2,false_or]at this;exact this.symm
def jiV(o:Option je6):Xe:=match o with|some s=>some (.tup [sb s,vb true],[])|none=>some (.tup [.agg [.sl 3 []],vb false],[])
theorem juc{n:Nat}(h:n<=1000000):jbk n 56=true:=jyU (by omega)
theorem jwR(p q:Xb×T):G 112 [.agg (bc p),.agg (bc q)]=some (vi (jjo p.1 q.1),[]):=by
 have e:=jnr p.1 q.1;rw[jCK];simp only[evz,e]
def jpA(l:je6):je6:=l.filter λp=> !decide (p.2.name=p.1)
theorem jlz{s:je6}(h:jfN s=true):(s.map Prod.fst).Nodup:=by
 rw[List.nodup_iff_pairwise_ne,List.pairwise_map];exact(jqr (jf9 h).2.1).imp λ{a b} h e=>by rw[e,jlP]at h;cases h
def jkz(s u:je6):je6:=jpA (s.map λq=>(q.1,sub u q.2))++u.filter λq=>(look s q.1).isNone
theorem jtT{s u:je6}(hu:jfN u=true):jmq (jkz s u)=jh0 s u:=by
 unfold jh0 jkz;unfold jmq;rw[List.foldl_append,List.foldl_append,jmr (s.map _)];rfl
theorem joz{s u:je6}(hs:jfN s=true)(hu:jfN u=true):(jkz s u).length<=24/\((jkz s u).map Prod.fst).Nodup/\(∀p∈jkz s u,p.2.name≠p.1)/\ ∀p∈jkz s u,p.1.length<=1000000/\Tz p.2:=by
 obtain⟨ls,_,vs⟩:=jf9 hs;obtain⟨lu,_,vu⟩:=jf9 hu;have hs2:∀p∈jpA (s.map λq=>(q.1,sub u q.2)),p.2.name≠p.1/\ ∃q∈s,p.1=q.1/\p.2=sub u q.2:=λp hp=>by
  obtain⟨h1,h2⟩:=List.mem_filter.1 hp;obtain⟨q,hq,rfl⟩:=qQ.1 h1;exact⟨by simpa using h2,q,hq,rfl,rfl⟩
 refine⟨?_,?_,λp hp=>?_,λp hp=>?_⟩
 .unfold jkz jpA;have h1:=List.length_filter_le (λp:Xb×T=> !decide (p.2.name=p.1)) (s.map λq=>(q.1,sub u q.2));have h2:=List.length_filter_le (λq:Xb×T=>(look s q.1).isNone) u;rw[Y0];rw[jbP]at h1;omega
 .unfold jkz;rw[jbM];refine zG.2 ⟨?_,?_,λa ha b hb=>?_⟩
  .have:((jpA (s.map λq=>(q.1,sub u q.2))).map Prod.fst).Sublist (s.map Prod.fst):=by
    have h:=(List.filter_sublist (p:=λp:Xb×T=> !decide (p.2.name=p.1)) (l:=s.map λq=>(q.1,sub u q.2))).map Prod.fst;rw[qP]at h;exact h
   exact(jlz hs).sublist this
  .exact (jlz hu).sublist (List.filter_sublist.map Prod.fst)
  .obtain ⟨p,hp,rfl⟩:=qQ.1 ha;obtain⟨q,hq,rfl⟩:=qQ.1 hb;obtain⟨_,r,hr,e,_⟩:=hs2 p hp;have h3:=(List.mem_filter.1 hq).2;rw[Option.isNone_iff_eq_none]at h3;intro e2;exact jjJ.1 h3 r hr (by rw[<-e,e2])
 .rcases j4.1 hp with hp|hp
  .exact (hs2 p hp).1
  .exact (vu p (List.mem_filter.1 hp).1).2.2
 .rcases j4.1 hp with hp|hp
  .obtain ⟨_,q,hq,e1,e2⟩:=hs2 p hp;rw[e1,e2];have h1:=(jiQ hs).2 q hq;exact⟨h1.1,AxT.sub_tz hu (Or.inl (ji7 hs q hq)) (by have:=jjg hs q hq;omega)⟩
  .exact (jiQ hu).2 p (List.mem_filter.1 hp).1
theorem jtN{s u:je6}(hs:jfN s=true)(hu:jfN u=true):SzB (jh0 s u):=by
 obtain⟨h1,h2,h3,h4⟩:=joz hs hu;rw[<-jtT hu];obtain⟨f1,f2⟩:=jkE (jkz s u) [] h3;refine⟨by unfold jmq;rw[f1];simp;omega,λq hq=>?_⟩;have:=(f2 q).1 hq;simp only[Y2,false_or]at this;exact h4 q this
theorem jns(s u:je6)(hs:jfN s=true)(hu:jfN u=true):G 74 [sb s,sb u]=jiV (if jfN (jh0 s u)then some (jh0 s u)else none):=by
 obtain⟨g1,g2,g3,g4⟩:=joz hs hu;have ls:=(jf9 hs).1;have lu:=(jf9 hu).1;obtain⟨so,p1,p2,p3⟩:=jv8 jkM Prod.fst bc 3 112 rfl (jkz s u) (by omega) λx _ y _=>jwR x y;have hso:=jqQ g2 g3 p1 p2;rw[jtT hu]at hso;subst hso;have e1:=jpX (jh0 s u) (jtN hs hu);have fin:jpv (sbs u) (vi (u.length:Nat)) (vi (u.length:Nat)) (sbs s) [] ((jkz s u).map bc)=jiV (if jfN (jh0 s u)then some (jh0 s u)else none):=by
  have hC:jsA ((jkz s u).map bc)=some (.top,[.sl 3 ((jh0 s u).map bc)]):=by rw[jz6];exact p3
  have r1:hR 3 (A.top,[.sl 3 ((jh0 s u).map bc)]) 0=some ((jh0 s u).map bc):=rfl;rw[jzH];cases hv:jfN (jh0 s u)<;>rw[hv]at e1
  .rw [jo Bool.false_ne_true];have e1:(G 110 [sb (jh0 s u)]).bind (fin true)=some (vb false):=by rw[e1];rfl
   simp only[evz,hC,r1,e1];rfl
  .rw [ju rfl];have e1:(G 110 [sb (jh0 s u)]).bind (fin true)=some (vb true):=by rw[e1];rfl
   simp only[evz,hC,r1,e1];rfl
 have k1:=upto (P:=λi=>∀R:je6,R.length<=12+i->R++(u.drop i).filter (λq=>(look s q.1).isNone)=jkz s u->jpv (sbs u) (vi (u.length:Nat)) (vi (i:Nat)) (sbs s) [] (R.map bc)=jiV (if jfN (jh0 s u)then some (jh0 s u)else none)) (n:=u.length) ?_ ?_ 0 (Nat.zero_le _);rotate_left
 .intro R _ hR;rw[List.drop_length,List.filter_nil,KQ]at hR;rw[hR];exact fin
 .intro i hi ih R hRl hR;have hlt:(i:Int)<((u.length:Nat):Int):=by omega
  have h5:ck ((i:Int)+1)=some (vi ((i+1:Nat):Int)):=jgN (by omega) (by omega);have e2:=jo0 s hs u[i].1;rw[jeX hi,List.filter_cons]at hR;rw[jzH];cases hl:look s u[i].1 with
  |some r=>
   rw[hl]at e2 hR;have e2:G 75 [sb s,sv u[i].1]=some (.tup [tm r,vb true],[]):=e2;rw[jo (by simp)]at hR;have:=ih R (by omega) hR;simp only[evz,hlt,jaH hi,jj1,e2,h5,this]
  |none=>
   rw[hl]at e2 hR;have e2:G 75 [sb s,sv u[i].1]=some (.tup [.agg [sv [],.sl 2 []],vb false],[]):=e2;rw[ju (by simp)]at hR;have:=ih (R++[u[i]]) (by rw[Y0];simp only[KP,YU];omega) (by rw[jio];exact hR);have e3:=jls u[i].2 ((jiQ hu).2 _ (YX hi)).2;have hf:jbk (R.length+1) 56=true:=juc (by omega);have ha:jgD (R.map bc) [[sv u[i].1,sv u[i].2.name,tms u[i].2.args]]=(R++[u[i]]).map bc:=by rw[jbM];rfl
   simp only[evz,hlt,jaH hi,jj1,e2,e3];generalize hB:K3 _ _ _=B;have hB':B=some (.agg (bc u[i])):=by rw[<-hB];kernel_rfl
   rw[hB'];simp only[evz,hf,ha,h5,this]
 have k0:=upto (P:=λi=>∀R:je6,R.length<=i->R++(jpA ((s.drop i).map λq=>(q.1,sub u q.2))++u.filter λq=>(look s q.1).isNone)=jkz s u->jq9 (sbs s) (vi (s.length:Nat)) (vi (i:Nat)) (sbs s) (sbs u) [] (R.map bc)=jiV (if jfN (jh0 s u)then some (jh0 s u)else none)) (n:=s.length) ?_ ?_ 0 (Nat.zero_le _) [] (Nat.zero_le _) rfl
 .simp only[Int.natCast_zero,List.map_nil]at k0;rw[g74];simp only[evz,k0]
 .intro R hRl hR;have:=k1 R (by omega) (by rw[List.drop_zero];rw[List.drop_length]at hR;exact hR);simp only[Int.natCast_zero]at this;rw[jzG];simp only[evz,this]
 .intro i hi ih R hRl hR;have hlt:(i:Int)<((s.length:Nat):Int):=by omega
  have h5:ck ((i:Int)+1)=some (vi ((i+1:Nat):Int)):=jgN (by omega) (by omega);have hm:=(jiQ hs).2 _ (YX hi);have e2:=jlJ u hu s[i].2 (Or.inl (ji7 hs _ (YX hi))) hm.2;rw[jeX hi,zB,jpA,List.filter_cons]at hR;rw[jzG];by_cases he:(sub u s[i].2).name=s[i].1
  .rw [jo (by simp[he])]at hR;have:=ih R (by omega) hR;simp only[evz,hlt,jaH hi,jj1,e2,he,h5,this]
  .rw [ju (by simp[he])]at hR;have:=ih (R++[(s[i].1,sub u s[i].2)]) (by rw[Y0];simp only[KP,YU];omega) (by rw[jio];exact hR);have hf:jbk (R.length+1) 56=true:=juc (by omega);have ha:jgD (R.map bc) [[sv s[i].1,sv (sub u s[i].2).name,tms (sub u s[i].2).args]]=(R++[(s[i].1,sub u s[i].2)]).map bc:=by rw[jbM];rfl
   simp only[evz,hlt,jaH hi,jj1,e2,he,hf,ha,h5,this]
theorem jqF(s u:je6)(hs:jfN s=true)(hu:jfN u=true):G 154 [sb s,sb u]=some (sb (jh0 s u),[]):=by
 have ls:=(jf9 hs).1;have lu:=(jf9 hu).1;have r1:∀x:je6,hR 3 (A.top,[sbs x]) 0=some (x.map bc):=λx=>rfl;have k1:=upto (P:=λi=>∀R:je6,R.length<=12+i->(∀q∈R,Tz q.2)->jof (vi (i:Nat)) (sbs s) (sbs u) [] (R.map bc)=some (sb (((u.drop i).filter λq=>(look s q.1).isNone).foldl (λs p=>jkv s p.1 p.2) R),[])) (n:=u.length) ?_ ?_ 0 (Nat.zero_le _);rotate_left
 .intro R _ _;rw[jwD,List.drop_length];simp only[evz];rfl
 .intro i hi ih R hR hz;have hlt:(i:Int)<((u.length:Nat):Int):=by omega
  have h5:ck ((i:Int)+1)=some (vi ((i+1:Nat):Int)):=jgN (by omega) (by omega);have hm:=(jiQ hu).2 _ (YX hi);rw[jwD,jeX hi,List.filter_cons];rcases jpF s (by omega) u[i].1 with⟨h1,h2⟩|⟨k,hk,h1,h2⟩
  .have e3:=jug R (by omega) u[i].1 u[i].2 hm.2;have:=ih (jkv R u[i].1 u[i].2) (by have:=jrX R u[i].1 u[i].2;omega) λq hq=>(jrY hq).elim (hz q) λe=>by rw[e];exact hm.2
   rw[h1,ju (by simp),List.foldl_cons];simp only[evz,hlt,jaH hi,jk9,h2,e3,r1,h5,this]
  .have:=ih R (by omega) hz;have hk0:¬((k:Nat):Int)<0:=by omega
   rw[h1,jo (by simp)];simp only[evz,hlt,jaH hi,h2,hk0,h5,this]
 have k0:=upto (P:=λi=>∀R:je6,R.length<=i->(∀q∈R,Tz q.2)->jqj (vi (i:Nat)) (sbs s) (sbs u) [] (R.map bc)=some (sb ((u.filter λq=>(look s q.1).isNone).foldl (λs p=>jkv s p.1 p.2) (((s.drop i).map λq=>(q.1,sub u q.2)).foldl (λs p=>jkv s p.1 p.2) R)),[])) (n:=s.length) ?_ ?_ 0 (Nat.zero_le _) [] (Nat.zero_le _) (λq h=>by cases h)
 .simp only[Int.natCast_zero,List.map_nil,List.drop_zero]at k0;rw[jC8];simp only[evz,k0];rw[<-List.foldl_append];rfl
 .intro R hR hz;have:=k1 R (by omega) hz;simp only[Int.natCast_zero,List.drop_zero]at this;rw[jwC,List.drop_length];simp only[evz,this];rfl
 .intro i hi ih R hR hz;have hlt:(i:Int)<((s.length:Nat):Int):=by omega
  have h5:ck ((i:Int)+1)=some (vi ((i+1:Nat):Int)):=jgN (by omega) (by omega);have hm:=(jiQ hs).2 _ (YX hi);have ht:Tz (sub u s[i].2):=AxT.sub_tz hu (Or.inl (ji7 hs _ (YX hi))) (by have:=jjg hs _ (YX hi);omega);have e2:=jk4 u (jiQ hu).sz s[i].2 hm.2;have e3:=jug R (by omega) s[i].1 (sub u s[i].2) ht;have:=ih (jkv R s[i].1 (sub u s[i].2)) (by have:=jrX R s[i].1 (sub u s[i].2);omega) λq hq=>(jrY hq).elim (hz q) λe=>by rw[e];exact ht
  rw[jwC,jeX hi,zB,List.foldl_cons];simp only[evz,hlt,jaH hi,jk9,e2,e3,r1,h5,this]
theorem jro(s u:je6)(hs:jfN s=true)(hu:SzB u):G 122 [sb s,sb u]=jiV (if jfN u && jfN (jh0 s u)then some (jh0 s u)else none):=by
 have e1:=jlX s (jiQ hs);have e2:=jlX u hu;rw[hs]at e1;rw[jCT];cases hv:jfN u<;>rw[hv]at e2
 .rw [Bool.false_and,jo Bool.false_ne_true];simp only[evz,e1,e2];rfl
 .have e3:=jqF s u hs hv;have e4:=jlX (jh0 s u) (jtN hs hv);rw[Bool.true_and];cases hc:jfN (jh0 s u)<;>rw[hc]at e4
  .rw [jo Bool.false_ne_true];simp only[evz,e1,e2,e3,e4];rfl
  .rw [ju rfl];simp only[evz,e1,e2,e3,e4];rfl
inductive Hgt(s:je6):Nat->Eqs->Prop
 |nil (r:Nat):Hgt s r []
 |blk (r τ δ:Nat) (b es:Eqs):9*τ+(8-δ)<r->τ<=s.length+1->δ<=8->b.length<=4->(τ=s.length+1-> ∀p∈b,sub s p.1=p.1/\sub s p.2=p.2/\dep p.1<=δ/\dep p.2<=δ)->Hgt s (9*τ+(8-δ)) es->Hgt s r (b++es)
theorem Hgt.len{s:je6}{r:Nat}{es:Eqs}(h:Hgt s r es):es.length<=4*r:=by
 induction h with
 |nil r=>exact Nat.zero_le _
 |blk r τ δ b es h1 _ _ h4 _ _ ih=>rw[Y0];omega
theorem Hgt.mono{s:je6}{r r':Nat}{es:Eqs}(h:Hgt s r es)(hr:r<=r'):Hgt s r' es:=by
 induction h with
 |nil=>exact Hgt.nil _
 |blk r τ δ b es h1 h2 h3 h4 h5 h6 _=>exact Hgt.blk r' τ δ b es (by omega) h2 h3 h4 h5 h6
theorem Hgt.grow{s s':je6}(hs:s.length<s'.length){r:Nat}{es:Eqs}(h:Hgt s r es):Hgt s' r es:=by
 induction h with
 |nil r=>exact Hgt.nil _
 |blk r τ δ b es h1 h2 h3 h4 h5 _ ih=>exact Hgt.blk r τ δ b es h1 (by omega) h3 h4 (λh=>by omega) ih
theorem Hgt.pop{s:je6}{r:Nat}{es:Eqs}(h:Hgt s r es):∀{p:T×T}{rest:Eqs},es=p::rest-> ∃τ δ,9*τ+(8-δ)<r/\τ<=s.length+1/\δ<=8/\(τ=s.length+1->sub s p.1=p.1/\sub s p.2=p.2/\dep p.1<=δ/\dep p.2<=δ)/\Hgt s (9*τ+(8-δ)+1) rest:=by
 induction h with
 |nil r=>intro p rest h;cases h
 |blk r τ δ b es h1 h2 h3 h4 h5 h6 ih=>
  intro p rest he;cases b with
  |nil=>
   obtain⟨τ',δ',g1,g2⟩:=ih he;exact⟨τ',δ',by omega,g2⟩
  |cons q b=>
   rw[qN,ya]at he;obtain⟨rfl,rfl⟩:=he;rw[KP]at h4;exact⟨τ,δ,h1,h2,h3,λh=>h5 h q (by simp),Hgt.blk _ τ δ b es (by omega) h2 h3 (by omega) (λh x hx=>h5 h x (by simp[hx])) h6⟩
theorem jmO{t:T}(h:AxT t):t.args.length<=4:=by
 rcases h with h|h
 .cases hv:jc2 t.name with
  |true=>rw[jjW h hv];simp
  |false=>
   rw[jiM,hv,jo Bool.false_ne_true,jm,jm,KR]at h;exact h.2.1
 .omega
theorem ji5{s:je6}{l r:T}{rest:Eqs}(h:jjE s ((l,r)::rest))(hg:Hgt s 126 ((l,r)::rest)){s':je6}{es:Eqs}(hst:jiF s l r rest=some (s',es)):Hgt s' 126 es:=by
 obtain⟨τ,δ,g1,g2,g3,g4,g5⟩:=hg.pop rfl;have hrest:Hgt s 126 rest:=g5.mono (by omega);have hl:=(jf9 h.1).1;obtain⟨_,hor⟩:=jiB h hst;by_cases hlen:s'.length=s.length+1
 .have hst':=hst;unfold jiF at hst;split at hst
  .cases hst
  split at hst
  .cases hst;omega
  split at hst
  .split at hst
   .cases hst
   .cases hst;exact hrest.grow (by omega)
  .split at hst
   .cases hst;omega
   .cases hst
 .have hs:s'=s:=hor.elim (λh=>h.1) λh=>(hlen h).elim;subst hs;obtain⟨hv,hi,he⟩:=h;obtain⟨el,er⟩:=he (l,r) (by simp);unfold jiF at hst;split at hst
  .cases hst
  rename_i hsm;split at hst
  .cases hst;exact hrest
  split at hst
  .rename_i hvar;split at hst
   .cases hst
   .rename_i hno;simp only[jz,ze]at hst;rw[<-hst.2];exact hrest
  rename_i hnv;split at hst;rotate_left
  .cases hst
  simp only[jz,ze,true_and]at hst;subst hst;have sm:∀t,¬je7 t=false->dep t<=8:=λt ht=>by
   have:je7 t=true:=by cases h:je7 t with|true=>rfl|false=>exact(ht h).elim
   simp only[je7,jm,KR]at this;exact this.2
  have d1:=sm (sub s' l) λh=>hsm (Or.inl h);have d2:=sm (sub s' r) λh=>hsm (Or.inr h);have v1:jc2 (sub s' l).name=false:=by
   cases h:jc2 (sub s' l).name with
   |false=>rfl
   |true=>exact absurd (Or.inl h) hnv
  have v2:jc2 (sub s' r).name=false:=by
   cases h:jc2 (sub s' r).name with
   |false=>rfl
   |true=>exact absurd (Or.inr h) hnv
  have xl:AxT (sub s' l):=AxT.sub hv el.1;have xr:AxT (sub s' r):=AxT.sub hv er.1;have arg:∀w:T,AxT (sub s' w)->jc2 (sub s' w).name=false->IdS s'-> ∀u∈(sub s' w).args,sub s' u=u/\dep u+1<=dep (sub s' w):=λw xw vw hi u hu=>by
   refine⟨jqR u (xw.elim (λh=>jhB h u hu) λh=>h.2.2 u hu) λx hx=>jkt hi w (by rw[vsf vw,jjf];exact⟨u,hu,hx⟩),?_⟩
   have:=jrs hu;rw[jjY (sub s' w)];omega
  have p1:=jjY (sub s' l);have p2:=jjY (sub s' r);refine Hgt.blk 126 (s'.length+1) (max (dep (sub s' l)) (dep (sub s' r))-1) _ rest (by omega) (jR _) (by omega) ?_ (λ_ p hp=>?_) (g5.mono ?_)
  .rw [List.length_zip];have:=jmO xl;omega
  .have hm:=List.of_mem_zip (a:=p.1) (b:=p.2) hp;have q1:=arg l xl v1 hi p.1 hm.1;have q2:=arg r xr v2 hi p.2 hm.2;exact⟨q1.1,q2.1,by omega,by omega⟩
  .by_cases hτ:τ=s'.length+1
   .obtain ⟨w1,w2,w3,w4⟩:=g4 hτ;have w3:dep l<=δ:=w3;have w4:dep r<=δ:=w4;have w1:dep (sub s' l)=dep l:=congrArg dep w1;have w2:dep (sub s' r)=dep r:=congrArg dep w2;omega
   .omega
theorem jBH(a b:T):Hgt [] 126 [(a,b)]:=Hgt.blk 126 0 8 [(a,b)] [] (by omega) (by omega) (by omega) (by simp) (λh=>by simp at h) (Hgt.nil _)
theorem jnK{n:Nat}(h:n<=100000):jbk n 80=true:=by
 unfold jbk;exact decide_eq_true ⟨by omega,by omega⟩
theorem joo{x y:T}(h:jc2 x.name=true\/jc2 y.name=true):jc2 (jeY x y).1=true/\(((jeY x y).1=y.name/\(jeY x y).2=x)\/((jeY x y).1=x.name/\(jeY x y).2=y)):=by
 unfold jeY;split
 .rename_i hc;refine⟨?_,Or.inl ⟨rfl,rfl⟩⟩;rcases hc with hc|hc
  .rcases h with h|h
   .rw [hc]at h;cases h
   .exact h
  .exact hc.1
 .rename_i hc;refine⟨?_,Or.inr ⟨rfl,rfl⟩⟩;rcases Bool.eq_false_or_eq_true (jc2 x.name)with h2|h2
  .exact h2
  .exact absurd (Or.inl h2) hc
theorem juY{p:Xb×T}(hn:jc2 p.1=true):(!decide ((0:Int)<(cnt p.1 p.2:Nat)) && jfN [p])=(!decide (p.1∈jhx p.2) && jfN [p]):=by
 cases hv:jfN [p]with
 |false=>rw[Bool.and_false,Bool.and_false]
 |true=>
  have hk:okT p.2=true:=ji7 hv p (by simp);have:=jo8 hn p.2 hk;rw[Bool.and_true,Bool.and_true];congr 1;exact decide_eq_decide.2 (by rw[this];omega)
theorem jw0{p:Xb×T}(hn:jc2 p.1=true)(hz:Tz p.2):SzB [p]:=⟨by simp,λq hq=>by
 rw[jA.1 hq];exact⟨by have:=jo7 hn;omega,hz⟩⟩
theorem jmC(x y:T)(hx:AxT x)(hy:AxT y)(nx:nodes x<=3000)(ny:nodes y<=3000)(h:jc2 x.name=true\/jc2 y.name=true):G 73 [.agg [sv x.name,tms x.args,sv y.name,tms y.args]]=some (.tup [sb [jeY x y],vb (!decide ((jeY x y).1∈jhx (jeY x y).2) && jfN [jeY x y])],[]):=by
 have e1:=jjr x (hx.imp id λh=>h.1);have e2:=jjr y (hy.imp id λh=>h.1);obtain⟨hv,hor⟩:=joo h;have hz:Tz (jeY x y).2:=by
  rcases hor with h|h
  .rw [h.2];exact hx.tz (by omega)
  .rw [h.2];exact hy.tz (by omega)
 have hn:nodes (jeY x y).2<=3000:=by
  rcases hor with h|h
  .rw [h.2];exact nx
  .rw [h.2];exact ny
 have e3:=jjw (jeY x y).1 (jeY x y).2 hz.wf (by omega);have e4:G 109 [sv (jeY x y).1,tm (jeY x y).2]=some (vb (decide ((0:Int)<(cnt (jeY x y).1 (jeY x y).2:Nat))),[]):=by
  rw[jCI];simp only[evz,e3]
 have e5:=jpX [jeY x y] (jw0 hv hz);have e5:G 110 [.agg [.sl 3 [[sv (jeY x y).1,sv (jeY x y).2.name,tms (jeY x y).2.args]]]]=some (vb (jfN [jeY x y]),[]):=e5;rw[<-juY hv,g73];generalize hb:jfN [jeY x y]=vv at *;generalize ho:decide ((0:Int)<(cnt (jeY x y).1 (jeY x y).2:Nat))=oo at *;have hsb:sb [jeY x y] = .agg [.sl 3 [[sv (jeY x y).1,sv (jeY x y).2.name,tms (jeY x y).2.args]]]:=rfl;rw[hsb];have e5:(G 110 [.agg [.sl 3 [[sv (jeY x y).1,sv (jeY x y).2.name,tms (jeY x y).2.args]]]]).bind (fin true)=some (vb vv):=by rw[e5];rfl
 cases hx1:jc2 x.name<;>rw[hx1]at e1
 .have hbd:jeY x y=(y.name,x):=ju (Or.inl hx1);rw[hbd]at e4 e5⊢;have e4:G 109 [sv y.name,tm x]=some (vb oo,[]):=e4;have e5:(G 110 [.agg [.sl 3 [[sv y.name,sv x.name,tms x.args]]]]).bind (fin true)=some (vb vv):=e5;cases oo
  .simp only[evz,e1,e4,e5,Bool.true_and]
  .simp only[evz,e1,e4,Bool.false_and]
 .cases hy1:jc2 y.name<;>rw[hy1]at e2
  .have hbd:jeY x y=(x.name,y):=jo (by rw[hx1,hy1];simp)
   rw[hbd]at e4 e5⊢;have e4:G 109 [sv x.name,tm y]=some (vb oo,[]):=e4;have e5:(G 110 [.agg [.sl 3 [[sv x.name,sv y.name,tms y.args]]]]).bind (fin true)=some (vb vv):=e5;cases oo
   .simp only[evz,e1,e2,e4,e5,Bool.true_and]
   .simp only[evz,e1,e2,e4,Bool.false_and]
  .have e6:=jpM false y.name x.name;cases hc:sLt x.name y.name<;>rw[hc]at e6
   .have hbd:jeY x y=(x.name,y):=jo (by rw[hx1,hy1,hc];simp)
    rw[hbd]at e4 e5⊢;have e4:G 109 [sv x.name,tm y]=some (vb oo,[]):=e4;have e5:(G 110 [.agg [.sl 3 [[sv x.name,sv y.name,tms y.args]]]]).bind (fin true)=some (vb vv):=e5;cases oo
    .simp only[evz,e1,e2,e6,e4,e5,Bool.true_and]
    .simp only[evz,e1,e2,e6,e4,Bool.false_and]
   .have hbd:jeY x y=(y.name,x):=ju (Or.inr ⟨hy1,hc⟩);rw[hbd]at e4 e5⊢;have e4:G 109 [sv y.name,tm x]=some (vb oo,[]):=e4;have e5:(G 110 [.agg [.sl 3 [[sv y.name,sv x.name,tms x.args]]]]).bind (fin true)=some (vb vv):=e5;cases oo
    .simp only[evz,e1,e2,e6,e4,e5,Bool.true_and]
    .simp only[evz,e1,e2,e6,e4,Bool.false_and]
theorem jpG(s:je6)(hs:jfN s=true)(n:Xb)(t:T)(hn:jc2 n=true)(ht:Tz t)(hk:n∈jhx t\/t.name≠n):∃z:je6,G 86 [sb s,sv n,tm t]=some (if !decide (n∈jhx t) && (jfN [(n,t)] && jfN (jh0 s [(n,t)]))then .tup [sb (jh0 s [(n,t)]),vb true]else .tup [sb z,vb false],[]):=by
 obtain⟨r,e1,hr,hl⟩:=jpE t ht.wf (by have:=jiS t;have:=ht;unfold Tz at this;omega)
 have e2:=jqD r n hl;have hc:r.contains n=decide (n∈jhx t):=by
  cases h:r.contains n with
  |true=>rw[List.contains_iff_mem,hr]at h;exact(decide_eq_true h).symm
  |false=>
   refine(decide_eq_false λh2=>?_).symm;rw[<-hr,<-List.contains_iff_mem,h]at h2;cases h2
 rw[hc]at e2;rw[g86];by_cases hm:n∈jhx t
 .refine ⟨s,?_⟩;rw[decide_eq_true hm]at e2;rw[decide_eq_true hm,Bool.not_true,Bool.false_and,jo Bool.false_ne_true];simp only[evz,e1,e2]
 .refine ⟨[],?_⟩;have hne:¬t.name=n:=hk.resolve_left hm;rw[decide_eq_false hm]at e2;rw[decide_eq_false hm,Bool.not_false,Bool.true_and];have e3:jsB (sv n) (sv t.name) (tms t.args) []=some (.top,[.sl 3 [[sv n,sv t.name,tms t.args]]]):=by
   have k1:pB (jdD []) (jhi [] 0) (some (vi 0))=some 0:=rfl;have k2:pB (jdD []) (jhi [] 0) none=some 0:=rfl;have k3:pB 0 0 (some (vi 0))=some 0:=rfl;have k4:jh7 [] 0 (jh2 0 0)=[]:=rfl;have k5:jgD (jgD [] [[sv n,sv t.name,tms t.args]]) []=[[sv n,sv t.name,tms t.args]]:=rfl;have f0:jbk 0 56=true:=juc (by omega);have f1:jbk 1 56=true:=juc (by omega);have f2:(jgD [] [[sv n,sv t.name,tms t.args]]).length=1:=rfl;have eo:=jni t ht;have h00:¬((0:Int)<((0:Nat):Int)):=by omega
   rw[jz8];simp only[evz,hne];rw[jws];simp only[evz,h00,k1,k2,k3,k4,f0,f1,eo];generalize hB:K3 _ _ _=B;have hB':B=some (.agg [sv n,sv t.name,tms t.args]):=by rw[<-hB];kernel_rfl
   rw[hB'];simp only[evz,f1,k5,f2,Jt]
  have e4:=jro s [(n,t)] hs (jw0 hn ht);have r1:hR 3 (A.top,[.sl 3 [[sv n,sv t.name,tms t.args]]]) 0=some [[sv n,sv t.name,tms t.args]]:=rfl;have e4:G 122 [sb s,.agg [.sl 3 [[sv n,sv t.name,tms t.args]]]]=_:=e4;cases hb:jfN [(n,t)] && jfN (jh0 s [(n,t)])
  .rw [hb,jo Bool.false_ne_true]at e4;have e4:G 122 [sb s,.agg [.sl 3 [[sv n,sv t.name,tms t.args]]]]=some (.tup [.agg [.sl 3 []],vb false],[]):=e4;rw[jo Bool.false_ne_true];simp only[evz,e1,e2,e3,r1,e4];rfl
  .rw [hb,ju rfl]at e4;have e4:G 122 [sb s,.agg [.sl 3 [[sv n,sv t.name,tms t.args]]]]=some (.tup [sb (jh0 s [(n,t)]),vb true],[]):=e4;rw[ju rfl];simp only[evz,e1,e2,e3,r1,e4]
theorem jvQ{t:T}(h:AxT t)(hv:jc2 t.name=true):t = .mk t.name []:=by
 rcases h with h|h
 .have:=jjW h hv;cases t with
  |mk n us=>have:us=[]:=this;rw[this];rfl
 .rw [h.1]at hv;exact absurd hv (by decide)
theorem jsE{x y:T}(hx:AxT x)(hy:AxT y)(hne:dq x y=false)(hv:jc2 x.name=true\/jc2 y.name=true):jeY y x=jeY x y:=by
 unfold jeY;cases h1:jc2 x.name<;>cases h2:jc2 y.name
 .rw [h1,h2]at hv;rcases hv with h|h<;>cases h
 .simp
 .simp
 .have hxe:=jvQ hx h1;have hye:=jvQ hy h2;have hn:¬x.name=y.name:=λe=>jov.1 hne (by rw[hxe,hye,e]);have:=jn3 x.name y.name;rw[decide_eq_false hn,Bool.or_false]at this;cases h3:sLt y.name x.name<;>rw[h3]at this<;>simp[this]
theorem jx4{x y:T} :dq y x=dq x y:=by
 rw[Bool.eq_iff_iff,jh4,jh4];exact⟨Eq.symm,Eq.symm⟩
theorem jp2:∀(a b:Xg),b.zip a=(a.zip b).map Prod.swap
 | [],b=>by simp
 |x::a,[]=>by simp
 |x::a,y::b=>by simp[jp2 a b]
theorem js7{s:je6}(hs:jfN s=true){l r:T}(hl:AxT l)(hr:AxT r)(rest:Eqs):jiF s r l (rest.map Prod.swap)=(jiF s l r rest).map λq=>(q.1,q.2.map Prod.swap):=by
 have xl:=AxT.sub hs hl;have xr:=AxT.sub hs hr;unfold jiF;rw[jx4];by_cases h1:je7 (sub s l)=false\/je7 (sub s r)=false
 .rw [ju h1,ju h1.symm];rfl
 rw[jo h1,jo (λh=>h1 h.symm)];cases h2:dq (sub s l) (sub s r);rotate_left
 .rfl
 rw[jo Bool.false_ne_true,jo Bool.false_ne_true];by_cases h3:jc2 (sub s l).name=true\/jc2 (sub s r).name=true
 .rw [ju h3,ju h3.symm,jsE xl xr h2 h3];split<;>rfl
 rw[jo h3,jo (λh=>h3 h.symm)];by_cases h4:(sub s l).name=(sub s r).name/\(sub s l).args.length=(sub s r).args.length
 .rw [ju h4,ju ⟨h4.1.symm,h4.2.symm⟩,jp2];show _=some (s,List.map Prod.swap (_++_));rw[jbM]
 .rw [jo h4,jo (λh=>h4 ⟨h.1.symm,h.2.symm⟩)];rfl
theorem jo5:∀(k:Nat)(s:je6)(es:Eqs),jjE s es->jhp k s (es.map Prod.swap)=jhp k s es
 |0,s,[],_=>rfl
 |0,s,p::es,_=>rfl
 |k+1,s,[],_=>rfl
 |k+1,s,(l,r)::rest,h=>by
  have hl:AxT l:=(h.2.2 (l,r) (by simp)).1.1;have hr:AxT r:=(h.2.2 (l,r) (by simp)).2.1;show jhp (k+1) s ((r,l)::rest.map Prod.swap)=_;rw[jhp,jhp];simp only;rw[js7 h.1 hl hr];cases hst:jiF s l r rest with
  |none=>rfl
  |some q=>exact jo5 k q.1 q.2 (jiB h hst).1
theorem jsl{a b:T}(ha:Exx a)(hb:Exx b):jj2 b a=jj2 a b:=by
 obtain⟨k,hk⟩:=jju ha hb;obtain⟨m,hm⟩:=jju hb ha;have h:=jo5 m [] [(a,b)] (jpT ha hb);have hm':jhp m [] [(a,b)]=some (jj2 b a):=h.symm.trans hm;have h1:=jsj (Nat.le_max_left k m) hk;have h2:=jsj (Nat.le_max_right k m) hm';exact QY (h2.symm.trans h1)
mutual
def jjz:T->List Xf
 |.mk _ us=>[]::jmT 0 us
def jmT(i:Nat):Xg->List Xf
 | []=>[]
 |t::ts=>(jjz t).map (i::·)++jmT (i+1) ts
end
theorem juf(t:T):jjz t=[]::jmT 0 t.args:=by cases t;rfl
mutual
theorem jmU:∀t:T,(jjz t).length=nodes t
 |.mk n us=>by
  rw[jjz,nodes,KP,jrV us 0];omega
theorem jrV:∀(us:Xg)(i:Nat),(jmT i us).length=jcO us
 | [],i=>rfl
 |t::ts,i=>by
  rw[jmT,jcO,Y0,jbP,jmU t,jrV ts (i+1)]
end
mutual
theorem jlO:∀(t:T),∀p∈jjz t,okP p t/\p.length<=nodes t
 |.mk n us=>λp hp=>by
  rw[jjz,jK]at hp;rcases hp with hp|hp
  .subst hp;exact⟨trivial,by simp⟩
  .obtain ⟨j,q,rfl,h1,h2,h3⟩:=jue us 0 p hp;refine⟨?_,?_⟩
   .show (0+j)<us.length/\okP q (us.getD (0+j) _);rw[qM];exact⟨h1,h2⟩
   .rw [KP,nodes];omega
theorem jue:∀(us:Xg)(i:Nat),∀p∈jmT i us,∃j q,p=(i+j)::q/\j<us.length/\okP q (us.getD j (.mk [] []))/\q.length<=jcO us
 | [],i,p,hp=>by rw[jmT]at hp;cases hp
 |t::ts,i,p,hp=>by
  rw[jmT,j4]at hp;rcases hp with hp|hp
  .obtain ⟨q,hq,rfl⟩:=qQ.1 hp;obtain⟨h1,h2⟩:=jlO t q hq;exact⟨0,q,rfl,by simp,h1,by rw[jcO];omega⟩
  .obtain ⟨j,q,rfl,h1,h2,h3⟩:=jue ts (i+1) p hp;exact⟨j+1,q,by rw[show i+1+j=i+(j+1) by omega],by simpa using h1,by simpa using h2,by rw[jcO];omega⟩
end
def jiI(p:UInt8)(t:T):T:=jiv (jiC p (jiN [] t)) t
def RL(t:T):Prop:=t.name=[61]/\t.args.length=2/\okT (jge t)=true/\okT (jhE t)=true/\nodes t<=30
theorem juo{t:T}(h:t.name=[61])(he:jjS t=true):RL t:=by
 obtain⟨h1,h2,h3,h4⟩:=jsM he;unfold jjS at he;simp only[jm,KR]at he;have hn:nodes t<=30:=by have h4:=h4;simp only[je7,jm,KR]at h4;exact h4.1
 exact⟨h,h1,he.2.2.1,he.2.2.2,hn⟩
theorem RL.two{t:T}(h:RL t):t.args=[jge t,jhE t]:=by
 obtain⟨n,us⟩:=t;have h2:us.length=2:=h.2.1
 match us,h2 with
 | [a,b],_=>rfl
theorem RL.nd{t:T}(h:RL t):nodes (jge t)<=29/\nodes (jhE t)<=29:=by
 have h1:=jfw t;rw[h.two]at h1;simp only[jcO]at h1;have:=h.2.2.2.2;omega
theorem RL.rx{t:T}(h:RL t):AxT t:=Or.inr ⟨h.1,h.2.1,λu hu=>by
 rw[h.two]at hu;rcases jK.1 hu with rfl|hu
 .exact h.2.2.1
 .rw [jA.1 hu];exact h.2.2.2.1⟩
theorem jkQ{t:T}(h:nodes t<=900):(jiN [] t).length<=1000:=by
 have:=jlM t [];rw[YU]at this;omega
theorem jun{f:Xb->Xb}{t:T}(h:t.name=[61]):jiv f t = .mk [61] (t.args.map (jiv f)):=by
 have hv:jc2 t.name=false:=by rw[h];decide
 rw[jlb,hv,jo Bool.false_ne_true,h]
theorem joZ{p:UInt8}(hp:upc p=true){t:T}(h:RL t):RL (jiI p t):=by
 unfold jiI;have hl:=jkQ (t:=t) (by have:=h.2.2.2.2;omega);generalize jiN [] t=l at hl;have hn:=jnm (jiC p l) t;have hf:∀n,jc2 n=true->jc2 (jiC p l n)=true:=λn hn=>jm5 hp hl hn;rw[jun h.1,h.two]at hn⊢;exact⟨rfl,rfl,jqN hf _ h.2.2.1,jqN hf _ h.2.2.2.1,JU hn h.2.2.2.2⟩
def jjc(s:je6)(x y:T)(q:Xf):T:= .mk [61] [sub s (jhD (jhE x) q (jge y)),sub s (jhE y)]
noncomputable def jiu(x y:T)(q:Xf):Option T:=
 if jc2 (atT q (jge y)).name then none
 else match jj2 (jge x) (atT q (jge y))with
  |none=>none
  |some s=>if !je7 (jjc s x y q) || dq (sub s (jhD (jhE x) q (jge y))) (sub s (jhE y))then none else some (jiI 88 (jjc s x y q))
noncomputable def jl0(acc:Xg):Option T->Xg
 |none=>acc
 |some t=>if acc.any λu=>dq u t then acc else acc++[t]
noncomputable def jmp(x y:T):Xg:=(jjz (jge y)).foldl (λacc q=>jl0 acc (jiu x y q)) []
theorem jtK{q:Xf}{t:T}(h:okP q t)(hk:okT t=true):okT (atT q t)=true:=jqJ (q:=λt=>okT t=true) (λ_ h u hu=>jhB h u hu) h hk
theorem jlo:∀{q:Xf}{t:T},okP q t->nodes (atT q t)<=nodes t
 | [],_,_=>jR _
 |i::q,t,h=>by
  have:=jlo h.2;have h1:=jfw t;rw[ji3 h.1]at this;have h2:=jiH (YX h.1);show nodes (atT q (t.args.getD i (.mk [] [])))<=_;rw[ji3 h.1];omega
theorem jlu{t:T}(h:okT t=true)(hn:nodes t<=31):Exx t:=⟨Or.inl h,hn⟩
theorem jlN{x y:T}(hx:RL x)(hy:RL y){q:Xf}(hq:okP q (jge y)){s:je6}(hs:jfN s=true) :
  okT (jhD (jhE x) q (jge y))=true/\nodes (jhD (jhE x) q (jge y))<=58/\okT (sub s (jhD (jhE x) q (jge y)))=true/\okT (sub s (jhE y))=true/\nodes (jjc s x y q)<=2700:=by
 have h1:=juv hx.2.2.2.1 hq hy.2.2.1;have h2:=jpa (jhE x) q (jge y) hq;have nx:=hx.nd;have ny:=hy.nd;have h3:=jnn (u:=s) (Z:=30) (by decide) (jjg hs) (jhD (jhE x) q (jge y));have h4:=jnn (u:=s) (Z:=30) (by decide) (jjg hs) (jhE y);refine⟨h1,by omega,jkJ (ji7 hs) _ h1,jkJ (ji7 hs) _ hy.2.2.2.1,?_⟩;simp only[jjc,nodes,jcO];omega
abbrev ec(p:T×T):Xd:=[sv p.1.name,tms p.1.args,sv p.2.name,tms p.2.args]
theorem jlC{W:Eqs}{i:Nat}{p:T×T}(h:W[i]? = some p):jf5 (W.map ec) i 0 2=some (tm p.1)/\jf5 (W.map ec) i 2 2=some (tm p.2):=by
 unfold jf5;rw[kL,h];exact⟨rfl,rfl⟩
theorem jjt{W rest:Eqs}{p:T×T}{off:Nat}(h:W.drop off=p::rest):W[off]? = some p/\W.drop (off+1)=rest/\W.length=off+rest.length+1:=by
 have h1:=congrArg (λl=>l[0]?) h;simp only[ZF,Jt,List.getElem?_cons_zero]at h1;have h2:=congrArg (List.drop 1) h;rw[List.drop_drop]at h2;have h3:=congrArg List.length h;rw[List.length_drop,KP]at h3;exact⟨h1,h2,by omega⟩
theorem jm0{us vs:Xg}{i:Nat}(h1:i<us.length)(h2:i<vs.length):jgD (((us.zip vs).take i).map ec) [[sv us[i].name,tms us[i].args,sv vs[i].name,tms vs[i].args]]=((us.zip vs).take (i+1)).map ec:=by
 have hl:i<(us.zip vs).length:=by rw[List.length_zip];omega
 rw[List.take_add_one,jv hl,jbM,List.getElem_zip];rfl
theorem jlF{W:Eqs}(off:Nat):jh7 (W.map ec) off (W.length-off)=(W.drop off).map ec:=by
 rw[juk,<-List.map_drop,YZ (by rw[jbP,List.length_drop];omega)]
theorem jlT{s:je6}{l r:T}{rest:Eqs}(h1:je7 (sub s l)=true)(h2:je7 (sub s r)=true)(h3:dq (sub s l) (sub s r)=true):jiF s l r rest=some (s,rest):=by
 unfold jiF;rw[jo (by rw[h1,h2];simp),ju h3]
theorem jlR{s:je6}{l r:T}{rest:Eqs}(h1:je7 (sub s l)=true)(h2:je7 (sub s r)=true)(h3:dq (sub s l) (sub s r)=false)(h4:jc2 (sub s l).name=true\/jc2 (sub s r).name=true):jiF s l r rest=if(!decide ((jeY (sub s l) (sub s r)).1∈jhx (jeY (sub s l) (sub s r)).2) && jfN [jeY (sub s l) (sub s r)]) && jfN (jh0 s [jeY (sub s l) (sub s r)])then some (jh0 s [jeY (sub s l) (sub s r)],rest)else none:=by
 unfold jiF;rw[jo (by rw[h1,h2];simp),jo (by rw[h3];simp),ju h4];generalize jeY (sub s l) (sub s r)=p;by_cases c1:p.1∈jhx p.2
 .rw [ju (Or.inl c1),decide_eq_true c1];rfl
 .rw [decide_eq_false c1];cases c2:jfN [p]
  .rw [ju (Or.inr (Or.inl rfl))];rfl
  .cases c3:jfN (jh0 s [p])
   .rw [ju (Or.inr (Or.inr rfl))];rfl
   .rw [jo (by simp[c1])];rfl
theorem jlS{s:je6}{l r:T}{rest:Eqs}(h1:je7 (sub s l)=true)(h2:je7 (sub s r)=true)(h3:dq (sub s l) (sub s r)=false)(h4:jc2 (sub s l).name=false)(h5:jc2 (sub s r).name=false):jiF s l r rest=if(sub s l).name=(sub s r).name/\(sub s l).args.length=(sub s r).args.length then some (s,(sub s l).args.zip (sub s r).args++rest)else none:=by
 unfold jiF;rw[jo (by rw[h1,h2];simp),jo (by rw[h3];simp),jo (by rw[h4,h5];simp)]
theorem jhy{k:Nat}{s:je6}{l r:T}{rest:Eqs}{res:Option je6}(hst:jiF s l r rest=none)(h:jhp (k+1) s ((l,r)::rest)=some res):res=none:=by
 rw[jhp,hst]at h;exact(QY h).symm
theorem jiE{k:Nat}{s:je6}{l r:T}{rest:Eqs}{res:Option je6}{q:je6×Eqs}(hst:jiF s l r rest=some q)(h:jhp (k+1) s ((l,r)::rest)=some res):jhp k q.1 q.2=some res:=by
 rw[jhp,hst]at h;exact h
theorem jld{s:je6}{l r:T}{rest:Eqs}(h:jjE s ((l,r)::rest)):AxT l/\AxT r/\nodes l<=31/\nodes r<=31:=by
 obtain⟨h1,h2⟩:=h.2.2 (l,r) (by simp);exact⟨h1.1,h2.1,h1.2,h2.2⟩
theorem jAl(s:je6)(W:Eqs)(off:Nat)(hW:W.length<=1000)(x y:T)(hl:x.args.length=y.args.length)(h4:x.args.length<=4) :
  jtu (nA off) (nA (W.length-off)) (tms x.args) (vi (x.args.length:Nat)) (vi 0) (sbs s) (sv y.name) (tms y.args) (W.map ec) [] []=jps (sbs s) ((x.args.zip y.args++W.drop off).map ec) []:=by
 have h1:nOf (nA off)=off:=rfl;have h2:nOf (nA (W.length-off))=W.length-off:=rfl;have hend:jbk (((x.args.zip y.args).map ec).length+((W.drop off).map ec).length) 80=true:=by
  rw[jbP,jbP,List.length_zip,List.length_drop];exact jnK (by omega)
 have hzl:((x.args.zip y.args).map ec).length=x.args.length:=by rw[jbP,List.length_zip];omega
 have happ:jgD ((x.args.zip y.args).map ec) ((W.drop off).map ec)=(x.args.zip y.args++W.drop off).map ec:=by rw[jbM];rfl
 have step:∀i,(hi:i<x.args.length)->(hi2:i<y.args.length)->jgD (((x.args.zip y.args).take i).map ec) [[sv x.args[i].name,tms x.args[i].args,sv y.args[i].name,tms y.args[i].args]]=((x.args.zip y.args).take (i+1)).map ec:=λi hi hi2=>jm0 hi hi2;have key:=upto (P:=λi=>jvH (nA off) (nA (W.length-off)) (tms x.args) (vi (x.args.length:Nat)) (vi (i:Nat)) (sbs s) (sv y.name) (tms y.args) (W.map ec) (((x.args.zip y.args).take i).map ec) []=jps (sbs s) ((x.args.zip y.args++W.drop off).map ec) []) (n:=x.args.length) ?_ ?_
 .have hend2:(x.args.zip y.args).take x.args.length=x.args.zip y.args:=YZ (by rw[List.length_zip];omega)
  rw[jBM];by_cases h0:0<x.args.length
  .have hi:=h0;have hi2:0<y.args.length:=by omega
   have hlt:(0:Int)<((x.args.length:Nat):Int):=by omega
   have ix:=jaH (k:=2) (f:=jbY) hi;have ix2:=jaH (k:=2) (f:=jbY) hi2;have ta:=step 0 hi hi2;simp only[List.take_zero,List.map_nil,Int.natCast_zero,qM]at ta ix ix2;have hf:jbk 1 80=true:=jnK (by omega);have hck:ck (0+1)=some (vi ((1:Nat):Int)):=jgN (n:=0+1) (by omega) (by omega);have key:=key 1 (by omega);rw[<-key];simp only[evz,hlt,ix,ix2,jbV,hf,ta,hck,h1,h2]
  .have hlt:¬(0:Int)<((x.args.length:Nat):Int):=by omega
   have he:x.args=[]:=JQ (by omega);have hz:x.args.zip y.args=[]:=by rw[he];rfl
   rw[hz]at hend happ⊢;have hend:jbk ((W.drop off).map ec).length 80=true:=by simpa using hend
   have happ:jgD [] ((W.drop off).map ec)=(W.drop off).map ec:=rfl;simp only[evz,hlt,h1,h2,jlF,qf];rw[jbP]at hend;simp only[evz,hend,happ]
 .have hend2:(x.args.zip y.args).take x.args.length=x.args.zip y.args:=YZ (by rw[List.length_zip];omega)
  rw[hend2,jzt];have hlt:¬((x.args.length:Nat):Int)<((x.args.length:Nat):Int):=by omega
  rw[hzl,jbP]at hend;simp only[evz,hlt,h1,h2,jlF,happ];rw[List.length_zip,Nat.min_eq_left (by omega)];simp only[evz,hend]
 .intro i hi ih;have hi2:i<y.args.length:=by omega
  have hlt:((i:Nat):Int)<((x.args.length:Nat):Int):=by omega
  have ta:=step i hi hi2;have li:(((x.args.zip y.args).take i).map ec).length=i:=take_len (by rw[List.length_zip];omega);have hf:jbk (i+1) 80=true:=jnK (by omega);have hck:ck ((i:Int)+1)=some (vi ((i+1:Nat):Int)):=jgN (by omega) (by omega);generalize ((x.args.zip y.args).take i).map ec=R at *;rw[jzt,<-ih];simp only[evz,hlt,jaH hi,jaH hi2,jbV,li,hf,ta,hck,h1,h2]
theorem jAk(W:Eqs)(off:Nat)(hW:W.length<=1000)(x y:T)(hl:x.args.length=y.args.length)(h4:x.args.length<=4) :
  jtt (nA off) (nA (W.length-off)) (tms x.args) (vi (x.args.length:Nat)) (vi 0) (sv y.name) (tms y.args) (W.map ec) [] [] []=joi ((x.args.zip y.args++W.drop off).map ec) [] []:=by
 have h1:nOf (nA off)=off:=rfl;have h2:nOf (nA (W.length-off))=W.length-off:=rfl;have hend:jbk (((x.args.zip y.args).map ec).length+((W.drop off).map ec).length) 80=true:=by
  rw[jbP,jbP,List.length_zip,List.length_drop];exact jnK (by omega)
 have hzl:((x.args.zip y.args).map ec).length=x.args.length:=by rw[jbP,List.length_zip];omega
 have happ:jgD ((x.args.zip y.args).map ec) ((W.drop off).map ec)=(x.args.zip y.args++W.drop off).map ec:=by rw[jbM];rfl
 have step:∀i,(hi:i<x.args.length)->(hi2:i<y.args.length)->jgD (((x.args.zip y.args).take i).map ec) [[sv x.args[i].name,tms x.args[i].args,sv y.args[i].name,tms y.args[i].args]]=((x.args.zip y.args).take (i+1)).map ec:=λi hi hi2=>jm0 hi hi2;have key:=upto (P:=λi=>jvG (nA off) (nA (W.length-off)) (tms x.args) (vi (x.args.length:Nat)) (vi (i:Nat)) (sv y.name) (tms y.args) (W.map ec) (((x.args.zip y.args).take i).map ec) [] []=joi ((x.args.zip y.args++W.drop off).map ec) [] []) (n:=x.args.length) ?_ ?_
 .have hend2:(x.args.zip y.args).take x.args.length=x.args.zip y.args:=YZ (by rw[List.length_zip];omega)
  rw[jBL];by_cases h0:0<x.args.length
  .have hi:=h0;have hi2:0<y.args.length:=by omega
   have hlt:(0:Int)<((x.args.length:Nat):Int):=by omega
   have ix:=jaH (k:=2) (f:=jbY) hi;have ix2:=jaH (k:=2) (f:=jbY) hi2;have ta:=step 0 hi hi2;simp only[List.take_zero,List.map_nil,Int.natCast_zero,qM]at ta ix ix2;have hf:jbk 1 80=true:=jnK (by omega);have hck:ck (0+1)=some (vi ((1:Nat):Int)):=jgN (n:=0+1) (by omega) (by omega);have key:=key 1 (by omega);rw[<-key];simp only[evz,hlt,ix,ix2,jbV,hf,ta,hck,h1,h2]
  .have hlt:¬(0:Int)<((x.args.length:Nat):Int):=by omega
   have he:x.args=[]:=JQ (by omega);have hz:x.args.zip y.args=[]:=by rw[he];rfl
   rw[hz]at hend happ⊢;have hend:jbk ((W.drop off).map ec).length 80=true:=by simpa using hend
   have happ:jgD [] ((W.drop off).map ec)=(W.drop off).map ec:=rfl;simp only[evz,hlt,h1,h2,jlF,qf];rw[jbP]at hend;simp only[evz,hend,happ]
 .have hend2:(x.args.zip y.args).take x.args.length=x.args.zip y.args:=YZ (by rw[List.length_zip];omega)
  rw[hend2,jzs];have hlt:¬((x.args.length:Nat):Int)<((x.args.length:Nat):Int):=by omega
  rw[hzl,jbP]at hend;simp only[evz,hlt,h1,h2,jlF,happ];rw[List.length_zip,Nat.min_eq_left (by omega)];simp only[evz,hend]
 .intro i hi ih;have hi2:i<y.args.length:=by omega
  have hlt:((i:Nat):Int)<((x.args.length:Nat):Int):=by omega
  have ta:=step i hi hi2;have li:(((x.args.zip y.args).take i).map ec).length=i:=take_len (by rw[List.length_zip];omega);have hf:jbk (i+1) 80=true:=jnK (by omega);have hck:ck ((i:Int)+1)=some (vi ((i+1:Nat):Int)):=jgN (by omega) (by omega);generalize ((x.args.zip y.args).take i).map ec=R at *;rw[jzs,<-ih];simp only[evz,hlt,jaH hi,jaH hi2,jbV,li,hf,ta,hck,h1,h2]
def US(s:je6)(es:Eqs)(o:Xe):Prop:=
 (∀(W:Eqs)(off:Nat),W.drop off=es->off<=W.length->W.length<=1000->jmy (nA off) (nA (W.length-off)) (sbs s) (W.map ec) []=o)/\jps (sbs s) (es.map ec) []=o/\
 (s=[]->(∀(W:Eqs)(off:Nat),W.drop off=es->off<=W.length->W.length<=1000->jq5 (nA off) (nA (W.length-off)) (W.map ec) [] []=o)/\joi (es.map ec) [] []=o)
theorem un2(k:Nat)(ih:∀(s:je6)(es:Eqs)(res:Option je6),jjE s es->Hgt s 126 es->jhp k s es=some res->US s es (jiV res))(s:je6)(l r:T)(rest:Eqs)(hi:jjE s ((l,r)::rest))(hg:Hgt s 126 ((l,r)::rest))(res:Option je6)(hu:jhp (k+1) s ((l,r)::rest)=some res)(W:Eqs)(off:Nat)(hW:W.drop off=(l,r)::rest)(hlen:W.length<=1000):jmy (nA off) (nA (W.length-off)) (sbs s) (W.map ec) []=jiV res:=by
 obtain⟨d1,d2,d3⟩:=jjt hW;obtain⟨r1,r2⟩:=jlC d1;obtain⟨al,ar,nl,nr⟩:=jld hi;have hv:=hi.1;have e1:=jkw s hv l al (by omega);have e2:=jkw s hv r ar (by omega);have w1:nOf (nA off)=off:=rfl;have w2:nOf (nA (W.length-off))=W.length-off:=rfl;have g1:jgx .gtr false (nA (W.length-off)) (vi 0)=some (vb true):=by
  show some (vb (decide ((0:Int)<((W.length-off:Nat):Int))))=_;rw[decide_eq_true (by omega)]
 have g2:pIx (W.length-off) (vi 0)=some 0:=jiG (i:=0) (by omega);have g3:pB (W.length-off) (jhi (W.map ec) off) none=some (W.length-off):=by
  rw[show jhi (W.map ec) off=W.length-off by rw[jkb,jbP]];exact jiW (jR _)
 have g4:pB 0 (W.length-off) (some (vi 1))=some 1:=jlA (n:=1) (by omega);have hn:jh2 (W.length-off) 1=W.length-(off+1):=by unfold jh2;omega
 rw[jwJ];cases sl:je7 (sub s l)<;>rw[sl]at e1
 .have e1:G 72 [sb s,tm l]=some (.tup [.agg [sv [],.sl 2 []],vb false],[]):=e1;have hr:res=none:=jhy (by unfold jiF;rw[ju (Or.inl sl)]) hu;subst hr;obtain⟨q,e2⟩:∃q:T×Bool,G 72 [sb s,tm r]=some (.tup [tm q.1,vb q.2],[]):=by
   cases h:je7 (sub s r)<;>rw[h]at e2
   .exact ⟨(.mk [] [],false),e2⟩
   .exact ⟨(sub s r,true),e2⟩
  simp only[evz,w1,w2,g1,g2,g3,g4,Jt,r1,r2,e1,e2];rfl
 have e1:G 72 [sb s,tm l]=some (.tup [tm (sub s l),vb true],[]):=e1;cases sr:je7 (sub s r)<;>rw[sr]at e2
 .have e2:G 72 [sb s,tm r]=some (.tup [.agg [sv [],.sl 2 []],vb false],[]):=e2;have hr:res=none:=jhy (by unfold jiF;rw[ju (Or.inr sr)]) hu;subst hr;simp only[evz,w1,w2,g1,g2,g3,g4,Jt,r1,r2,e1,e2];rfl
 have e2:G 72 [sb s,tm r]=some (.tup [tm (sub s r),vb true],[]):=e2;have xl:AxT (sub s l):=AxT.sub hv al;have xr:AxT (sub s r):=AxT.sub hv ar;have ml:=jiA sl;have mr:=jiA sr;have tl:=xl.tz (by omega);have tr:=xr.tz (by omega);have e3:=jix (sub s l) tl.wf (sub s r) tr.wf;have ll:=(jf9 hv).1;cases hd:dq (sub s l) (sub s r)<;>rw[hd]at e3
 rotate_left
 .have hst:=jlT (rest:=rest) sl sr hd;have hnext:=ih _ _ res (jiB hi hst).1 (ji5 hi hg hst) (jiE hst hu);have hnext:=hnext.1 W (off+1) d2 (by omega) hlen;simp only[evz,w1,w2,g1,g2,g3,g4,Jt,r1,r2,e1,e2,e3,hn];exact hnext
 have v1:=jjr (sub s l) (xl.imp id λh=>h.1);have v2:=jjr (sub s r) (xr.imp id λh=>h.1);have bindC:jc2 (sub s l).name=true\/jc2 (sub s r).name=true->(∃q:Bool,G 73 [.agg [sv (sub s l).name,tms (sub s l).args,sv (sub s r).name,tms (sub s r).args]]=some (.tup [sb [jeY (sub s l) (sub s r)],vb q],[])/\(q=false->jiV res=jiV none)/\(q=true-> ∃q2:Bool,∃u:je6,G 74 [sb s,sb [jeY (sub s l) (sub s r)]]=some (.tup [sb u,vb q2],[])/\(q2=false->jiV res=jiV none)/\(q2=true->jmy (nA (off+1)) (nA (W.length-(off+1))) (sbs u) (W.map ec) []=jiV res))):=by
  intro hvar;have hst:=jlR (rest:=rest) sl sr hd hvar;refine⟨_,jmC _ _ xl xr (by omega) (by omega) hvar,λhq=>?_,λhq=>?_⟩
  .rw [hq,Bool.false_and,jo Bool.false_ne_true]at hst;rw[jhy hst hu]
  .rw [hq,Bool.true_and]at hst;have hvp:jfN [jeY (sub s l) (sub s r)]=true:=by
    rw[jm]at hq;exact hq.2
   have ec1:=jns s [jeY (sub s l) (sub s r)] hv hvp;cases hc:jfN (jh0 s [jeY (sub s l) (sub s r)])
   .rw [hc,jo Bool.false_ne_true]at hst ec1;exact⟨false,[],ec1,λ_=>by rw[jhy hst hu],λh=>by cases h⟩
   .rw [hc,ju rfl]at hst ec1;refine⟨true,_,ec1,(λh=>by cases h),λ_=>?_⟩;have hnext:=ih _ _ res (jiB hi hst).1 (ji5 hi hg hst) (jiE hst hu);exact hnext.1 W (off+1) d2 (by omega) hlen
 have close:jc2 (sub s l).name=true\/jc2 (sub s r).name=true->_:=bindC;clear bindC;cases vl:jc2 (sub s l).name<;>rw[vl]at v1
 rotate_left
 .obtain ⟨q,b1,b2,b3⟩:=close (Or.inl vl);cases q
  .rw [b2 rfl];simp only[evz,w1,w2,g1,g2,g3,g4,Jt,r1,r2,e1,e2,e3,v1,v2,b1];rfl
  .obtain ⟨q2,u,b4,b5,b6⟩:=b3 rfl;cases q2
   .rw [b5 rfl];simp only[evz,w1,w2,g1,g2,g3,g4,Jt,r1,r2,e1,e2,e3,v1,v2,b1,b4];rfl
   .rw [<-b6 rfl];simp only[evz,w1,w2,g1,g2,g3,g4,Jt,r1,r2,e1,e2,e3,v1,v2,b1,b4,hn]
 cases vr:jc2 (sub s r).name<;>rw[vr]at v2
 rotate_left
 .obtain ⟨q,b1,b2,b3⟩:=close (Or.inr vr);cases q
  .rw [b2 rfl];simp only[evz,w1,w2,g1,g2,g3,g4,Jt,r1,r2,e1,e2,e3,v1,v2,b1];rfl
  .obtain ⟨q2,u,b4,b5,b6⟩:=b3 rfl;cases q2
   .rw [b5 rfl];simp only[evz,w1,w2,g1,g2,g3,g4,Jt,r1,r2,e1,e2,e3,v1,v2,b1,b4];rfl
   .rw [<-b6 rfl];simp only[evz,w1,w2,g1,g2,g3,g4,Jt,r1,r2,e1,e2,e3,v1,v2,b1,b4,hn]
 have hst:=jlS (rest:=rest) sl sr hd vl vr;by_cases hnm:(sub s l).name=(sub s r).name;rotate_left
 .rw [jo (λh=>hnm h.1)]at hst;have hnd:=decide_eq_false hnm;rw[jhy hst hu];simp only[evz,w1,w2,g1,g2,g3,g4,Jt,r1,r2,e1,e2,e3,v1,v2,hnd];rfl
 have hnd:=decide_eq_true hnm;by_cases hal:(sub s l).args.length=(sub s r).args.length;rotate_left
 .rw [jo (λh=>hal h.2)]at hst;have hal':decide ((((sub s l).args.length:Nat):Int)=(((sub s r).args.length:Nat):Int))=false:=decide_eq_false (by omega);rw[jhy hst hu];simp only[evz,w1,w2,g1,g2,g3,g4,Jt,r1,r2,e1,e2,e3,v1,v2,hnd,hal'];rfl
 rw[ju ⟨hnm,hal⟩]at hst;have hnext:=ih _ _ res (jiB hi hst).1 (ji5 hi hg hst) (jiE hst hu);have hnext:=hnext.2.1;have hin:=jAl s W (off+1) hlen (sub s l) (sub s r) hal (jmO xl);rw[d2]at hin;rw[hnext]at hin;have hal':decide ((((sub s l).args.length:Nat):Int)=(((sub s r).args.length:Nat):Int))=true:=decide_eq_true (by omega);simp only[evz,w1,w2,g1,g2,g3,g4,Jt,r1,r2,e1,e2,e3,v1,v2,hnd,hal',hn];exact hin
theorem un8(k:Nat)(ih:∀(s:je6)(es:Eqs)(res:Option je6),jjE s es->Hgt s 126 es->jhp k s es=some res->US s es (jiV res))(s:je6)(l r:T)(rest:Eqs)(hi:jjE s ((l,r)::rest))(hg:Hgt s 126 ((l,r)::rest))(res:Option je6)(hu:jhp (k+1) s ((l,r)::rest)=some res)(W:Eqs)(hW:W=(l,r)::rest)(hlen:W.length<=1000):jps (sbs s) (W.map ec) []=jiV res:=by
 have hW0:W.drop 0=(l,r)::rest:=hW;rw[<-un2 k ih s l r rest hi hg res hu W 0 hW0 hlen];obtain⟨d1,d2,d3⟩:=jjt hW0;obtain⟨r1,r2⟩:=jlC d1;have w1:nOf (nA 0)=0:=rfl;have w2:nOf (nA W.length)=W.length:=rfl;have f1:jgx .gtr false (nA W.length) (vi 0)=some (vb true):=by
  show some (vb (decide ((0:Int)<((W.length:Nat):Int))))=_;rw[decide_eq_true (by omega)]
 have f3:pB W.length (jhi (W.map ec) 0) none=some W.length:=by
  rw[show jhi (W.map ec) 0=W.length by rw[jkb,jbP];rfl];exact jiW (jR _)
 have g2:pIx W.length (vi 0)=some 0:=jiG (i:=0) (by omega);have g3:pB (jdD (W.map ec)) (jhi (W.map ec) 0) none=some W.length:=by
  rw[jkg,f3]
 have g4:pB 0 W.length (some (vi 1))=some 1:=jlA (n:=1) (by omega);have g0:(0:Int)<((W.length:Nat):Int):=by omega
 rw[jzu,jwJ,Nat.sub_zero];simp only[evz,w1,w2,f1,f3,g0,g2,g3,g4,r1,r2]
theorem un1(k:Nat)(ih:∀(s:je6)(es:Eqs)(res:Option je6),jjE s es->Hgt s 126 es->jhp k s es=some res->US s es (jiV res))(l r:T)(rest:Eqs)(hi:jjE [] ((l,r)::rest))(hg:Hgt [] 126 ((l,r)::rest))(res:Option je6)(hu:jhp (k+1) [] ((l,r)::rest)=some res)(W:Eqs)(off:Nat)(hW:W.drop off=(l,r)::rest)(hlen:W.length<=1000):jq5 (nA off) (nA (W.length-off)) (W.map ec) [] []=jiV res:=by
 obtain⟨d1,d2,d3⟩:=jjt hW;obtain⟨r1,r2⟩:=jlC d1;obtain⟨al,ar,nl,nr⟩:=jld hi;have hv:=hi.1;have e1:=jkw [] hv l al (by omega);have e2:=jkw [] hv r ar (by omega);have w1:nOf (nA off)=off:=rfl;have w2:nOf (nA (W.length-off))=W.length-off:=rfl;have g1:jgx .gtr false (nA (W.length-off)) (vi 0)=some (vb true):=by
  show some (vb (decide ((0:Int)<((W.length-off:Nat):Int))))=_;rw[decide_eq_true (by omega)]
 have g2:pIx (W.length-off) (vi 0)=some 0:=jiG (i:=0) (by omega);have g3:pB (W.length-off) (jhi (W.map ec) off) none=some (W.length-off):=by
  rw[show jhi (W.map ec) off=W.length-off by rw[jkb,jbP]];exact jiW (jR _)
 have g4:pB 0 (W.length-off) (some (vi 1))=some 1:=jlA (n:=1) (by omega);have hn:jh2 (W.length-off) 1=W.length-(off+1):=by unfold jh2;omega
 rw[jwI];cases sl:je7 (sub [] l)<;>rw[sl]at e1
 .have e1:G 72 [.agg [.sl 3 []],tm l]=some (.tup [.agg [sv [],.sl 2 []],vb false],[]):=e1;have hr:res=none:=jhy (by unfold jiF;rw[ju (Or.inl sl)]) hu;subst hr;obtain⟨q,e2⟩:∃q:T×Bool,G 72 [.agg [.sl 3 []],tm r]=some (.tup [tm q.1,vb q.2],[]):=by
   cases h:je7 (sub [] r)<;>rw[h]at e2
   .exact ⟨(.mk [] [],false),e2⟩
   .exact ⟨(sub [] r,true),e2⟩
  simp only[evz,w1,w2,g1,g2,g3,g4,Jt,r1,r2,e1,e2];rfl
 have e1:G 72 [.agg [.sl 3 []],tm l]=some (.tup [tm (sub [] l),vb true],[]):=e1;cases sr:je7 (sub [] r)<;>rw[sr]at e2
 .have e2:G 72 [.agg [.sl 3 []],tm r]=some (.tup [.agg [sv [],.sl 2 []],vb false],[]):=e2;have hr:res=none:=jhy (by unfold jiF;rw[ju (Or.inr sr)]) hu;subst hr;simp only[evz,w1,w2,g1,g2,g3,g4,Jt,r1,r2,e1,e2];rfl
 have e2:G 72 [.agg [.sl 3 []],tm r]=some (.tup [tm (sub [] r),vb true],[]):=e2;have xl:AxT (sub [] l):=AxT.sub hv al;have xr:AxT (sub [] r):=AxT.sub hv ar;have ml:=jiA sl;have mr:=jiA sr;have tl:=xl.tz (by omega);have tr:=xr.tz (by omega);have e3:=jix (sub [] l) tl.wf (sub [] r) tr.wf;have ll:=(jf9 hv).1;cases hd:dq (sub [] l) (sub [] r)<;>rw[hd]at e3
 rotate_left
 .have hst:=jlT (rest:=rest) sl sr hd;have hnext:=ih _ _ res (jiB hi hst).1 (ji5 hi hg hst) (jiE hst hu);have hnext:=(hnext.2.2 rfl).1 W (off+1) d2 (by omega) hlen;simp only[evz,w1,w2,g1,g2,g3,g4,Jt,r1,r2,e1,e2,e3,hn];exact hnext
 have v1:=jjr (sub [] l) (xl.imp id λh=>h.1);have v2:=jjr (sub [] r) (xr.imp id λh=>h.1);have bindC:jc2 (sub [] l).name=true\/jc2 (sub [] r).name=true->(∃q:Bool,G 73 [.agg [sv (sub [] l).name,tms (sub [] l).args,sv (sub [] r).name,tms (sub [] r).args]]=some (.tup [sb [jeY (sub [] l) (sub [] r)],vb q],[])/\(q=false->jiV res=jiV none)/\(q=true-> ∃q2:Bool,∃u:je6,G 74 [.agg [.sl 3 []],sb [jeY (sub [] l) (sub [] r)]]=some (.tup [sb u,vb q2],[])/\(q2=false->jiV res=jiV none)/\(q2=true->jmy (nA (off+1)) (nA (W.length-(off+1))) (sbs u) (W.map ec) []=jiV res))):=by
  intro hvar;have hst:=jlR (rest:=rest) sl sr hd hvar;refine⟨_,jmC _ _ xl xr (by omega) (by omega) hvar,λhq=>?_,λhq=>?_⟩
  .rw [hq,Bool.false_and,jo Bool.false_ne_true]at hst;rw[jhy hst hu]
  .rw [hq,Bool.true_and]at hst;have hvp:jfN [jeY (sub [] l) (sub [] r)]=true:=by
    rw[jm]at hq;exact hq.2
   have ec1:=jns [] [jeY (sub [] l) (sub [] r)] hv hvp;cases hc:jfN (jh0 [] [jeY (sub [] l) (sub [] r)])
   .rw [hc,jo Bool.false_ne_true]at hst ec1;exact⟨false,[],ec1,λ_=>by rw[jhy hst hu],λh=>by cases h⟩
   .rw [hc,ju rfl]at hst ec1;refine⟨true,_,ec1,(λh=>by cases h),λ_=>?_⟩;have hnext:=ih _ _ res (jiB hi hst).1 (ji5 hi hg hst) (jiE hst hu);exact hnext.1 W (off+1) d2 (by omega) hlen
 have close:jc2 (sub [] l).name=true\/jc2 (sub [] r).name=true->_:=bindC;clear bindC;cases vl:jc2 (sub [] l).name<;>rw[vl]at v1
 rotate_left
 .obtain ⟨q,b1,b2,b3⟩:=close (Or.inl vl);cases q
  .rw [b2 rfl];simp only[evz,w1,w2,g1,g2,g3,g4,Jt,r1,r2,e1,e2,e3,v1,v2,b1];rfl
  .obtain ⟨q2,u,b4,b5,b6⟩:=b3 rfl;cases q2
   .rw [b5 rfl];simp only[evz,w1,w2,g1,g2,g3,g4,Jt,r1,r2,e1,e2,e3,v1,v2,b1,b4];rfl
   .rw [<-b6 rfl];simp only[evz,w1,w2,g1,g2,g3,g4,Jt,r1,r2,e1,e2,e3,v1,v2,b1,b4,hn]
 cases vr:jc2 (sub [] r).name<;>rw[vr]at v2
 rotate_left
 .obtain ⟨q,b1,b2,b3⟩:=close (Or.inr vr);cases q
  .rw [b2 rfl];simp only[evz,w1,w2,g1,g2,g3,g4,Jt,r1,r2,e1,e2,e3,v1,v2,b1];rfl
  .obtain ⟨q2,u,b4,b5,b6⟩:=b3 rfl;cases q2
   .rw [b5 rfl];simp only[evz,w1,w2,g1,g2,g3,g4,Jt,r1,r2,e1,e2,e3,v1,v2,b1,b4];rfl
   .rw [<-b6 rfl];simp only[evz,w1,w2,g1,g2,g3,g4,Jt,r1,r2,e1,e2,e3,v1,v2,b1,b4,hn]
 have hst:=jlS (rest:=rest) sl sr hd vl vr;by_cases hnm:(sub [] l).name=(sub [] r).name;rotate_left
 .rw [jo (λh=>hnm h.1)]at hst;have hnd:=decide_eq_false hnm;rw[jhy hst hu];simp only[evz,w1,w2,g1,g2,g3,g4,Jt,r1,r2,e1,e2,e3,v1,v2,hnd];rfl
 have hnd:=decide_eq_true hnm;by_cases hal:(sub [] l).args.length=(sub [] r).args.length;rotate_left
 .rw [jo (λh=>hal h.2)]at hst;have hal':decide ((((sub [] l).args.length:Nat):Int)=(((sub [] r).args.length:Nat):Int))=false:=decide_eq_false (by omega);rw[jhy hst hu];simp only[evz,w1,w2,g1,g2,g3,g4,Jt,r1,r2,e1,e2,e3,v1,v2,hnd,hal'];rfl
 rw[ju ⟨hnm,hal⟩]at hst;have hnext:=ih _ _ res (jiB hi hst).1 (ji5 hi hg hst) (jiE hst hu);have hnext:=(hnext.2.2 rfl).2;have hin:=jAk W (off+1) hlen (sub [] l) (sub [] r) hal (jmO xl);rw[d2]at hin;rw[hnext]at hin;have hal':decide ((((sub [] l).args.length:Nat):Int)=(((sub [] r).args.length:Nat):Int))=true:=decide_eq_true (by omega);simp only[evz,w1,w2,g1,g2,g3,g4,Jt,r1,r2,e1,e2,e3,v1,v2,hnd,hal',hn];exact hin
theorem un6(k:Nat)(ih:∀(s:je6)(es:Eqs)(res:Option je6),jjE s es->Hgt s 126 es->jhp k s es=some res->US s es (jiV res))(l r:T)(rest:Eqs)(hi:jjE [] ((l,r)::rest))(hg:Hgt [] 126 ((l,r)::rest))(res:Option je6)(hu:jhp (k+1) [] ((l,r)::rest)=some res)(W:Eqs)(hW:W=(l,r)::rest)(hlen:W.length<=1000):joi (W.map ec) [] []=jiV res:=by
 have hW0:W.drop 0=(l,r)::rest:=hW;rw[<-un1 k ih l r rest hi hg res hu W 0 hW0 hlen];obtain⟨d1,d2,d3⟩:=jjt hW0;obtain⟨r1,r2⟩:=jlC d1;have w1:nOf (nA 0)=0:=rfl;have w2:nOf (nA W.length)=W.length:=rfl;have f1:jgx .gtr false (nA W.length) (vi 0)=some (vb true):=by
  show some (vb (decide ((0:Int)<((W.length:Nat):Int))))=_;rw[decide_eq_true (by omega)]
 have f3:pB W.length (jhi (W.map ec) 0) none=some W.length:=by
  rw[show jhi (W.map ec) 0=W.length by rw[jkb,jbP];rfl];exact jiW (jR _)
 have g2:pIx W.length (vi 0)=some 0:=jiG (i:=0) (by omega);have g3:pB (jdD (W.map ec)) (jhi (W.map ec) 0) none=some W.length:=by
  rw[jkg,f3]
 have g4:pB 0 W.length (some (vi 1))=some 1:=jlA (n:=1) (by omega);have g0:(0:Int)<((W.length:Nat):Int):=by omega
 rw[jwK,jwI,Nat.sub_zero];simp only[evz,w1,w2,f1,f3,g0,g2,g3,g4,r1,r2]
theorem jzY(s:je6):US s [] (jiV (some s)):=by
 refine⟨λW off hW h1 h2=>?_,?_,λhs=>?_⟩
 .have h3:=congrArg List.length hW;rw[List.length_drop,YU]at h3;have w2:nOf (nA (W.length-off))=W.length-off:=rfl;have g1:jgx .gtr false (nA (W.length-off)) (vi 0)=some (vb false):=by
   show some (vb (decide ((0:Int)<((W.length-off:Nat):Int))))=_;rw[decide_eq_false (by omega)]
  rw[jwJ];simp only[evz,w2,g1];rfl
 .rw [jzu];have g1:jgx .gtr false (jdE (List.map ec [])) (vi 0)=some (vb false):=rfl;simp only[evz];rfl
 .subst hs;refine⟨λW off hW h1 h2=>?_,?_⟩
  .have h3:=congrArg List.length hW;rw[List.length_drop,YU]at h3;have w2:nOf (nA (W.length-off))=W.length-off:=rfl;have g1:jgx .gtr false (nA (W.length-off)) (vi 0)=some (vb false):=by
    show some (vb (decide ((0:Int)<((W.length-off:Nat):Int))))=_;rw[decide_eq_false (by omega)]
   rw[jwI];simp only[evz,w2,g1];rfl
  .rw [jwK];have g1:jgx .gtr false (jdE (List.map ec [])) (vi 0)=some (vb false):=rfl;simp only[evz];rfl
theorem jB8:∀(k:Nat)(s:je6)(es:Eqs)(res:Option je6),jjE s es->Hgt s 126 es->jhp k s es=some res->US s es (jiV res):=by
 intro k;induction k with
 |zero=>
  intro s es res hi hg hu;cases es with
  |nil=>simp only[jhp,jz]at hu;rw[<-hu];exact jzY s
  |cons p es=>simp[jhp]at hu
 |succ k ih=>
  intro s es res hi hg hu;cases es with
  |nil=>simp only[jhp,jz]at hu;rw[<-hu];exact jzY s
  |cons p rest=>
   obtain⟨l,r⟩:=p;have hl:=hg.len;refine⟨λW off hW _ hlen=>un2 k ih s l r rest hi hg res hu W off hW hlen,un8 k ih s l r rest hi hg res hu _ rfl (by omega),λhs=>?_⟩;subst hs;exact⟨λW off hW _ hlen=>un1 k ih l r rest hi hg res hu W off hW hlen,un6 k ih l r rest hi hg res hu _ rfl (by omega)⟩
theorem jDu(W:Eqs):jvF (W.map ec) [] []=joi (W.map ec) [] []:=by
 rw[jBK,jwK]
theorem jxG(a b:T)(ha:Exx a)(hb:Exx b):G 42 [tm a,tm b]=jiV (jj2 a b):=by
 obtain⟨k,hk⟩:=jju ha hb;have h:=((jB8 k [] [(a,b)] _ (jpT ha hb) (jBH a b) hk).2.2 rfl).2;rw[<-jDu]at h;rw[g42];simp only[evz];exact h
theorem jyA(s:je6)(W:Eqs)(off:Nat)(hW:W.length<=1000)(x y:T)(hl:x.args.length=y.args.length)(h4:x.args.length<=4) :
  jtA (nA off) (nA (W.length-off)) (vb true) (vi 0) (sbs s) (sv x.name) (tms x.args) (sv y.name) (tms y.args) (W.map ec) [] [] []=jpu (sbs s) ((x.args.zip y.args++W.drop off).map ec) [] []:=by
 have h1:nOf (nA off)=off:=rfl;have h2:nOf (nA (W.length-off))=W.length-off:=rfl;have hend:jbk (((x.args.zip y.args).map ec).length+((W.drop off).map ec).length) 80=true:=by
  rw[jbP,jbP,List.length_zip,List.length_drop];exact jnK (by omega)
 have hzl:((x.args.zip y.args).map ec).length=x.args.length:=by rw[jbP,List.length_zip];omega
 have happ:jgD ((x.args.zip y.args).map ec) ((W.drop off).map ec)=(x.args.zip y.args++W.drop off).map ec:=by rw[jbM];rfl
 have step:∀i,(hi:i<x.args.length)->(hi2:i<y.args.length)->jgD (((x.args.zip y.args).take i).map ec) [[sv x.args[i].name,tms x.args[i].args,sv y.args[i].name,tms y.args[i].args]]=((x.args.zip y.args).take (i+1)).map ec:=λi hi hi2=>jm0 hi hi2;have key:=upto (P:=λi=>jvM (nA off) (nA (W.length-off)) (vb true) (vi (i:Nat)) (sbs s) (sv x.name) (tms x.args) (sv y.name) (tms y.args) (W.map ec) (((x.args.zip y.args).take i).map ec) [] []=jpu (sbs s) ((x.args.zip y.args++W.drop off).map ec) [] []) (n:=x.args.length) ?_ ?_
 .have hend2:(x.args.zip y.args).take x.args.length=x.args.zip y.args:=YZ (by rw[List.length_zip];omega)
  rw[jBQ];by_cases h0:0<x.args.length
  .have hi:=h0;have hi2:0<y.args.length:=by omega
   have hlt:(0:Int)<((x.args.length:Nat):Int):=by omega
   have ix:=jaH (k:=2) (f:=jbY) hi;have ix2:=jaH (k:=2) (f:=jbY) hi2;have ta:=step 0 hi hi2;simp only[List.take_zero,List.map_nil,Int.natCast_zero,qM]at ta ix ix2;have hf:jbk 1 80=true:=jnK (by omega);have hck:ck (0+1)=some (vi ((1:Nat):Int)):=jgN (n:=0+1) (by omega) (by omega);have key:=key 1 (by omega);rw[<-key];simp only[evz,hlt,ix,ix2,jbV,hf,hck,h1,h2];generalize hB:K3 _ _ _=B;have hB':B=some (.agg [sv x.args[0].name,tms x.args[0].args,sv y.args[0].name,tms y.args[0].args]):=by rw[<-hB];kernel_rfl
   rw[hB'];simp only[evz,ta]
  .have hlt:¬(0:Int)<((x.args.length:Nat):Int):=by omega
   have he:x.args=[]:=JQ (by omega);have hz:x.args.zip y.args=[]:=by rw[he];rfl
   rw[hz]at hend happ⊢;have hend:jbk ((W.drop off).map ec).length 80=true:=by simpa using hend
   have happ:jgD [] ((W.drop off).map ec)=(W.drop off).map ec:=rfl;simp only[evz,hlt,h1,h2,jlF,qf];rw[jbP]at hend;simp only[evz,hend,happ]
 .have hend2:(x.args.zip y.args).take x.args.length=x.args.zip y.args:=YZ (by rw[List.length_zip];omega)
  rw[hend2,jzC];have hlt:¬((x.args.length:Nat):Int)<((x.args.length:Nat):Int):=by omega
  rw[hzl,jbP]at hend;simp only[evz,hlt,h1,h2,jlF,happ];rw[List.length_zip,Nat.min_eq_left (by omega)];simp only[evz,hend]
 .intro i hi ih;have hi2:i<y.args.length:=by omega
  have hlt:((i:Nat):Int)<((x.args.length:Nat):Int):=by omega
  have ta:=step i hi hi2;have li:(((x.args.zip y.args).take i).map ec).length=i:=take_len (by rw[List.length_zip];omega);have hf:jbk (i+1) 80=true:=jnK (by omega);have hck:ck ((i:Int)+1)=some (vi ((i+1:Nat):Int)):=jgN (by omega) (by omega);generalize ((x.args.zip y.args).take i).map ec=R at *;rw[jzC,<-ih];simp only[evz,hlt,jaH hi,jaH hi2,jbV];generalize hB:K3 _ _ _=B;have hB':B=some (.agg [sv x.args[i].name,tms x.args[i].args,sv y.args[i].name,tms y.args[i].args]):=by rw[<-hB];kernel_rfl
  rw[hB'];simp only[evz,li,hf,ta,hck,h1,h2]
theorem jyz(W:Eqs)(off:Nat)(hW:W.length<=1000)(x y:T)(hl:x.args.length=y.args.length)(h4:x.args.length<=4) :
  jtz (nA off) (nA (W.length-off)) (vb true) (vi 0) (sv x.name) (tms x.args) (sv y.name) (tms y.args) (W.map ec) [] [] [] []=joj ((x.args.zip y.args++W.drop off).map ec) [] [] []:=by
 have h1:nOf (nA off)=off:=rfl;have h2:nOf (nA (W.length-off))=W.length-off:=rfl;have hend:jbk (((x.args.zip y.args).map ec).length+((W.drop off).map ec).length) 80=true:=by
  rw[jbP,jbP,List.length_zip,List.length_drop];exact jnK (by omega)
 have hzl:((x.args.zip y.args).map ec).length=x.args.length:=by rw[jbP,List.length_zip];omega
 have happ:jgD ((x.args.zip y.args).map ec) ((W.drop off).map ec)=(x.args.zip y.args++W.drop off).map ec:=by rw[jbM];rfl
 have step:∀i,(hi:i<x.args.length)->(hi2:i<y.args.length)->jgD (((x.args.zip y.args).take i).map ec) [[sv x.args[i].name,tms x.args[i].args,sv y.args[i].name,tms y.args[i].args]]=((x.args.zip y.args).take (i+1)).map ec:=λi hi hi2=>jm0 hi hi2;have key:=upto (P:=λi=>jvL (nA off) (nA (W.length-off)) (vb true) (vi (i:Nat)) (sv x.name) (tms x.args) (sv y.name) (tms y.args) (W.map ec) (((x.args.zip y.args).take i).map ec) [] [] []=joj ((x.args.zip y.args++W.drop off).map ec) [] [] []) (n:=x.args.length) ?_ ?_
 .have hend2:(x.args.zip y.args).take x.args.length=x.args.zip y.args:=YZ (by rw[List.length_zip];omega)
  rw[jBP];by_cases h0:0<x.args.length
  .have hi:=h0;have hi2:0<y.args.length:=by omega
   have hlt:(0:Int)<((x.args.length:Nat):Int):=by omega
   have ix:=jaH (k:=2) (f:=jbY) hi;have ix2:=jaH (k:=2) (f:=jbY) hi2;have ta:=step 0 hi hi2;simp only[List.take_zero,List.map_nil,Int.natCast_zero,qM]at ta ix ix2;have hf:jbk 1 80=true:=jnK (by omega);have hck:ck (0+1)=some (vi ((1:Nat):Int)):=jgN (n:=0+1) (by omega) (by omega);have key:=key 1 (by omega);rw[<-key];simp only[evz,hlt,ix,ix2,jbV,hf,hck,h1,h2];generalize hB:K3 _ _ _=B;have hB':B=some (.agg [sv x.args[0].name,tms x.args[0].args,sv y.args[0].name,tms y.args[0].args]):=by rw[<-hB];kernel_rfl
   rw[hB'];simp only[evz,ta]
  .have hlt:¬(0:Int)<((x.args.length:Nat):Int):=by omega
   have he:x.args=[]:=JQ (by omega);have hz:x.args.zip y.args=[]:=by rw[he];rfl
   rw[hz]at hend happ⊢;have hend:jbk ((W.drop off).map ec).length 80=true:=by simpa using hend
   have happ:jgD [] ((W.drop off).map ec)=(W.drop off).map ec:=rfl;simp only[evz,hlt,h1,h2,jlF,qf];rw[jbP]at hend;simp only[evz,hend,happ]
 .have hend2:(x.args.zip y.args).take x.args.length=x.args.zip y.args:=YZ (by rw[List.length_zip];omega)
  rw[hend2,jzB];have hlt:¬((x.args.length:Nat):Int)<((x.args.length:Nat):Int):=by omega
  rw[hzl,jbP]at hend;simp only[evz,hlt,h1,h2,jlF,happ];rw[List.length_zip,Nat.min_eq_left (by omega)];simp only[evz,hend]
 .intro i hi ih;have hi2:i<y.args.length:=by omega
  have hlt:((i:Nat):Int)<((x.args.length:Nat):Int):=by omega
  have ta:=step i hi hi2;have li:(((x.args.zip y.args).take i).map ec).length=i:=take_len (by rw[List.length_zip];omega);have hf:jbk (i+1) 80=true:=jnK (by omega);have hck:ck ((i:Int)+1)=some (vi ((i+1:Nat):Int)):=jgN (by omega) (by omega);generalize ((x.args.zip y.args).take i).map ec=R at *;rw[jzB,<-ih];simp only[evz,hlt,jaH hi,jaH hi2,jbV];generalize hB:K3 _ _ _=B;have hB':B=some (.agg [sv x.args[i].name,tms x.args[i].args,sv y.args[i].name,tms y.args[i].args]):=by rw[<-hB];kernel_rfl
  rw[hB'];simp only[evz,li,hf,ta,hck,h1,h2]
def USS(s:je6)(es:Eqs)(o:Xe):Prop:=
 (∀(W:Eqs)(off:Nat),W.drop off=es->off<=W.length->W.length<=1000->jmz (nA off) (nA (W.length-off)) (sbs s) (W.map ec) [] []=o)/\jpu (sbs s) (es.map ec) [] []=o/\
 (s=[]->(∀(W:Eqs)(off:Nat),W.drop off=es->off<=W.length->W.length<=1000->jq6 (nA off) (nA (W.length-off)) (W.map ec) [] [] []=o)/\joj (es.map ec) [] [] []=o)
theorem jCb(k:Nat)(ih:∀(s:je6)(es:Eqs)(res:Option je6),jjE s es->Hgt s 126 es->jhp k s es=some res->USS s es (jiV res))(s:je6)(l r:T)(rest:Eqs)(hi:jjE s ((l,r)::rest))(hg:Hgt s 126 ((l,r)::rest))(res:Option je6)(hu:jhp (k+1) s ((l,r)::rest)=some res)(W:Eqs)(off:Nat)(hW:W.drop off=(l,r)::rest)(hlen:W.length<=1000):jmz (nA off) (nA (W.length-off)) (sbs s) (W.map ec) [] []=jiV res:=by
 obtain⟨d1,d2,d3⟩:=jjt hW;obtain⟨r1,r2⟩:=jlC d1;obtain⟨al,ar,nl,nr⟩:=jld hi;have hv:=hi.1;have e1:=jkx s hv l al (by omega);have e2:=jkx s hv r ar (by omega);have w1:nOf (nA off)=off:=rfl;have w2:nOf (nA (W.length-off))=W.length-off:=rfl;have g1:jgx .gtr false (nA (W.length-off)) (vi 0)=some (vb true):=by
  show some (vb (decide ((0:Int)<((W.length-off:Nat):Int))))=_;rw[decide_eq_true (by omega)]
 have g2:pIx (W.length-off) (vi 0)=some 0:=jiG (i:=0) (by omega);have g3:pB (W.length-off) (jhi (W.map ec) off) none=some (W.length-off):=by
  rw[show jhi (W.map ec) off=W.length-off by rw[jkb,jbP]];exact jiW (jR _)
 have g4:pB 0 (W.length-off) (some (vi 1))=some 1:=jlA (n:=1) (by omega);have hn:jh2 (W.length-off) 1=W.length-(off+1):=by unfold jh2;omega
 rw[jwM];cases sl:je7 (sub s l)<;>rw[sl]at e1
 .have e1:G 85 [sb s,tm l]=some (.tup [.agg [sv [],.sl 2 []],vb false],[]):=e1;have hr:res=none:=jhy (by unfold jiF;rw[ju (Or.inl sl)]) hu;subst hr;obtain⟨q,e2⟩:∃q:T×Bool,G 85 [sb s,tm r]=some (.tup [tm q.1,vb q.2],[]):=by
   cases h:je7 (sub s r)<;>rw[h]at e2
   .exact ⟨(.mk [] [],false),e2⟩
   .exact ⟨(sub s r,true),e2⟩
  simp only[evz,w1,w2,g1,g2,g3,g4,Jt,r1,r2,e1,e2];rfl
 have e1:G 85 [sb s,tm l]=some (.tup [tm (sub s l),vb true],[]):=e1;cases sr:je7 (sub s r)<;>rw[sr]at e2
 .have e2:G 85 [sb s,tm r]=some (.tup [.agg [sv [],.sl 2 []],vb false],[]):=e2;have hr:res=none:=jhy (by unfold jiF;rw[ju (Or.inr sr)]) hu;subst hr;simp only[evz,w1,w2,g1,g2,g3,g4,Jt,r1,r2,e1,e2];rfl
 have e2:G 85 [sb s,tm r]=some (.tup [tm (sub s r),vb true],[]):=e2;have xl:AxT (sub s l):=AxT.sub hv al;have xr:AxT (sub s r):=AxT.sub hv ar;have ml:=jiA sl;have mr:=jiA sr;have tl:=xl.tz (by omega);have tr:=xr.tz (by omega);have e3:=jjI (sub s l) tl.wf (sub s r) tr.wf;have ll:=(jf9 hv).1;cases hd:dq (sub s l) (sub s r)<;>rw[hd]at e3
 rotate_left
 .have hst:=jlT (rest:=rest) sl sr hd;have hnext:=ih _ _ res (jiB hi hst).1 (ji5 hi hg hst) (jiE hst hu);have hnext:=hnext.1 W (off+1) d2 (by omega) hlen;simp only[evz,w1,w2,g1,g2,g3,g4,Jt,r1,r2,e1,e2,e3,hn];exact hnext
 have v1:=jit (sub s l).name ((jhC _).1 tl.wf).1;have v2:=jit (sub s r).name ((jhC _).1 tr.wf).1;have bindC:jc2 (sub s l).name=true\/jc2 (sub s r).name=true-> ∃q2:Bool,∃u:je6,G 86 [sb s,sv (jeY (sub s l) (sub s r)).1,tm (jeY (sub s l) (sub s r)).2]=some (.tup [sb u,vb q2],[])/\(q2=false->jiV res=jiV none)/\(q2=true->jmz (nA (off+1)) (nA (W.length-(off+1))) (sbs u) (W.map ec) [] []=jiV res):=by
  intro hvar;have hst:=jlR (rest:=rest) sl sr hd hvar;obtain⟨bv,hor⟩:=joo hvar;have bz:Tz (jeY (sub s l) (sub s r)).2:=hor.elim (λh=>by rw[h.2];exact tl) λh=>by rw[h.2];exact tr
  have bk:(jeY (sub s l) (sub s r)).1∈jhx (jeY (sub s l) (sub s r)).2\/(jeY (sub s l) (sub s r)).2.name≠(jeY (sub s l) (sub s r)).1:=by
   by_cases hnm:(jeY (sub s l) (sub s r)).2.name=(jeY (sub s l) (sub s r)).1
   .left;rw[vsv (by rw[hnm];exact bv),hnm];simp
   .exact Or.inr hnm
  obtain⟨z,eb⟩:=jpG s hv _ _ bv bz bk;rw[<-Bool.and_assoc]at eb;cases hc:(!decide ((jeY (sub s l) (sub s r)).1∈jhx (jeY (sub s l) (sub s r)).2) && jfN [jeY (sub s l) (sub s r)]) && jfN (jh0 s [jeY (sub s l) (sub s r)])
  .rw [hc,jo Bool.false_ne_true]at hst;have eb:=eb.trans (by rw[show((jeY (sub s l) (sub s r)).1,(jeY (sub s l) (sub s r)).2)=jeY (sub s l) (sub s r) from rfl,hc,jo Bool.false_ne_true]);exact⟨false,z,eb,λ_=>by rw[jhy hst hu],λh=>by cases h⟩
  .rw [hc,ju rfl]at hst;have eb:=eb.trans (by rw[show((jeY (sub s l) (sub s r)).1,(jeY (sub s l) (sub s r)).2)=jeY (sub s l) (sub s r) from rfl,hc,ju rfl]);refine⟨true,_,eb,(λh=>by cases h),λ_=>?_⟩;have hnext:=ih _ _ res (jiB hi hst).1 (ji5 hi hg hst) (jiE hst hu);exact hnext.1 W (off+1) d2 (by omega) hlen
 cases vl:jc2 (sub s l).name<;>rw[vl]at v1
 rotate_left
 .cases vr:jc2 (sub s r).name<;>rw[vr]at v2
  .obtain ⟨q2,u,b1,b2,b3⟩:=bindC (Or.inl vl);have hbd:jeY (sub s l) (sub s r)=((sub s l).name,sub s r):=jo (by rw[vl,vr];simp);rw[hbd]at b1;cases q2
   .rw [b2 rfl];simp only[evz,w1,w2,g1,g2,g3,g4,Jt,r1,r2,e1,e2,e3,v1,v2,b1];rfl
   .rw [<-b3 rfl];simp only[evz,w1,w2,g1,g2,g3,g4,Jt,r1,r2,e1,e2,e3,v1,v2,b1,hn]
  .cases hc:sLt (sub s l).name (sub s r).name
   .obtain ⟨q2,u,b1,b2,b3⟩:=bindC (Or.inl vl);have hbd:jeY (sub s l) (sub s r)=((sub s l).name,sub s r):=jo (by rw[vl,vr,hc];simp);rw[hbd]at b1;cases q2
    .rw [b2 rfl];simp only[evz,w1,w2,g1,g2,g3,g4,Jt,r1,r2,e1,e2,e3,v1,v2,hc,b1];rfl
    .rw [<-b3 rfl];simp only[evz,w1,w2,g1,g2,g3,g4,Jt,r1,r2,e1,e2,e3,v1,v2,hc,b1,hn]
   .obtain ⟨q2,u,b1,b2,b3⟩:=bindC (Or.inl vl);have hbd:jeY (sub s l) (sub s r)=((sub s r).name,sub s l):=ju (Or.inr ⟨vr,hc⟩);rw[hbd]at b1;cases q2
    .rw [b2 rfl];simp only[evz,w1,w2,g1,g2,g3,g4,Jt,r1,r2,e1,e2,e3,v1,v2,hc,b1];rfl
    .rw [<-b3 rfl];simp only[evz,w1,w2,g1,g2,g3,g4,Jt,r1,r2,e1,e2,e3,v1,v2,hc,b1,hn]
 cases vr:jc2 (sub s r).name<;>rw[vr]at v2
 rotate_left
 .obtain ⟨q2,u,b1,b2,b3⟩:=bindC (Or.inr vr);have hbd:jeY (sub s l) (sub s r)=((sub s r).name,sub s l):=ju (Or.inl vl);rw[hbd]at b1;cases q2
  .rw [b2 rfl];simp only[evz,w1,w2,g1,g2,g3,g4,Jt,r1,r2,e1,e2,e3,v1,v2,b1];rfl
  .rw [<-b3 rfl];simp only[evz,w1,w2,g1,g2,g3,g4,Jt,r1,r2,e1,e2,e3,v1,v2,b1,hn]
 have hst:=jlS (rest:=rest) sl sr hd vl vr;by_cases hnm:(sub s l).name=(sub s r).name;rotate_left
 .rw [jo (λh=>hnm h.1)]at hst;have hnd:=decide_eq_false hnm;rw[jhy hst hu];simp only[evz,w1,w2,g1,g2,g3,g4,Jt,r1,r2,e1,e2,e3,v1,v2,hnd];rfl
 have hnd:=decide_eq_true hnm;by_cases hal:(sub s l).args.length=(sub s r).args.length;rotate_left
 .rw [jo (λh=>hal h.2)]at hst;have hal':decide ((((sub s l).args.length:Nat):Int)=(((sub s r).args.length:Nat):Int))=false:=decide_eq_false (by omega);rw[jhy hst hu];simp only[evz,w1,w2,g1,g2,g3,g4,Jt,r1,r2,e1,e2,e3,v1,v2,hnd,hal'];rfl
 rw[ju ⟨hnm,hal⟩]at hst;have hnext:=ih _ _ res (jiB hi hst).1 (ji5 hi hg hst) (jiE hst hu);have hnext:=hnext.2.1;have hin:=jyA s W (off+1) hlen (sub s l) (sub s r) hal (jmO xl);rw[d2]at hin;rw[hnext]at hin;have hal':decide ((((sub s l).args.length:Nat):Int)=(((sub s r).args.length:Nat):Int))=true:=decide_eq_true (by omega);simp only[evz,w1,w2,g1,g2,g3,g4,Jt,r1,r2,e1,e2,e3,v1,v2,hnd,hal',hn];exact hin
theorem jDw(k:Nat)(ih:∀(s:je6)(es:Eqs)(res:Option je6),jjE s es->Hgt s 126 es->jhp k s es=some res->USS s es (jiV res))(s:je6)(l r:T)(rest:Eqs)(hi:jjE s ((l,r)::rest))(hg:Hgt s 126 ((l,r)::rest))(res:Option je6)(hu:jhp (k+1) s ((l,r)::rest)=some res)(W:Eqs)(hW:W=(l,r)::rest)(hlen:W.length<=1000):jpu (sbs s) (W.map ec) [] []=jiV res:=by
 have hW0:W.drop 0=(l,r)::rest:=hW;rw[<-jCb k ih s l r rest hi hg res hu W 0 hW0 hlen];obtain⟨d1,d2,d3⟩:=jjt hW0;obtain⟨r1,r2⟩:=jlC d1;have w1:nOf (nA 0)=0:=rfl;have w2:nOf (nA W.length)=W.length:=rfl;have f1:jgx .gtr false (nA W.length) (vi 0)=some (vb true):=by
  show some (vb (decide ((0:Int)<((W.length:Nat):Int))))=_;rw[decide_eq_true (by omega)]
 have f3:pB W.length (jhi (W.map ec) 0) none=some W.length:=by
  rw[show jhi (W.map ec) 0=W.length by rw[jkb,jbP];rfl];exact jiW (jR _)
 have g2:pIx W.length (vi 0)=some 0:=jiG (i:=0) (by omega);have g3:pB (jdD (W.map ec)) (jhi (W.map ec) 0) none=some W.length:=by
  rw[jkg,f3]
 have g4:pB 0 W.length (some (vi 1))=some 1:=jlA (n:=1) (by omega);have g0:(0:Int)<((W.length:Nat):Int):=by omega
 rw[jzD,jwM,Nat.sub_zero];simp only[evz,w1,w2,f1,f3,g0,g2,g3,g4,r1,r2]
theorem jCa(k:Nat)(ih:∀(s:je6)(es:Eqs)(res:Option je6),jjE s es->Hgt s 126 es->jhp k s es=some res->USS s es (jiV res))(l r:T)(rest:Eqs)(hi:jjE [] ((l,r)::rest))(hg:Hgt [] 126 ((l,r)::rest))(res:Option je6)(hu:jhp (k+1) [] ((l,r)::rest)=some res)(W:Eqs)(off:Nat)(hW:W.drop off=(l,r)::rest)(hlen:W.length<=1000):jq6 (nA off) (nA (W.length-off)) (W.map ec) [] [] []=jiV res:=by
 obtain⟨d1,d2,d3⟩:=jjt hW;obtain⟨r1,r2⟩:=jlC d1;obtain⟨al,ar,nl,nr⟩:=jld hi;have hv:=hi.1;have e1:=jkx [] hv l al (by omega);have e2:=jkx [] hv r ar (by omega);have w1:nOf (nA off)=off:=rfl;have w2:nOf (nA (W.length-off))=W.length-off:=rfl;have g1:jgx .gtr false (nA (W.length-off)) (vi 0)=some (vb true):=by
  show some (vb (decide ((0:Int)<((W.length-off:Nat):Int))))=_;rw[decide_eq_true (by omega)]
 have g2:pIx (W.length-off) (vi 0)=some 0:=jiG (i:=0) (by omega);have g3:pB (W.length-off) (jhi (W.map ec) off) none=some (W.length-off):=by
  rw[show jhi (W.map ec) off=W.length-off by rw[jkb,jbP]];exact jiW (jR _)
 have g4:pB 0 (W.length-off) (some (vi 1))=some 1:=jlA (n:=1) (by omega);have hn:jh2 (W.length-off) 1=W.length-(off+1):=by unfold jh2;omega
 rw[jwL];cases sl:je7 (sub [] l)<;>rw[sl]at e1
 .have e1:G 85 [.agg [.sl 3 []],tm l]=some (.tup [.agg [sv [],.sl 2 []],vb false],[]):=e1;have hr:res=none:=jhy (by unfold jiF;rw[ju (Or.inl sl)]) hu;subst hr;obtain⟨q,e2⟩:∃q:T×Bool,G 85 [.agg [.sl 3 []],tm r]=some (.tup [tm q.1,vb q.2],[]):=by
   cases h:je7 (sub [] r)<;>rw[h]at e2
   .exact ⟨(.mk [] [],false),e2⟩
   .exact ⟨(sub [] r,true),e2⟩
  simp only[evz,w1,w2,g1,g2,g3,g4,Jt,r1,r2,e1,e2];rfl
 have e1:G 85 [.agg [.sl 3 []],tm l]=some (.tup [tm (sub [] l),vb true],[]):=e1;cases sr:je7 (sub [] r)<;>rw[sr]at e2
 .have e2:G 85 [.agg [.sl 3 []],tm r]=some (.tup [.agg [sv [],.sl 2 []],vb false],[]):=e2;have hr:res=none:=jhy (by unfold jiF;rw[ju (Or.inr sr)]) hu;subst hr;simp only[evz,w1,w2,g1,g2,g3,g4,Jt,r1,r2,e1,e2];rfl
 have e2:G 85 [.agg [.sl 3 []],tm r]=some (.tup [tm (sub [] r),vb true],[]):=e2;have xl:AxT (sub [] l):=AxT.sub hv al;have xr:AxT (sub [] r):=AxT.sub hv ar;have ml:=jiA sl;have mr:=jiA sr;have tl:=xl.tz (by omega);have tr:=xr.tz (by omega);have e3:=jjI (sub [] l) tl.wf (sub [] r) tr.wf;have ll:=(jf9 hv).1;cases hd:dq (sub [] l) (sub [] r)<;>rw[hd]at e3
 rotate_left
 .have hst:=jlT (rest:=rest) sl sr hd;have hnext:=ih _ _ res (jiB hi hst).1 (ji5 hi hg hst) (jiE hst hu);have hnext:=(hnext.2.2 rfl).1 W (off+1) d2 (by omega) hlen;simp only[evz,w1,w2,g1,g2,g3,g4,Jt,r1,r2,e1,e2,e3,hn];exact hnext
 have v1:=jit (sub [] l).name ((jhC _).1 tl.wf).1;have v2:=jit (sub [] r).name ((jhC _).1 tr.wf).1;have bindC:jc2 (sub [] l).name=true\/jc2 (sub [] r).name=true-> ∃q2:Bool,∃u:je6,G 86 [.agg [.sl 3 []],sv (jeY (sub [] l) (sub [] r)).1,tm (jeY (sub [] l) (sub [] r)).2]=some (.tup [sb u,vb q2],[])/\(q2=false->jiV res=jiV none)/\(q2=true->jmz (nA (off+1)) (nA (W.length-(off+1))) (sbs u) (W.map ec) [] []=jiV res):=by
  intro hvar;have hst:=jlR (rest:=rest) sl sr hd hvar;obtain⟨bv,hor⟩:=joo hvar;have bz:Tz (jeY (sub [] l) (sub [] r)).2:=hor.elim (λh=>by rw[h.2];exact tl) λh=>by rw[h.2];exact tr
  have bk:(jeY (sub [] l) (sub [] r)).1∈jhx (jeY (sub [] l) (sub [] r)).2\/(jeY (sub [] l) (sub [] r)).2.name≠(jeY (sub [] l) (sub [] r)).1:=by
   by_cases hnm:(jeY (sub [] l) (sub [] r)).2.name=(jeY (sub [] l) (sub [] r)).1
   .left;rw[vsv (by rw[hnm];exact bv),hnm];simp
   .exact Or.inr hnm
  obtain⟨z,eb⟩:=jpG [] hv _ _ bv bz bk;rw[<-Bool.and_assoc]at eb;cases hc:(!decide ((jeY (sub [] l) (sub [] r)).1∈jhx (jeY (sub [] l) (sub [] r)).2) && jfN [jeY (sub [] l) (sub [] r)]) && jfN (jh0 [] [jeY (sub [] l) (sub [] r)])
  .rw [hc,jo Bool.false_ne_true]at hst;have eb:=eb.trans (by rw[show((jeY (sub [] l) (sub [] r)).1,(jeY (sub [] l) (sub [] r)).2)=jeY (sub [] l) (sub [] r) from rfl,hc,jo Bool.false_ne_true]);exact⟨false,z,eb,λ_=>by rw[jhy hst hu],λh=>by cases h⟩
  .rw [hc,ju rfl]at hst;have eb:=eb.trans (by rw[show((jeY (sub [] l) (sub [] r)).1,(jeY (sub [] l) (sub [] r)).2)=jeY (sub [] l) (sub [] r) from rfl,hc,ju rfl]);refine⟨true,_,eb,(λh=>by cases h),λ_=>?_⟩;have hnext:=ih _ _ res (jiB hi hst).1 (ji5 hi hg hst) (jiE hst hu);exact hnext.1 W (off+1) d2 (by omega) hlen
 cases vl:jc2 (sub [] l).name<;>rw[vl]at v1
 rotate_left
 .cases vr:jc2 (sub [] r).name<;>rw[vr]at v2
  .obtain ⟨q2,u,b1,b2,b3⟩:=bindC (Or.inl vl);have hbd:jeY (sub [] l) (sub [] r)=((sub [] l).name,sub [] r):=jo (by rw[vl,vr];simp);rw[hbd]at b1;cases q2
   .rw [b2 rfl];simp only[evz,w1,w2,g1,g2,g3,g4,Jt,r1,r2,e1,e2,e3,v1,v2,b1];rfl
   .rw [<-b3 rfl];simp only[evz,w1,w2,g1,g2,g3,g4,Jt,r1,r2,e1,e2,e3,v1,v2,b1,hn]
  .cases hc:sLt (sub [] l).name (sub [] r).name
   .obtain ⟨q2,u,b1,b2,b3⟩:=bindC (Or.inl vl);have hbd:jeY (sub [] l) (sub [] r)=((sub [] l).name,sub [] r):=jo (by rw[vl,vr,hc];simp);rw[hbd]at b1;cases q2
    .rw [b2 rfl];simp only[evz,w1,w2,g1,g2,g3,g4,Jt,r1,r2,e1,e2,e3,v1,v2,hc,b1];rfl
    .rw [<-b3 rfl];simp only[evz,w1,w2,g1,g2,g3,g4,Jt,r1,r2,e1,e2,e3,v1,v2,hc,b1,hn]
   .obtain ⟨q2,u,b1,b2,b3⟩:=bindC (Or.inl vl);have hbd:jeY (sub [] l) (sub [] r)=((sub [] r).name,sub [] l):=ju (Or.inr ⟨vr,hc⟩);rw[hbd]at b1;cases q2
    .rw [b2 rfl];simp only[evz,w1,w2,g1,g2,g3,g4,Jt,r1,r2,e1,e2,e3,v1,v2,hc,b1];rfl
    .rw [<-b3 rfl];simp only[evz,w1,w2,g1,g2,g3,g4,Jt,r1,r2,e1,e2,e3,v1,v2,hc,b1,hn]
 cases vr:jc2 (sub [] r).name<;>rw[vr]at v2
 rotate_left
 .obtain ⟨q2,u,b1,b2,b3⟩:=bindC (Or.inr vr);have hbd:jeY (sub [] l) (sub [] r)=((sub [] r).name,sub [] l):=ju (Or.inl vl);rw[hbd]at b1;cases q2
  .rw [b2 rfl];simp only[evz,w1,w2,g1,g2,g3,g4,Jt,r1,r2,e1,e2,e3,v1,v2,b1];rfl
  .rw [<-b3 rfl];simp only[evz,w1,w2,g1,g2,g3,g4,Jt,r1,r2,e1,e2,e3,v1,v2,b1,hn]
 have hst:=jlS (rest:=rest) sl sr hd vl vr;by_cases hnm:(sub [] l).name=(sub [] r).name;rotate_left
 .rw [jo (λh=>hnm h.1)]at hst;have hnd:=decide_eq_false hnm;rw[jhy hst hu];simp only[evz,w1,w2,g1,g2,g3,g4,Jt,r1,r2,e1,e2,e3,v1,v2,hnd];rfl
 have hnd:=decide_eq_true hnm;by_cases hal:(sub [] l).args.length=(sub [] r).args.length;rotate_left
 .rw [jo (λh=>hal h.2)]at hst;have hal':decide ((((sub [] l).args.length:Nat):Int)=(((sub [] r).args.length:Nat):Int))=false:=decide_eq_false (by omega);rw[jhy hst hu];simp only[evz,w1,w2,g1,g2,g3,g4,Jt,r1,r2,e1,e2,e3,v1,v2,hnd,hal'];rfl
 rw[ju ⟨hnm,hal⟩]at hst;have hnext:=ih _ _ res (jiB hi hst).1 (ji5 hi hg hst) (jiE hst hu);have hnext:=(hnext.2.2 rfl).2;have hin:=jyz W (off+1) hlen (sub [] l) (sub [] r) hal (jmO xl);rw[d2]at hin;rw[hnext]at hin;have hal':decide ((((sub [] l).args.length:Nat):Int)=(((sub [] r).args.length:Nat):Int))=true:=decide_eq_true (by omega);simp only[evz,w1,w2,g1,g2,g3,g4,Jt,r1,r2,e1,e2,e3,v1,v2,hnd,hal',hn];exact hin
theorem jDv(k:Nat)(ih:∀(s:je6)(es:Eqs)(res:Option je6),jjE s es->Hgt s 126 es->jhp k s es=some res->USS s es (jiV res))(l r:T)(rest:Eqs)(hi:jjE [] ((l,r)::rest))(hg:Hgt [] 126 ((l,r)::rest))(res:Option je6)(hu:jhp (k+1) [] ((l,r)::rest)=some res)(W:Eqs)(hW:W=(l,r)::rest)(hlen:W.length<=1000):joj (W.map ec) [] [] []=jiV res:=by
 have hW0:W.drop 0=(l,r)::rest:=hW;rw[<-jCa k ih l r rest hi hg res hu W 0 hW0 hlen];obtain⟨d1,d2,d3⟩:=jjt hW0;obtain⟨r1,r2⟩:=jlC d1;have w1:nOf (nA 0)=0:=rfl;have w2:nOf (nA W.length)=W.length:=rfl;have f1:jgx .gtr false (nA W.length) (vi 0)=some (vb true):=by
  show some (vb (decide ((0:Int)<((W.length:Nat):Int))))=_;rw[decide_eq_true (by omega)]
 have f3:pB W.length (jhi (W.map ec) 0) none=some W.length:=by
  rw[show jhi (W.map ec) 0=W.length by rw[jkb,jbP];rfl];exact jiW (jR _)
 have g2:pIx W.length (vi 0)=some 0:=jiG (i:=0) (by omega);have g3:pB (jdD (W.map ec)) (jhi (W.map ec) 0) none=some W.length:=by
  rw[jkg,f3]
 have g4:pB 0 W.length (some (vi 1))=some 1:=jlA (n:=1) (by omega);have g0:(0:Int)<((W.length:Nat):Int):=by omega
 rw[jwN,jwL,Nat.sub_zero];simp only[evz,w1,w2,f1,f3,g0,g2,g3,g4,r1,r2]
theorem jxE(s:je6):USS s [] (jiV (some s)):=by
 refine⟨λW off hW h1 h2=>?_,?_,λhs=>?_⟩
 .have h3:=congrArg List.length hW;rw[List.length_drop,YU]at h3;have w2:nOf (nA (W.length-off))=W.length-off:=rfl;have g1:jgx .gtr false (nA (W.length-off)) (vi 0)=some (vb false):=by
   show some (vb (decide ((0:Int)<((W.length-off:Nat):Int))))=_;rw[decide_eq_false (by omega)]
  rw[jwM];simp only[evz,w2,g1];rfl
 .rw [jzD];have g1:jgx .gtr false (jdE (List.map ec [])) (vi 0)=some (vb false):=rfl;simp only[evz];rfl
 .subst hs;refine⟨λW off hW h1 h2=>?_,?_⟩
  .have h3:=congrArg List.length hW;rw[List.length_drop,YU]at h3;have w2:nOf (nA (W.length-off))=W.length-off:=rfl;have g1:jgx .gtr false (nA (W.length-off)) (vi 0)=some (vb false):=by
    show some (vb (decide ((0:Int)<((W.length-off:Nat):Int))))=_;rw[decide_eq_false (by omega)]
   rw[jwL];simp only[evz,w2,g1];rfl
  .rw [jwN];have g1:jgx .gtr false (jdE (List.map ec [])) (vi 0)=some (vb false):=rfl;simp only[evz];rfl
theorem jAW:∀(k:Nat)(s:je6)(es:Eqs)(res:Option je6),jjE s es->Hgt s 126 es->jhp k s es=some res->USS s es (jiV res):=by
 intro k;induction k with
 |zero=>
  intro s es res hi hg hu;cases es with
  |nil=>simp only[jhp,jz]at hu;rw[<-hu];exact jxE s
  |cons p es=>simp[jhp]at hu
 |succ k ih=>
  intro s es res hi hg hu;cases es with
  |nil=>simp only[jhp,jz]at hu;rw[<-hu];exact jxE s
  |cons p rest=>
   obtain⟨l,r⟩:=p;have hl:=hg.len;refine⟨λW off hW _ hlen=>jCb k ih s l r rest hi hg res hu W off hW hlen,jDw k ih s l r rest hi hg res hu _ rfl (by omega),λhs=>?_⟩;subst hs;exact⟨λW off hW _ hlen=>jCa k ih l r rest hi hg res hu W off hW hlen,jDv k ih l r rest hi hg res hu _ rfl (by omega)⟩
theorem jB9(W:Eqs):jvK (W.map ec) [] [] []=joj (W.map ec) [] [] []:=by
 rw[jBO,jwN]
theorem jsT(a b:T)(ha:Exx a)(hb:Exx b):G 54 [tm a,tm b]=jiV (jj2 a b):=by
 obtain⟨k,hk⟩:=jju ha hb;have h:=((jAW k [] [(a,b)] _ (jpT ha hb) (jBH a b) hk).2.2 rfl).2;rw[<-jB9]at h;rw[g54];simp only[evz];exact h
open Go Go.RowKit Go.ChangeShapes Go.Deep Go.Proofs.YthapkjbfjniaiaaGreatDoor.Abs
section
variable{P:Program}{t:Nat}{H:Type}{enc:TypeId×Value->H}{w:World}{base:Nat}{spare:Nat->Bool}{held:Bool}{fuel:Nat}{cs:Xh}{x:DataW H×List MemPlace}
end
abbrev clc(c:Cls):Xd:=[.sl 3 (c.map ltc)]
structure Stp where
 rule:Int
 par:Xi
 whr:Xi
 cls:Cls
abbrev stc(s:Stp):Xd:=[vi s.rule,ints s.par,ints s.whr,.sl 3 (s.cls.map ltc)]
abbrev stm(s:Stp):A:= .agg [vi s.rule,ints s.par,ints s.whr,.sl 3 (s.cls.map ltc)]
structure Prf where
 ax:List Cls
 st:List Stp
abbrev cls(l:List Cls):A:= .sl 1 (l.map clc)
abbrev jy5(l:List Stp):A:= .sl 4 (l.map stc)
abbrev prc(p:Prf):Xd:=[cls p.ax,jy5 p.st]
abbrev prm(p:Prf):A:= .agg [cls p.ax,jy5 p.st]
structure Sch where
 prf:Prf
 act:Xi
 pas:Xi
 lost:Bool
abbrev scc(s:Sch):Xd:=[cls s.prf.ax,jy5 s.prf.st,ints s.act,ints s.pas,vb s.lost]
abbrev scm(s:Sch):A:= .agg [cls s.prf.ax,jy5 s.prf.st,ints s.act,ints s.pas,vb s.lost]
def iwf(l:Xi):Prop:=(∀x∈l,I64 x)/\l.length<=9223372036854775807
def cwf(c:Cls):Prop:=(∀l∈c,twf l.2)/\c.length<=9223372036854775807
def swf(s:Stp):Prop:=I64 s.rule/\iwf s.par/\iwf s.whr/\cwf s.cls
def pwf(p:Prf):Prop:=((∀c∈p.ax,cwf c)/\p.ax.length<=9223372036854775807)/\((∀s∈p.st,swf s)/\p.st.length<=9223372036854775807)
def jDW(s:Sch):Prop:=pwf s.prf/\iwf s.act/\iwf s.pas
def lsz:Cls->Nat
 | []=>0
 |l::c=>tsz l.2+lsz c
def csz(c:Cls):Nat:=c.length+lsz c
def jBv:List Cls->Nat
 | []=>0
 |c::l=>csz c+jBv l
def ssz(s:Stp):Nat:=s.par.length+s.whr.length+csz s.cls
def jB5:List Stp->Nat
 | []=>0
 |s::l=>ssz s+jB5 l
def psz(p:Prf):Nat:=(p.ax.length+jBv p.ax)+(p.st.length+jB5 p.st)
def jDV(s:Sch):Nat:=psz s.prf+s.act.length+s.pas.length
def LN(l:Cls):Prop:=l.length<=40/\ ∀x∈l,Bx x.2/\nodes x.2<=100
theorem LN.app{s:je6}(hs:jfN s=true){l:Cls}(h:LN l):∀x∈l.map (λx=>(x.1,Go.Proofs.YthapkjbfjniaiaaGreatDoor.sub s x.2)),Bx x.2/\Tz x.2:=λx hx=>by
 obtain⟨y,hy,rfl⟩:=qQ.1 hx;have hb:=(h.2 y hy).1;exact⟨hb.sub hs,AxT.sub_tz hs hb.ax (by have:=(h.2 y hy).2;omega)⟩
def jDZ(f g:FuncId)(args:Xd):Prop:=∃r:Option Cls,G f args=jBY r/\G g args=jBY r/\ ∀x,r=some x->jt7 x=true
def jES(c:Cls)(i:Int):Bool:=inB 0 (((c.length:Nat):Int)-1) i
theorem LN.erase{c:Cls}(h:CN c)(i:Nat):LN (c.eraseIdx i):=⟨by have:=List.length_eraseIdx_le c i;have:=h.1;omega,λx hx=>by
 have:=h.2 x (List.mem_of_mem_eraseIdx hx);exact⟨this.1,by omega⟩⟩
theorem hRl(x:Cls):hR 3 (A.top,[.sl 3 (x.map ltc)]) 0=some (x.map ltc):=rfl
theorem jAj(n:Nat)(x:Int):inB 0 (((n:Nat):Int)-1) x=decide (0<=x/\x<(n:Int)):=by
 unfold inB;rw[<-Bool.decide_and];exact decide_eq_decide.2 ⟨λh=>⟨h.1,by omega⟩,λh=>⟨h.1,by omega⟩⟩
theorem jz5(t:T)(p:Xi)(ht:Tz t)(hl:p.length<=1048576):G 40 [tm t,ints p]=outT (atI p t):=by
 have key:=upto (P:=λi=>∀t:T,Tz t->jts (ints p) (vi (p.length:Nat)) (vi (i:Nat)) (sv t.name) (tms t.args) (sv []) []=outT (atI (p.drop i) t)) (n:=p.length) ?_ ?_ 0 (Nat.zero_le _) t ht
 .simp only[Int.natCast_zero,List.drop_zero]at key;rw[g40];simp only[evz,key]
 .intro t ht;rw[jzr,List.drop_length,atI];simp only[evz];rfl
 .intro i hi ih t ht;have hz:=ht;unfold Tz at hz;rw[jhG]at hz;have hlt:(i:Int)<((p.length:Nat):Int):=by omega
  have h5:=jeZ hi (by show p.length<=9223372036854775807;omega)
  have c1:ck (((t.args.length:Nat):Int)-1)=some (vi (((t.args.length:Nat):Int)-1)):=jgN (by omega) (by omega);have e1:=jkT p[i] 0 (((t.args.length:Nat):Int)-1);rw[jAj]at e1;have ix:=jjQ hi;rw[jzr,jeX hi,atI];by_cases hc:0<=p[i]/\p[i]<(t.args.length:Int)
  .rw [decide_eq_true hc]at e1;rw[ju hc];have hn:p[i].toNat<t.args.length:=by omega
   have ix2:=jaH (k:=2) (f:=jbY) hn;rw[show((p[i].toNat:Nat):Int)=p[i] by omega]at ix2;rw[ji3 hn];have:=ih t.args[p[i].toNat] (ht.args _ (YX hn));simp only[evz,hlt,ix,c1,e1,ix2,jbV,h5,this]
  .rw [decide_eq_false hc]at e1;rw[jo hc];simp only[evz,hlt,ix,c1,e1];rfl
theorem jwe(q:Xf):ints (q.map λn:Nat=>(n:Int))=pln q:=by
 show A.sl 1 ((q.map _).map ci)=_;rw[qP];rfl
theorem jrp(t:T)(ht:Tz t):jtk (sv t.name) (tms t.args)=some (.top,[sv t.name,tms t.args]):=by
 have hz:=ht;unfold Tz at hz;rw[jhG]at hz;have e1:=jmD t.args (by omega) λu hu=>jls u (ht.args u hu);have r1:hR 2 (A.top,[tms t.args]) 0=some (t.args.map jbY):=rfl;rw[jBs];simp only[evz,e1,r1]
theorem jnA(s:T)(hs:Tz s):∀(p:Xf)(t:T),Tz t->okP p t->p.length<=2000000->G 44 [tm t,pln p,tm s]=some (tm (jhD s p t),[])
 | [],t,_,_,_=>by
  have e1:=jrp s hs;have hz:(((0:Nat):Int)=0)=True:=by simp
  rw[g44,jhD];simp only[evz,hz,e1,List.map_nil,List.getElem?_cons_zero]
 |i::p,t,ht,hp,hl=>by
  obtain⟨h1,h2⟩:=hp;have e:t.args.getD i (.mk [] [])=t.args[i]:=ji3 h1;rw[e]at h2;have e1:=jrp t ht;have e2:=jnA s hs p t.args[i] (ht.args _ (YX h1)) h2 (by rw[KP]at hl;omega);have hz:¬((p.length+1:Nat):Int)=0:=by omega
  have i0:zN 1 (pln (i::p)) (vi 0)=some (.elt [vi (i:Nat)] 0):=jkr (p:=i::p) (i:=0) (by simp);have sl:K6 1 (pln (i::p)) (some (vi 1)) none=some (pln p):=by
   have:=jjs (k:=1) (xs:=(i::p).map λn:Nat=>[vi (n:Nat)]) (i:=1) (by simp);exact this
  have ix:pIx t.args.length (vi (i:Nat))=some i:=jiG h1;have rg:jbm (t.args.map jbY) i=some (jbY t.args[i]):=by unfold jbm;simp[h1]
  have co:Z4 (jbY t.args[i]) 0 [sv (jhD s p t.args[i]).name,tms (jhD s p t.args[i]).args]=jbY (jhD s p t.args[i]):=by rw[jhF,jhF];rfl
  have rs:jat (t.args.map jbY) i (jbY (jhD s p t.args[i]))=(t.args.set i (jhD s p t.args[i])).map jbY:=by unfold jat;rw[List.map_set]
  have ll:(jf1 (pln (i::p)))=some (vi ((p.length+1:Nat):Int)):=by rw[jrS];simp only[evz]
  rw[g44,jhD,e];simp only[evz,ll,hz,e1,i0,jaH h1,jbV,sl,e2,ix,rg,co,rs,List.getElem?_cons_zero];rfl
def jmH(t:T):Bool:=jgc t || (decide (t.name=[61]) && jjS t)
theorem juK(t:T)(ht:Tz t):G 35 [tm t]=some (vb (jmH t),[]):=by
 have e1:=jjx t ht.wf ht;have e2:=jjP t;unfold jmH;rw[g35];cases hv:jgc t<;>rw[hv]at e1
 .by_cases he:t.name=[61]
  .have e3:=jjZ t ht.wf ht he;rw[decide_eq_true he]at e2⊢;simp only[evz,e1,e2,e3,Bool.false_or,Bool.true_and]
  .simp only[evz,e1,e2,he,Bool.false_or,Bool.false_and]
 .simp only[evz,e1,e2,Bool.true_or]
def LH(rs:Xg):Prop:=∀r∈rs,okT (jge r)=true/\jc2 (jge r).name=false
noncomputable def rwX(rs:Xg)(t:T):Option (T×Nat):=rwN rs (jgc t) 51 0 t
section
variable{rs:Xg}(hl:rs.length<=1048576)(hs:∀r∈rs,Tz r)
include hl hs
end
theorem jrw(s:Xb):jiR (sv s)=true:=rfl
mutual
def mkN:T->Nat
 |.mk _ us=>1+mkL us
def mkL:Xg->Nat
 | []=>0
 |t::ts=>mkN t+mkL ts
end
mutual
theorem jyN:∀t:T,mkN t<=1+tsz t
 |.mk n us=>by
  have:=jt6 us;simp only[mkN,tsz];omega
theorem jt6:∀ts:Xg,mkL ts<=ts.length+jks ts
 | []=>by simp[mkL]
 |t::ts=>by
  have h1:=jyN t;have h2:=jt6 ts;simp only[mkL,jks,KP];omega
end
theorem jkl(s:Xb):zY (sv s)=true:=rfl
theorem jkm(b:Bool):zY (vb b)=true:=rfl
theorem walk_eq:∀(t:T)(p:Xf),Tz t->p.length+tsz t<=2000000->G 23 [tm t,pln p]=some (.sl 1 ((jjz t).map λq=>plc (p++q)),[]):=by
 refine T.ind λt ih p ht hp=>?_;have hs:=ht;unfold Tz at hs;rw[jhG]at hs hp;have hnl:=jiS t;have hne:=jfw t;have e0:=jyT p (by omega);have key:=upto (P:=λi=>∀R:Xc,R.length+jcO (t.args.drop i)<=2000000->jtp (pln p) (vi i) (sv t.name) (tms t.args) R=some (.sl 1 (R++(jmT i (t.args.drop i)).map λq=>plc (p++q)),[])) (n:=t.args.length) ?_ ?_ 0 (Nat.zero_le _) [plc p] (by rw[List.drop_zero];unfold Tz at ht;simp only[KP,YU];omega)
 .rw [g23,juf];simp only[Int.natCast_zero,List.drop_zero]at key;simp only[evz,e0,key,List.getElem?_cons_zero];rw[zB,KQ];rfl
 .intro R hR;rw[jzm,List.drop_length];simp only[evz];rw[jmT,List.map_nil,KQ]
 .intro i hi ih2 R hR;have hlt:(i:Int)<((t.args.length:Nat):Int):=by omega
  have h5:=jeZ hi (by show t.args.length<=9223372036854775807;omega)
  have hm:tsz t.args[i]<=jks t.args:=jiK (YX _);have ed:jcO (t.args.drop i)=nodes t.args[i]+jcO (t.args.drop (i+1)):=by rw[jeX hi];rfl
  have e2:=ih t.args[i] (YX _) (p++[i]) (ht.args _ (YX _)) (by rw[Y0,List.length_singleton];omega)
  have ea:jgD (p.map λn:Nat=>[vi (n:Nat)]) [[vi (i:Nat)]]=(p++[i]).map λn:Nat=>[vi (n:Nat)]:=by rw[jbM];rfl
  have hf1:jbk (p.length+1) 8=true:=jAE (by omega);have hpl:=jmU t.args[i];have hf2:jbk (R.length+(jjz t.args[i]).length) 24=true:=jB1 (by omega);have ih3:=ih2 (jgD R ((jjz t.args[i]).map λq=>plc ((p++[i])++q))) (by show(R++_).length+_<=_;rw[Y0,jbP];omega);rw[jzm,jeX hi,jmT];simp only[evz,hlt,jaH hi,jbV,e0,hf1,ea,e2,hf2,h5,ih3,List.getElem?_cons_zero];congr 2;show A.sl 1 ((R++_)++_)=_;congr 1;rw[jio,jbM,qP];congr 2;refine List.map_congr_left λq _=>?_;show plc (p++[i]++q)=plc (p++(i::q));rw[jio];rfl
theorem jxj(k:Nat)(x1:A)(x2:A):∀(r M:List Xf)(R:Xc),(M++r).length<=2000000->(∀q∈r,q.length<=2000000)->R.length+r.length<=2000000->k<=2000000->
  jtm (vi (k:Nat)) x1 x2 (vi (k:Nat)) (.sl 1 ((M++r).map plc)) (vi ((M++r).length:Nat)) (vi (M.length:Nat)) R=jq2 x1 x2 (vi ((k+1:Nat):Int)) (R++(r.map (k::·)).map plc)
 | [],M,R,_,_,_,hk=>by
  have h5:=jeZ (i:=k) (n:=k+1) (by omega) (by omega);have nlt:¬((M.length:Nat):Int)<((M.length:Nat):Int):=by omega
  rw[jzj,KQ];simp only[evz,nlt,h5,List.map_nil,KQ]
 |q::r,M,R,hl,hq,hR,hk=>by
  have h1:=joL M r q;have h2:zN 1 (.sl 1 ((M++q::r).map plc)) (vi (M.length:Nat))=some (.elt (plc q) 0):=joK (f:=plc) (k:=1) M r q;have h3:jci (.elt (plc q) 0)=some (pln q):=rfl;have h5:=jeZ (i:=M.length) (n:=(M++q::r).length) (by simp) (by omega);have hq0:=hq q (by simp);have hf1:jbk (1+q.length) 8=true:=jAE (by omega);have hf2:jbk (R.length+1) 24=true:=jB1 (by simp only[KP]at hR;omega);have ih:=jxj k x1 x2 r (M++[q]) (jgD R [plc (k::q)]) (by simpa using hl) (λy hy=>hq y (by simp[hy])) (by show(R++_).length+_<=_;simp only[Y0,KP,YU]at hR⊢;omega) hk;rw[show(M++[q]).length=M.length+1 by simp,jio,List.singleton_append]at ih;have e:jgD [[vi (k:Nat)]] (q.map λn:Nat=>[vi (n:Nat)])=(k::q).map λn:Nat=>[vi (n:Nat)]:=rfl;have e2:jgD R [plc (k::q)]++(r.map (k::·)).map plc=R++((q::r).map (k::·)).map plc:=by unfold jgD;simp
  rw[e2]at ih;rw[jzj];simp only[evz,h1,h2,h3,hf1,hf2,e,h5,ih]
theorem jqM:∀t:T,Tz t->G 15 [tm t]=some (.sl 1 ((jjz t).map plc),[]):=by
 refine T.ind λt ih ht=>?_;have hs:=ht;unfold Tz at hs;rw[jhG]at hs;have hnl:=jiS t;have hne:=jfw t;have key:=upto (P:=λi=>∀R:Xc,R.length+jcO (t.args.drop i)<=2000000->jq2 (tms t.args) (vi (t.args.length:Nat)) (vi i) R=some (.sl 1 (R++(jmT i (t.args.drop i)).map plc),[])) (n:=t.args.length) ?_ ?_ 0 (Nat.zero_le _) [plc []] (by rw[List.drop_zero];unfold Tz at ht;simp only[KP,YU];omega)
 .rw [g15,juf];simp only[Int.natCast_zero,List.drop_zero]at key;simp only[evz];exact key
 .intro R hR;have nlt:¬((t.args.length:Nat):Int)<((t.args.length:Nat):Int):=by omega
  rw[jzi,List.drop_length];simp only[evz,nlt];rw[jmT,List.map_nil,KQ]
 .intro i hi ih2 R hR;have hlt:(i:Int)<((t.args.length:Nat):Int):=by omega
  have ed:jcO (t.args.drop i)=nodes t.args[i]+jcO (t.args.drop (i+1)):=by rw[jeX hi];rfl
  have e2:=ih t.args[i] (YX _) (ht.args _ (YX _));have hpl:=jmU t.args[i];have hin:=jxj i (tms t.args) (vi (t.args.length:Nat)) (jjz t.args[i]) [] R (by rw[qf];omega) (λq hq=>by have:=(jlO t.args[i] q hq).2;omega) (by omega) (by omega);have ih3:=ih2 (R++((jjz t.args[i]).map (i::·)).map plc) (by rw[Y0,jbP,jbP];omega);simp only[qf,YU,Int.natCast_zero]at hin;rw[jzi,jeX hi,jmT];simp only[evz,hlt,jaH hi,jbV,e2,hin,ih3];rw[jio,jbM]
theorem jxp(m:Nm')(hm:∀p∈m,jc2 p.1=true):∀t:T,Rx' t->Tz t->jpn (tm t) (.mp (m.map kn))=some (.top,[sv (jiv (λn=>(jiD m n).getD n) t).name,.sl 66 ((jiv (λn=>(jiD m n).getD n) t).args.map jbY)]):=by
 refine T.ind λt ih hk ht=>?_;have hz:=ht;unfold Tz at hz;rw[jhG]at hz;have e0:=jAG m t.name;rw[jBl,jlb];cases hv:jc2 t.name with
 |true=>
  have ha:=hk.va hv;rw[ju rfl];obtain⟨n,us⟩:=t;have ha:us=[]:=ha;subst ha;have lp:∀x:Xb,jlH (.mp (m.map kn)) (.sl 2 []) (vi 0) (vi 0) (sv []) (sv x) [] []=some (.top,[sv x,.sl 66 []]):=λx=>by
   rw[jqE];simp only[evz]
  have e0:jcZ none true true [sv []] (.mp (m.map kn)) (sv n)=some (match jiD m n with|some r=>.tup [sv r,vb true]|none=>.tup [sv [],vb false]):=e0;show Option.bind (jez 2 (.agg [sv n,.sl 2 []])) _=some (A.top,[sv ((jiD m n).getD n),.sl 66 []]);cases hl:jiD m n with
  |none=>
   rw[hl]at e0;have lp:=lp n;simp only[evz,e0,lp,Option.getD_none,Int.natCast_zero]
  |some r=>
   rw[hl]at e0;have lp:=lp r;simp only[evz,e0,lp,jbN,Int.natCast_zero]
 |false=>
  rw[juQ hm hv]at e0;rw[jo Bool.false_ne_true];have key:=(upto (P:=λi=>jlH (.mp (m.map kn)) (tms t.args) (vi (t.args.length:Nat)) (vi i) (sv []) (sv t.name) [] (((t.args.map (jiv λn=>(jiD m n).getD n)).take i).map jbY)=some (.top,[sv t.name,.sl 66 ((t.args.map (jiv λn=>(jiD m n).getD n)).map jbY)])) (n:=t.args.length) ?_ ?_) 0 (Nat.zero_le _)
  .simp only[Int.natCast_zero,List.take_zero,List.map_nil]at key;simp only[evz,e0,key];rfl
  .rw [jqE,YZ (by rw[jbP];omega)]
   simp only[evz]
  .intro i hi ih';have hlt:(i:Int)<((t.args.length:Nat):Int):=by omega
   have h5:=jeZ hi (by show t.args.length<=9223372036854775807;omega)
   have e2:=ih t.args[i] (YX _) (hk.args _ (YX _)) (ht.args _ (YX _));have hf:jbk (i+1) 40=true:=js0 (by omega);have hi2:i<(t.args.map (jiv λn=>(jiD m n).getD n)).length:=by rw[jbP];exact hi
   have hl:(((t.args.map (jiv λn=>(jiD m n).getD n)).take i).map jbY).length=i:=by rw[jbP,List.length_take,jbP];omega
   have ha:jgD (((t.args.map (jiv λn=>(jiD m n).getD n)).take i).map jbY) [[sv (jiv (λn=>(jiD m n).getD n) t.args[i]).name,tms (jiv (λn=>(jiD m n).getD n) t.args[i]).args]]=((t.args.map (jiv λn=>(jiD m n).getD n)).take (i+1)).map jbY:=by
    rw[show[sv (jiv (λn=>(jiD m n).getD n) t.args[i]).name,tms (jiv (λn=>(jiD m n).getD n) t.args[i]).args]=jbY (jiv (λn=>(jiD m n).getD n) t.args[i]) from(jhF _).symm,List.take_add_one,jv hi2,jbM,List.getElem_map];rfl
   generalize ((t.args.map (jiv λn=>(jiD m n).getD n)).take i).map jbY=R at *;generalize jiv (λn=>(jiD m n).getD n) t.args[i]=u at *;rw[jqE];simp only[evz,hlt,jaH hi,jbV,e2,hl,hf,ha,h5,ih',List.getElem?_cons_zero,List.getElem?_cons_succ,jkl,jrw]
theorem jxq(p:UInt8)(t:T)(hx:Rx' t)(ht:Tz t):jpn (tm t) (.mp ((jlf p 0 (jiN [] t)).map kn))=some (.top,[sv (jiI p t).name,.sl 66 ((jiI p t).args.map jbY)]):=by
 have hv:∀n∈jiN [] t,jc2 n=true:=λn hn=>by
  rcases(jrJ t [] n).1 hn with h|h
  .cases h
  .exact jo9 t h
 have:=jxp (jlf p 0 (jiN [] t)) (jrN hv) t hx ht;rw[jsF]at this;exact this
theorem jyx{t:T}(ht:Tz t)(h:jmH t=true):Rx' t/\nodes t<=30:=by
 unfold jmH at h;rw[jbO,jm,KR]at h;rcases h with h|⟨h,he⟩
 .unfold jgc at h;rw[jm]at h;exact⟨Or.inl h.2,by have:=h.1;simp only[je7,jm,KR]at this;exact this.1⟩
 .have:=juo h he;exact⟨AxT.rx this.rx,this.2.2.2.2⟩
theorem jAN(p:UInt8)(hp:upc p=true)(t:T)(ht:Tz t)(he:jmH t=true) :
  G 14 [tm t,sv [p]]=some (.tup [tm (jiI p t),vb true],[])/\jvy (tm t) (sv [p])=some (.top,[sv (jiI p t).name,vb true,.sl 66 ((jiI p t).args.map jbY)]):=by
 obtain⟨hx,hn⟩:=jyx ht he;have e1:=juK t ht;rw[he]at e1;have e2:=jk3 p;rw[hp]at e2;have ix:jar (sv [p]) (vi 0)=some (vy (p.toNat:Int)):=rfl;have c1:=jrn t hx ht [] (by simp only[YU];omega);rw[List.map_nil]at c1;have hl:=jkQ (t:=t) (by omega);have e3:=jr7 p (jiN [] t) (joO t List.nodup_nil) hl;have e4:=jxq p t hx ht;have hlen:((((1:Nat)):Int)=1)=True:=by simp
 constructor
 .rw [g14];simp only[evz,e1,hlen,ix,e2,c1,e3,e4,List.getElem?_cons_zero,List.getElem?_cons_succ,jkl]
 .rw [jBe];simp only[evz,e1,hlen,ix,e2,c1,e3,e4,List.getElem?_cons_zero,List.getElem?_cons_succ,jkl]
theorem jBX(t:T)(ht:Tz t)(hn:nodes t<=30)(hv:jc2 t.name=false):jtg (sv t.name) (tms t.args) []=some (.top,[.sl 1 ((jiN [] t).map cs)]):=by
 have hz:=ht;unfold Tz at hz;rw[jhG]at hz;have hnn:=jfw t;have e0:=jit t.name (((jhC t).1 ht.wf).1);rw[hv]at e0;have key:=upto (P:=λi=>∀l:Xa,l.length+jcO (t.args.drop i)<=4000000->jnP (vi (i:Nat)) (sv t.name) (tms t.args) (l.map cs)=some (.top,[.sl 1 ((jk7 l (t.args.drop i)).map cs)])) (n:=t.args.length) ?_ ?_ 0 (Nat.zero_le _) [] (by rw[List.drop_zero];simp only[YU];omega);rotate_left
 .intro l _;rw[jqz,List.drop_length];simp only[evz];rfl
 .intro i hi ihi l hl;have hlt:(i:Int)<((t.args.length:Nat):Int):=by omega
  have h5:=jeZ hi (by show t.args.length<=9223372036854775807;omega)
  rw[jeX hi,jcO]at hl;have q:=jmo t.args[i] (ht.args _ (YX hi)) l (by omega);have hln:=jlM t.args[i] l;have q2:=ihi (jiN l t.args[i]) (by omega);rw[jqz,jeX hi,jk7];generalize jiN l t.args[i]=l' at *;have hr:hR 1 (A.top,[.sl 1 (l'.map cs)]) 0=some (l'.map cs):=rfl;simp only[evz,hlt,jaH hi,jbV,q,hr,h5,q2]
 rw[List.drop_zero,List.map_nil]at key;have e2:jql (vi 0) (sv t.name) (tms t.args) []=jnP (vi 0) (sv t.name) (tms t.args) []:=by rw[jyF,jqz]
 simp only[Int.natCast_zero]at key;rw[jBg,jmP,hv,jo Bool.false_ne_true];simp only[evz,e0,e2,key]
theorem jDi(a b:T)(ha:Tz a)(hb:Tz b)(na:nodes a<=3000)(nb:nodes b<=3000):jvz (sv [61]) [[sv a.name,tms a.args],[sv b.name,tms b.args]] []=some (.top,[.sl 2 [[sv a.name,tms a.args],[sv b.name,tms b.args]],.sl 1 ((jiN [] (.mk [61] [a,b])).map cs)]):=by
 have e0:=jit [61] (by decide);have q1:=jmo a ha [] (by simp only[YU];omega);have hln:=jlM a [];have q2:=jmo b hb (jiN [] a) (by simp only[YU]at hln;omega);rw[List.map_nil]at q1;have e1:jiN [] (.mk [61] [a,b])=jiN (jiN [] a) b:=by
  rw[jmP,show jc2 (T.mk [61] [a,b]).name=false from by show jc2 [61]=false;decide,jo Bool.false_ne_true]
  rfl
 have hv:jc2 [61]=false:=by decide
 rw[hv]at e0;have r0:jf5 [[sv a.name,tms a.args],[sv b.name,tms b.args]] 0 0 2=some (tm a):=by cases a;rfl
 have r1:jf5 [[sv a.name,tms a.args],[sv b.name,tms b.args]] 1 0 2=some (tm b):=by cases b;rfl
 have hr:∀l':Xa,hR 1 (A.top,[.sl 1 (l'.map cs)]) 0=some (l'.map cs):=λ_=>rfl;have lr: [[sv a.name,tms a.args],[sv b.name,tms b.args]].length=2:=rfl;rw[e1];generalize hR': [[sv a.name,tms a.args],[sv b.name,tms b.args]]=R at *;generalize jiN [] a=l1 at *;have c1:ck (0+1)=some (vi 1):=jgN (n:=0+1) (by omega) (by omega);have c2:ck (1+1)=some (vi 2):=jgN (n:=1+1) (by omega) (by omega);have i0:pIx R.length (vi 0)=some 0:=jiG (i:=0) (by omega);have i1:pIx R.length (vi 1)=some 1:=jiG (i:=1) (by omega);have n0:(0:Int)<((R.length:Nat):Int):=by omega
 have n1:(1:Int)<((R.length:Nat):Int):=by omega
 have n2:¬(2:Int)<((R.length:Nat):Int):=by omega
 have s2:jnQ (vi 2) (sv [61]) ((jiN l1 b).map cs) R=some (.top,[.sl 2 R,.sl 1 ((jiN l1 b).map cs)]):=by
  rw[jtX];simp only[evz,n2]
 have s1:jnQ (vi 1) (sv [61]) (l1.map cs) R=some (.top,[.sl 2 R,.sl 1 ((jiN l1 b).map cs)]):=by
  rw[jtX];simp only[evz,n1,i1,r1,q2,hr,c2,s2]
 have s0:jqm (vi 0) (sv [61]) [] R=some (.top,[.sl 2 R,.sl 1 ((jiN l1 b).map cs)]):=by
  rw[jyG];simp only[evz,n0,i0,r0,q1,hr,c1,s1]
 rw[jBh];simp only[evz,e0,s0]
end Go.Proofs.YthapkjbfjniaiaaGreatDoor
