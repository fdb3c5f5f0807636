/- Pd -/
import Derived.Test.YtocncngbocomhaaGreatDoorPb
import Derived.Test.YtocncngbocomhaaGreatDoorPq
import Derived.Test.YtocncngbocomhaaGreatDoorPa
namespace Go.Proofs.YtocncngbocomhaaGreatDoor
open Go Go.RowKit Go.Proofs.YtocncngbocomhaaGreatDoor.Abs
set_option linter.unusedSimpArgs false
set_option linter.unusedVariables false
set_option maxHeartbeats 1000000
theorem jnr(x y:Xb):(sLt x y || decide (x=y))=!sLt y x:=by
 rw[jkN,jkN];by_cases h1:x<y
 .rw [decide_eq_true h1,decide_eq_false (λh2=>List.lt_irrefl _ (List.lt_trans h1 h2))];rfl
 .by_cases h2:x=y
  .subst h2;rw[decide_eq_false h1,decide_eq_true rfl];rfl
  .rw [decide_eq_false h1,decide_eq_false h2,decide_eq_true (ju5 h1 h2)];rfl
theorem jtC(b:Bool)(x y:Xb):jgm .leq b (sv x) (sv y)=some (vb (!sLt y x)):=by rw[<-jnr];rfl
theorem jtB(b:Bool)(x y:Xb):jgm .geq b (sv x) (sv y)=some (vb (!sLt x y)):=rfl
def jlC:Option Xb->jeM->Bool
 |_,[]=>true
 |none,q::r=>jcE q.1 && (jgE q.2 && (!decide (q.2.name=q.1) && jlC (some q.1) r))
 |some m,q::r=>sLt m q.1 && (jcE q.1 && (jgE q.2 && (!decide (q.2.name=q.1) && jlC (some q.1) r)))
def okB(q:Xb×T):Bool:=jcE q.1 && (jgE q.2 && !decide (q.2.name=q.1))
theorem jo9:∀(s:jeM)(m:Xb)(t:T),jlC (some m) s=(jqh ((m,t)::s) && s.all okB)
 | [],m,t=>rfl
 |q::r,m,t=>by
  rw[jlC,jo9 r q.1 q.2,jqh,jby,okB];cases sLt m q.1<;>cases jcE q.1<;>cases jgE q.2<;>cases decide (q.2.name=q.1)<;>simp
theorem jo8(s:jeM):(jlC none s && decide (s.length<=12))=jfl s:=by
 have hd:∀q:Xb×T,dq q.2.name q.1=decide (q.2.name=q.1):=λq=>by
  by_cases h:q.2.name=q.1
  .rw [jje.2 h,decide_eq_true h]
  .rw [jnN.2 h,decide_eq_false h]
 have ha:s.all (λq=>jcE q.1 && (jgE q.2 && !dq q.2.name q.1))=s.all okB:=by
  unfold okB;congr 1;funext q;rw[hd]
 unfold jfl;rw[ha];cases s with
 |nil=>rfl
 |cons q r=>
  rw[jlC,jo9 r q.1 q.2,jby];unfold okB;cases jcE q.1<;>cases jgE q.2<;>cases decide (q.2.name=q.1)<;>simp[Bool.and_comm]
def SzB(s:jeM):Prop:=s.length<=1000000/\ ∀q∈s,q.1.length<=1000000/\Tz q.2
theorem SzB.sz{s:jeM}(h:SzB s):Sz 1048576 s:=⟨by have:=h.1;omega,λq hq=>⟨by have:=(h.2 q hq).1;omega,(h.2 q hq).2⟩⟩
theorem jiy{s:jeM}(h:jfl s=true):SzB s:=by
 obtain⟨h1,_,h3⟩:=jfK h;refine⟨by omega,λq hq=>⟨?_,?_⟩⟩
 .have:=jon (h3 q hq).1;omega
 .have:=jjy q.2 (jlA (h3 q hq).2.1);have:=jiW h q hq;unfold Tz;omega
theorem jjz(q:Xb×T):jb6 3 (.elt (bc q) 0)=some (.agg [sv q.1,sv q.2.name,tms q.2.args]):=rfl
theorem jpa(s:jeM)(hs:SzB s):G 111 [sb s]=some (vb (jfl s),[]):=by
 have hl:=hs.1;have key:=upto (P:=λi=>∀p:Option Xb,(p=none↔i=0)->(∀m,p=some m-> ∃h:i-1<s.length,s[i-1].1=m)->jpi (sbs s) (vi (s.length:Nat)) (vi (i:Nat)) (sbs s)=some (vb (jlC p (s.drop i) && decide (s.length<=12)),[])) (n:=s.length) ?_ ?_ 0 (Nat.zero_le _) none (by simp) (λm h=>by cases h)
 .simp only[Int.natCast_zero,List.drop_zero]at key;rw[jo8]at key;rw[jAy];simp only[evz,key]
 .intro p _ _;have e:decide (((s.length:Nat):Int)<=12)=decide (s.length<=12):=by congr 1;exact propext (by omega)
  have:jlC p []=true:=by cases p<;>rfl
  rw[juE,List.drop_length,this,Bool.true_and,<-e];simp only[evz]
 .intro i hi ih p hp hq;have hlt:(i:Int)<((s.length:Nat):Int):=by omega
  have h5:=jeN hi (by show s.length<=9223372036854775807;omega)
  have hm:=hs.2 _ (jdM hi);have e1:=jlD s[i].1 (by show s[i].1.length<=9223372036854775807;omega);have e2:=jk6 s[i].2 hm.2.wf hm.2;have ih:=ih (some s[i].1) (by simp) (λm h=>by cases h;exact⟨by simpa using hi,rfl⟩);rw[juE,jcS hi];have e3:decide (s[i].2.name=s[i].1)=decide (s[i].2.name=s[i].1):=rfl;generalize hn:decide (s[i].2.name=s[i].1)=nn at *;have e4:jgm .eql false (sv s[i].2.name) (sv s[i].1)=some (vb nn):=by rw[jmH,hn]
  generalize hv:jlC (some s[i].1) (s.drop (i+1))=vv at *;cases p with
  |none=>
   have h0:¬(0:Int)<(i:Int):=by have:=hp.1 rfl;omega
   rw[jlC,hn,hv];cases hb:jcE s[i].1<;>rw[hb]at e1
   .simp only[evz,hlt,jay hi,jjz,e1,Bool.false_and]
   cases hk:jgE s[i].2<;>rw[hk]at e2
   .simp only[evz,hlt,jay hi,jjz,e1,e2,h0,Bool.false_and,Bool.true_and]
   cases nn
   .simp only[evz,hlt,jay hi,jjz,e1,e2,h0,e4,h5,ih,Bool.true_and]
   .simp only[evz,hlt,jay hi,jjz,e1,e2,h0,e4,Bool.false_and,Bool.true_and]
  |some m=>
   obtain⟨hq1,rfl⟩:=hq m rfl;have h0:(0:Int)<(i:Int):=by
    have:¬i=0:=λh=>by have:=hp.2 h;cases this
    omega
   have c1:ck ((i:Int)-1)=some (vi ((i-1:Nat):Int)):=by rw[show(i:Int)-1=((i-1:Nat):Int) by omega];exact jht (by omega) (by omega)
   have e5:=jtC false s[i].1 s[i-1].1;rw[jlC,hn,hv];cases hb:jcE s[i].1<;>rw[hb]at e1
   .rw [Bool.false_and,Bool.and_false];simp only[evz,hlt,jay hi,jjz,e1,Bool.false_and]
   cases hc:sLt s[i-1].1 s[i].1<;>rw[hc]at e5
   .simp only[evz,hlt,jay hi,jay hq1,jjz,e1,h0,c1,e5,Bool.false_and]
   cases hk:jgE s[i].2<;>rw[hk]at e2
   .simp only[evz,hlt,jay hi,jay hq1,jjz,e1,h0,c1,e5,e2,Bool.false_and,Bool.true_and]
   cases nn
   .simp only[evz,hlt,jay hi,jay hq1,jjz,e1,h0,c1,e5,e2,e4,h5,ih,Bool.true_and]
   .simp only[evz,hlt,jay hi,jay hq1,jjz,e1,h0,c1,e5,e2,e4,Bool.false_and,Bool.true_and]
theorem jlz(s:jeM)(hs:SzB s):G 91 [sb s]=some (vb (jfl s),[]):=by
 have hl:=hs.1;have key:=upto (P:=λi=>∀p:Option Xb,(p=none↔i=0)->(∀m,p=some m-> ∃h:i-1<s.length,s[i-1].1=m)->jsr (vi (i:Nat)) (sbs s)=some (vb (jlC p (s.drop i) && decide (s.length<=12)),[])) (n:=s.length) ?_ ?_ 0 (Nat.zero_le _) none (by simp) (λm h=>by cases h)
 .simp only[Int.natCast_zero,List.drop_zero]at key;rw[jo8]at key;rw[g91];simp only[evz,key]
 .intro p _ _;have e:decide (((s.length:Nat):Int)<=12)=decide (s.length<=12):=by congr 1;exact propext (by omega)
  have:jlC p []=true:=by cases p<;>rfl
  rw[jxP,List.drop_length,this,Bool.true_and,<-e];simp only[evz]
 .intro i hi ih p hp hq;have hlt:(i:Int)<((s.length:Nat):Int):=by omega
  have h5:=jeN hi (by show s.length<=9223372036854775807;omega)
  have hm:=hs.2 _ (jdM hi);have e1:=jhT s[i].1 (by show s[i].1.length<=9223372036854775807;omega);have e2:=jlp s[i].2 hm.2.wf hm.2;have ih:=ih (some s[i].1) (by simp) (λm h=>by cases h;exact⟨by simpa using hi,rfl⟩);rw[jxP,jcS hi];generalize hn:decide (s[i].2.name=s[i].1)=nn at *;have e4:jgm .eql false (sv s[i].2.name) (sv s[i].1)=some (vb nn):=by rw[jmH,hn]
  generalize hv:jlC (some s[i].1) (s.drop (i+1))=vv at *;cases p with
  |none=>
   have h0:¬(0:Int)<(i:Int):=by have:=hp.1 rfl;omega
   rw[jlC,hn,hv];cases hb:jcE s[i].1<;>rw[hb]at e1
   .simp only[evz,hlt,jay hi,jjz,e1,Bool.false_and]
   cases hk:jgE s[i].2<;>rw[hk]at e2
   .simp only[evz,hlt,jay hi,jjz,e1,e2,Bool.false_and,Bool.true_and]
   cases nn
   .simp only[evz,hlt,jay hi,jjz,e1,e2,h0,e4,h5,ih,Bool.true_and]
   .simp only[evz,hlt,jay hi,jjz,e1,e2,e4,Bool.false_and,Bool.true_and]
  |some m=>
   obtain⟨hq1,rfl⟩:=hq m rfl;have h0:(0:Int)<(i:Int):=by
    have:¬i=0:=λh=>by have:=hp.2 h;cases this
    omega
   have c1:ck ((i:Int)-1)=some (vi ((i-1:Nat):Int)):=by rw[show(i:Int)-1=((i-1:Nat):Int) by omega];exact jht (by omega) (by omega)
   have e5:=jtB false s[i-1].1 s[i].1;rw[jlC,hn,hv];cases hb:jcE s[i].1<;>rw[hb]at e1
   .rw [Bool.false_and,Bool.and_false];simp only[evz,hlt,jay hi,jjz,e1,Bool.false_and]
   cases hk:jgE s[i].2<;>rw[hk]at e2
   .rw [Bool.false_and,Bool.and_false,Bool.and_false];simp only[evz,hlt,jay hi,jjz,e1,e2,Bool.false_and]
   cases nn
   .cases hc:sLt s[i-1].1 s[i].1<;>rw[hc]at e5
    .simp only[evz,hlt,jay hi,jay hq1,jjz,e1,h0,c1,e5,e2,e4,Bool.false_and]
    .simp only[evz,hlt,jay hi,jay hq1,jjz,e1,h0,c1,e5,e2,e4,h5,ih,Bool.true_and]
   .rw [Bool.not_true,Bool.false_and,Bool.and_false,Bool.and_false,Bool.and_false];simp only[evz,hlt,jay hi,jjz,e1,e2,e4,Bool.false_and]
theorem jvy{α:Type}{R:α->α->Prop}(irr:∀a,¬R a a)(asy:∀a b,R a b-> ¬R b a):∀{l m:List α},l.Pairwise R->m.Pairwise R->(∀x,x∈l↔x∈m)->l=m
 | [],[],_,_,_=>rfl
 | [],b::m,_,_,hx=>absurd ((hx b).2 (by simp)) (by simp)
 |a::l,[],_,_,hx=>absurd ((hx a).1 (by simp)) (by simp)
 |a::l,b::m,h1,h2,hx=>by
  obtain⟨g1,g2⟩:=List.pairwise_cons.1 h1;obtain⟨k1,k2⟩:=List.pairwise_cons.1 h2;have hab:a=b:=by
   rcases zC.1 ((hx a).1 (by simp))with e|e
   .exact e
   rcases zC.1 ((hx b).2 (by simp))with e'|e'
   .exact e'.symm
   .exact (asy _ _ (k1 a e) (g1 b e')).elim
  subst hab;have:l=m:=jvy irr asy g2 k2 λx=>by
   constructor
   .intro hxl;rcases zC.1 ((hx x).1 (by simp[hxl]))with e|e
    .exact (irr x (e ▸ g1 x hxl)).elim
    .exact e
   .intro hxm;rcases zC.1 ((hx x).2 (by simp[hxm]))with e|e
    .exact (irr x (e ▸ k1 x hxm)).elim
    .exact e
  rw[this]
theorem jku{x y z:Xb}(h1:sLt x y=true)(h2:sLt y z=true):sLt x z=true:=by
 rw[jkN,YZ]at *;exact List.lt_trans h1 h2
theorem jpu:∀{s:jeM},jqh s=true->s.Pairwise λp q=>sLt p.1 q.1=true
 | [],_=>List.Pairwise.nil
 | [p],_=>by simp
 |p::q::s,h=>by
  rw[jqh,QR]at h;have ih:=jpu h.2;refine List.pairwise_cons.2 ⟨λx hx=>?_,ih⟩;rcases zC.1 hx with e|e
  .rw [e];exact h.1
  .exact jku h.1 ((List.pairwise_cons.1 ih).1 x e)
theorem jzw{m:Nat}(h:m<=2000000):jep .u64 (vi (m:Nat))=some (.val (.int .u64 (m:Nat))):=by
 show some (A.val (.int .u64 (IntKind.u64.wrap (m:Nat))))=_;have:IntKind.u64.wrap ((m:Nat):Int)=(m:Nat):=by
  unfold IntKind.wrap;simp[IntKind.bits,IntKind.signed];omega
 rw[this]
theorem jzx{m:Nat}(h:m<=2000000):jgm .shr false (.val (.int .u64 (m:Nat))) (.val (.int .u64 1))=some (.val (.int .u64 ((m / 2:Nat):Int))):=by
 show some (A.val (.int .u64 (((m:Nat):Int).fdiv (2 ^ min 1 64))))=_;rw[Int.fdiv_eq_ediv_of_nonneg _ (by decide)];rfl
theorem jzy{m:Nat}(h:m<=2000000):jep .i64 (.val (.int .u64 (m:Nat)))=some (vi (m:Nat)):=jht (by omega) (by omega)
theorem jsu(x y:Xb):ji4 x y<0↔sLt x y=true:=by
 unfold ji4;cases h:sLt x y with
 |true=>simp
 |false=>
  rw[ko Bool.false_ne_true];split<;>simp
theorem jrc(q:Xb×T)(n:Xb):G 116 [.agg (bc q),sv n]=some (vi (ji4 q.1 n),[]):=by
 have e:=jmO q.1 n;rw[jAC];simp only[evz,e]
theorem jmU{s:jeM}(hs:s.Pairwise λp q=>sLt p.1 q.1=true){n:Xb}{i:Nat}(h1:∀k,(h:k<s.length)->k<i->sLt s[k].1 n=true)(h2:∀k,(h:k<s.length)->i<=k->sLt s[k].1 n=false):look s n=if h:i<s.length then(if s[i].1=n then some s[i].2 else none)else none:=by
 have hne:∀k,(h:k<s.length)->k≠i->s[k].1≠n:=λk h hk e=>by
  rcases Nat.lt_or_ge k i with hl|hl
  .have:=h1 k h hl;rw[e,jlv]at this;cases this
  .have hi:i<k:=by omega
   have:=(List.pairwise_iff_getElem.1 hs) i k (by omega) h hi;rw[e]at this;rw[h2 i (by omega) (jl _)]at this;cases this
 split
 .rename_i hi;split
  .rename_i he;have hm:(n,s[i].2)∈s:=by rw[<-he];exact jdM hi
   cases hl:look s n with
   |none=>exact(jjk.1 hl _ hm rfl).elim
   |some r=>
    obtain⟨k,hk,e⟩:=List.mem_iff_getElem.1 (jkI hl);have:k=i:=Classical.byContradiction λh=>hne k hk h (by rw[e]);subst this;rw[e]
  .rename_i he;refine jjk.2 λp hp=>?_;obtain⟨k,hk,rfl⟩:=List.mem_iff_getElem.1 hp;by_cases h:k=i
   .subst h;exact he
   .exact hne k hk h
 .rename_i hi;refine jjk.2 λp hp=>?_;obtain⟨k,hk,rfl⟩:=List.mem_iff_getElem.1 hp;exact hne k hk (by omega)
theorem jq5(s:jeM)(hl:s.length<=1000000)(hs:s.Pairwise λp q=>sLt p.1 q.1=true)(n:Xb):∀(d i j:Nat),j-i<=d->i<=j->j<=s.length->(∀k,(h:k<s.length)->k<i->sLt s[k].1 n=true)->(∀k,(h:k<s.length)->j<=k->sLt s[k].1 n=false)->
  ∃(i':Nat)(b:Bool),jnv (sbs s) (sv n) (.fn 116 []) (vi (s.length:Nat)) (vi (i:Nat)) (vi (j:Nat))=some (.tup [vi (i':Nat),vb b],[])/\look s n=(if h:i'<s.length then(if b then some s[i'].2 else none)else none)/\(b=true->i'<s.length):=by
 intro d;induction d with
 |zero=>
  intro i j hd hij hj h1 h2;have hij:i=j:=by omega
  subst hij;have hlt:¬(i:Int)<(i:Int):=by omega
  have hp:K.pureF 116=true:=rfl;rw[juF];by_cases hi:i<s.length
  .have hi':(i:Int)<((s.length:Nat):Int):=by omega
   have cc:DX.run K (MM K) (.callc (.fn 116 []) [.agg (bc s[i]),sv n] false)=some (vi (ji4 s[i].1 n)):=by
    rw[jjr hp,KO,jrc];rfl
   refine⟨i,decide (s[i].1=n),?_,?_,λ_=>hi⟩
   .have hz:decide (ji4 s[i].1 n=0)=decide (s[i].1=n):=decide_eq_decide.2 (jko.zero _ _);rw[<-hz];simp only[evz,hlt,hi',jay hi,jjz,cc]
   .rw [jmU hs h1 h2,dif_pos hi,dif_pos hi];by_cases he:s[i].1=n
    .rw [jc6 he,decide_eq_true he,jc6 rfl]
    .rw [ko he,decide_eq_false he,ko Bool.false_ne_true]
  .have hi':¬(i:Int)<((s.length:Nat):Int):=by omega
   refine⟨i,false,?_,?_,λh=>by cases h⟩
   .simp only[evz,hlt,hi']
   .rw [jmU hs h1 h2,dif_neg hi,dif_neg hi]
 |succ d ih=>
  intro i j hd hij hj h1 h2;by_cases hlt0:i<j;rotate_left
  .exact ih i j (by omega) hij hj h1 h2
  have hlt:(i:Int)<(j:Int):=by omega
  have hp:K.pureF 116=true:=rfl;have hm:(i+j) / 2<s.length:=by omega
  have c0:ck ((i:Int)+(j:Int))=some (vi ((i+j:Nat):Int)):=jht (by omega) (by omega);have c1:=jzw (m:=i+j) (by omega);have c2:=jzx (m:=i+j) (by omega);have c3:=jzy (m:=(i+j) / 2) (by omega);have cc:DX.run K (MM K) (.callc (.fn 116 []) [.agg (bc s[(i+j) / 2]),sv n] false)=some (vi (ji4 s[(i+j) / 2].1 n)):=by
   rw[jjr hp,KO,jrc];rfl
  have ix:=jay (k:=3) (f:=bc) hm;have hpw:=List.pairwise_iff_getElem.1 hs;rw[juF];have hc:=jsu s[(i+j) / 2].1 n;generalize hg:ji4 s[(i+j) / 2].1 n=c at *;generalize hme:(i+j) / 2=m at *;by_cases hneg:c<0
  .have hs1:=hc.1 hneg;have h5:ck ((m:Int)+1)=some (vi ((m+1:Nat):Int)):=jht (by omega) (by omega);have:=ih (m+1) j (by omega) (by omega) hj (λk hk hk2=>by
    by_cases e:k=m
    .subst e;exact hs1
    .exact jku (hpw k m hk hm (by omega)) hs1) h2
   obtain⟨i',b,e1,e2⟩:=this;exact⟨i',b,by simp only[evz,hlt,c0,c1,c2,c3,ix,jjz,cc,hneg,h5];exact e1,e2⟩
  .have hs1:sLt s[m].1 n=false:=by
    cases h:sLt s[m].1 n with
    |false=>rfl
    |true=>exact(hneg (hc.2 h)).elim
   have:=ih i m (by omega) (by omega) (by omega) h1 (λk hk hk2=>by
    by_cases e:k=m
    .subst e;exact hs1
    .cases h:sLt s[k].1 n with
     |false=>rfl
     |true=>rw[jku (hpw m k hm hk (by omega)) h]at hs1;cases hs1)
   obtain⟨i',b,e1,e2⟩:=this;exact⟨i',b,by simp only[evz,hlt,c0,c1,c2,c3,ix,jjz,cc,hneg];exact e1,e2⟩
def outT(o:Option T):Xe:=match o with|some t=>some (.tup [tm t,vb true],[])|none=>some (.tup [.agg [sv [],.sl 2 []],vb false],[])
theorem joh(s:jeM)(hs:jfl s=true)(n:Xb):G 80 [sb s,sv n]=outT (look s n):=by
 have hl:=(jfK hs).1;obtain⟨i,b,e1,e2,e3⟩:=jq5 s (by omega) (jpu (jfK hs).2.1) n s.length 0 s.length (by omega) (Nat.zero_le _) (jl _) (λk _ h=>by omega) (λk h1 h2=>by omega);simp only[Int.natCast_zero]at e1;have e4:G 115 [sbs s,sv n,.fn 116 []]=some (.tup [vi (i:Nat),vb b],[]):=by
  rw[jAB];simp only[evz,e1]
 rw[g80,e2];cases b with
 |false=>
  have:(if h:i<s.length then(if false=true then some s[i].2 else none)else none)=(none:Option T):=by split<;>simp
  rw[this];simp only[evz,e4];rfl
 |true=>
  have hi:=e3 rfl;rw[dif_pos hi,jc6 rfl];simp only[evz,e4,jay hi,jkL];rfl
theorem jln(s:jeM)(hs:jfl s=true):∀t:T,Rx' t->Tz t->G 50 [sb s,tm t]=some (tm (sub s t),[]):=by
 refine T.ind λt ih hk ht=>?_;have hz:=ht;unfold Tz at hz;rw[jhq]at hz;rw[g50];by_cases ha:t.args=[]
 .have e1:=joh s hs t.name;have h0:jfQ (tms t.args)=some (vi 0):=by rw[ha];rfl
  cases hl:look s t.name with
  |some r=>
   rw[hl]at e1;have e1:G 80 [sb s,sv t.name]=some (.tup [tm r,vb true],[]):=e1;have hv:jcE t.name=true:=((jfK hs).2.2 _ (jkI hl)).1;have e2:=jk1 r ((jiy hs).2 _ (jkI hl)).2;have:sub s t=r:=by rw[jka hv,jm7,hl];rfl
   rw[this];simp only[evz,h0,e1,e2]
  |none=>
   rw[hl]at e1;have e1:G 80 [sb s,sv t.name]=some (.tup [.agg [sv [],.sl 2 []],vb false],[]):=e1;have:sub s t = .mk t.name []:=by
    cases hv:jcE t.name with
    |true=>rw[jka hv,jm7,hl];rfl
    |false=>rw[jjp hv,ha];rfl
   rw[this];simp only[evz,h0,e1];rfl
 .have hv:jcE t.name=false:=by
   cases hv:jcE t.name with
   |false=>rfl
   |true=>exact(ha (hk.va hv)).elim
  have hpos:0<t.args.length:=by
   cases h:t.args with
   |nil=>exact(ha h).elim
   |cons _ _=>simp
  have h0:¬((t.args.length:Nat):Int)=0:=by omega
  rw[jjp hv];generalize hus:t.args.map (sub s)=us at *;have hul:us.length=t.args.length:=by rw[<-hus,jbD]
  have hm:=jmI (b:=40) (n:=t.args.length) (by omega) (by omega);have hz0:(0:Int)<((t.args.length:Nat):Int):=by omega
  have step:∀i,(hi:i<t.args.length)->G 50 [sb s,tm t.args[i]]=some (tm (us[i]'(by omega)),[]):=λi hi=>by
   rw[ih t.args[i] (jdM _) (hk.args _ (jdM _)) (ht.args _ (jdM _))];simp only[<-hus,List.getElem_map]
  have stepR:∀i,(hi:i<t.args.length)->pIx (part jbL [sv [],.sl 2 []] us i).length (vi (i:Nat))=some i/\jbd (part jbL [sv [],.sl 2 []] us i) i=some [sv [],.sl 2 []]/\jal (part jbL [sv [],.sl 2 []] us i) i [sv (us[i]'(by omega)).name,tms (us[i]'(by omega)).args]=part jbL [sv [],.sl 2 []] us (i+1):=λi hi=>by
   have h4:=joa (f:=jbL) (z:=[sv [],.sl 2 []]) (xs:=us) (i:=i) (by omega);rw[jf3]at h4;refine⟨jit (by rw[jlf (by omega)];omega),jn9 (by omega),h4⟩
  have key:=(upto (P:=λi=>1<=i->jub (tms t.args) (vi (t.args.length:Nat)) (vi (i:Nat)) (sbs s) (sv []) (sv t.name) [] (part jbL [sv [],.sl 2 []] us i)=some (tm (.mk t.name us),[])) (n:=t.args.length) ?_ ?_ 1 hpos (jl _));rotate_left
  .intro _;rw[jxC,<-hul,jn8];simp only[evz];rfl
  .intro i hi ih' _;have hlt:(i:Int)<((t.args.length:Nat):Int):=by omega
   have h5:=jeN hi (by show t.args.length<=9223372036854775807;omega)
   have e2:=step i hi;obtain⟨h2,h3,h4⟩:=stepR i hi;have ih':=ih' (by omega);rw[jxC];simp only[evz,hlt,jay hi,jbK,e2,h2,h3,jnh,h4,h5,ih']
  have e2:=step 0 hpos;obtain⟨h2,h3,h4⟩:=stepR 0 hpos;rw[<-jmJ]at h2 h3 h4;simp only[Int.natCast_zero,jbz]at h2 h4 key;have ix:=jay (k:=2) (f:=jbL) hpos;simp only[Int.natCast_zero]at ix;have h5:ck (0+1)=some (vi ((1:Nat):Int)):=jht (n:=0+1) (by omega) (by omega);have first:jua (tms t.args) (vi (t.args.length:Nat)) (vi 0) (sbs s) (sv []) (sv t.name) (jb9 us.length [sv [],.sl 2 []]) []=some (tm (.mk t.name us),[]):=by
   rw[jzH];simp only[evz,hz0,ix,jbK,e2,h2,h3,jnh,h4,h5,key]
  rw[hul]at first
  simp only[evz,h0,hm,first]
theorem jyK(s:jeM):∀t:T,Rx' t->nodes t<=nodes (sub s t)/\dep t<=dep (sub s t):=by
 refine T.ind λt ih hk=>?_;cases hv:jcE t.name with
 |true=>
  have ha:=hk.va hv;rw[jeU t,jjw t,ha];have:=jiG (sub s t);have:=jjw (sub s t);simp only[jct,jke];omega
 |false=>
  have hL:∀us:Xg,(∀u∈us,nodes u<=nodes (sub s u)/\dep u<=dep (sub s u))->jct us<=jct (us.map (sub s))/\jke us<=jke (us.map (sub s)):=by
   intro us;induction us with
   |nil=>intro _;exact⟨jl _,jl _⟩
   |cons v vs ih2=>
    intro h;have h1:=h v (by simp);have h2:=ih2 λw hw=>h w (by simp[hw]);simp only[ky,jct,jke];omega
  have:=hL t.args λu hu=>ih u hu (hk.args u hu);rw[jeU t,jjw t,jeU (sub s t),jjw (sub s t),jmq hv];omega
def AxT(t:T):Prop:=okT t=true\/(t.name=[61]/\t.args.length=2/\ ∀u∈t.args,okT u=true)
theorem AxT.rx{t:T}(h:AxT t):Rx' t:=h.elim Or.inl λh=>Or.inr ⟨h.1,h.2.2⟩
theorem AxT.tz{t:T}(h:AxT t)(hn:nodes t<=100000):Tz t:=by
 rcases h with h|h
 .have:=jjy t h;unfold Tz;omega
 .unfold Tz;rw[jeU]at hn;rw[jhq,h.1,h.2.1];have:=jsP h.2.2;simp only[zz,jhr];omega
theorem AxT.sub{s:jeM}(hs:jfl s=true){t:T}(h:AxT t):AxT (sub s t):=by
 rcases h with h|h
 .exact Or.inl (jlh (jjc hs) t h)
 .have hvn:jcE t.name=false:=by rw[h.1];decide
  right;rw[jjp hvn];refine⟨h.1,by show(t.args.map _).length=2;rw[jbD,h.2.1],λu hu=>?_⟩;obtain⟨a,ha,rfl⟩:=j7.1 hu;exact jlh (jjc hs) a (h.2.2 a ha)
theorem AxT.sub_tz{s:jeM}(hs:jfl s=true){t:T}(h:AxT t)(hn:nodes t<=3000):Tz (Go.Proofs.YtocncngbocomhaaGreatDoor.sub s t):=by
 have:=jmM (u:=s) (Z:=30) (by decide) (jiW hs) t;exact(h.sub hs).tz (by omega)
theorem jtM{s:jeM}{t:T}(h:Rx' t)(hs:jeO (sub s t)=true):jeO t=true:=by
 have:=jyK s t h;simp only[jeO,QR,YZ]at hs⊢;omega
theorem jj3(s:jeM)(hs:jfl s=true)(t:T)(h:AxT t)(hn:nodes t<=3000):G 77 [sb s,tm t]=outT (if jeO (sub s t)then some (sub s t)else none):=by
 have ht:=h.tz (by omega);have hu:=h.sub_tz hs hn;have e1:=jln s hs t h.rx ht;have e2:=jkF (sub s t) hu.wf hu;rw[g77];cases hsm:jeO (sub s t)<;>rw[hsm]at e2
 .rw [ko Bool.false_ne_true];simp only[evz,e1,e2];rfl
 .rw [jc6 rfl];simp only[evz,e1,e2];rfl
theorem jj4(s:jeM)(hs:jfl s=true)(t:T)(h:AxT t)(hn:nodes t<=3000):G 64 [sb s,tm t]=outT (if jeO (sub s t)then some (sub s t)else none):=by
 have ht:=h.tz (by omega);have hu:=h.sub_tz hs hn;have e0:=jlz s (jiy hs);have e1:=jss ht h;have e2:=jkH s (jiy hs).sz t ht;have e3:=jss hu (h.sub hs);rw[hs]at e0;rw[g64];cases hsm:jeO (sub s t)<;>rw[hsm]at e3
 .rw [ko Bool.false_ne_true];cases hs1:jeO t<;>rw[hs1]at e1
  .simp only[evz,e0,e1];rfl
  .simp only[evz,e0,e1,e2,e3];rfl
 .rw [jc6 rfl];rw[jtM h.rx hsm]at e1;simp only[evz,e0,e1,e2,e3];rfl
abbrev LtB(p q:Xb×T):Prop:=sLt p.1 q.1=true
theorem jmX(n:Xb)(t:T):∀s:jeM,s.Pairwise LtB->(∀q∈s,q.1≠n)->(jkg s n t).Pairwise LtB
 | [],_,_=>by unfold jkg;simp
 |p::s,h,hn=>by
  obtain⟨h1,h2⟩:=List.pairwise_cons.1 h;cases hc:sLt p.1 n with
  |true=>
   have e:jkg (p::s) n t=p::jkg s n t:=by
    unfold jkg;rw[List.takeWhile_cons_of_pos (p:=λp:Xb×T=>sLt p.1 n) hc,List.dropWhile_cons_of_pos (p:=λp:Xb×T=>sLt p.1 n) hc,jr]
   rw[e];refine List.pairwise_cons.2 ⟨λx hx=>?_,jmX n t s h2 λq hq=>hn q (by simp[hq])⟩;rcases joc.1 hx with hx|hx
   .exact h1 x hx
   .rw [hx];exact hc
  |false=>
   have e:jkg (p::s) n t=(n,t)::p::s:=by
    unfold jkg;rw[List.takeWhile_cons_of_neg (p:=λp:Xb×T=>sLt p.1 n) (by simp[hc]),List.dropWhile_cons_of_neg (p:=λp:Xb×T=>sLt p.1 n) (by simp[hc])];rfl
   have hlt:sLt n p.1=true:=by
    have h3:=jnr n p.1;rw[hc]at h3;have h4:decide (n=p.1)=false:=decide_eq_false λe=>hn p (by simp) e.symm;rw[h4,Bool.or_false]at h3;exact h3
   rw[e];refine List.pairwise_cons.2 ⟨λx hx=>?_,h⟩;rcases zC.1 hx with e|e
   .rw [e];exact hlt
   .exact jku hlt (h1 x e)
theorem jkM:∀(m s:jeM),s.Pairwise LtB->(m.map Prod.fst).Nodup->(∀p∈m,∀q∈s,q.1≠p.1)->(m.foldl (λs p=>jj1 s p.1 p.2) s).Pairwise LtB
 | [],s,h,_,_=>h
 |p::m,s,h,hn,hd=>by
  rw[ky,jbE]at hn;rw[List.foldl_cons];by_cases he:p.2.name=p.1
  .have:jj1 s p.1 p.2=s:=jc6 he;rw[this];exact jkM m s h hn.2 λq hq r hr=>hd q (by simp[hq]) r hr
  .have:jj1 s p.1 p.2=jkg s p.1 p.2:=ko he;rw[this];refine jkM m _ (jmX p.1 p.2 s h (hd p (by simp))) hn.2 λq hq r hr=>?_;rcases joc.1 hr with hr|hr
   .exact hd q (by simp[hq]) r hr
   .rw [hr];intro e;exact hn.1 (j7.2 ⟨q,hq,e.symm⟩)
theorem jlT:∀(m s:jeM),m.foldl (λs p=>jj1 s p.1 p.2) s=(m.filter λp=> !decide (p.2.name=p.1)).foldl (λs p=>jj1 s p.1 p.2) s
 | [],s=>rfl
 |p::m,s=>by
  rw[List.foldl_cons,List.filter_cons];by_cases he:p.2.name=p.1
  .rw [ko (by simp[he]),show jj1 s p.1 p.2=s from jc6 he];exact jlT m s
  .rw [jc6 (by simp[he]),List.foldl_cons];exact jlT m _
theorem jpT{l s:jeM}(hn:(l.map Prod.fst).Nodup)(hk:∀p∈l,p.2.name≠p.1)(hp:s.Perm l)(hs:s.Pairwise λa b=>¬ji4 b.1 a.1<0):s=jlS l:=by
 have h1:=jkM l [] List.Pairwise.nil hn λp _ q h=>by cases h
 have h2:=(jj9 l [] hk).2;refine jvy (R:=LtB) (λa h=>by unfold LtB at h;rw[jlv]at h;cases h) (λa b h h'=>by have:=jku h h';rw[jlv]at this;cases this) ?_ h1 λx=>?_
 .have hne:s.Pairwise λa b=>a.1≠b.1:=by
   have:(s.map Prod.fst).Nodup:=(hp.map Prod.fst).nodup_iff.2 hn;rw[List.nodup_iff_pairwise_ne]at this;exact List.pairwise_map.1 this
  refine(hs.and hne).imp λ{a b} h=>?_;have h3:=jnr a.1 b.1;rw[decide_eq_false h.2,Bool.or_false]at h3;show sLt a.1 b.1=true;rw[h3];cases hc:sLt b.1 a.1 with
  |false=>rfl
  |true=>exact(h.1 ((jsu _ _).2 hc)).elim
 .rw [hp.mem_iff];have:=h2 x;simp only[jbF,false_or]at this;exact this.symm
def jiB(o:Option jeM):Xe:=match o with|some s=>some (.tup [sb s,vb true],[])|none=>some (.tup [.agg [.sl 3 []],vb false],[])
theorem jsS{n:Nat}(h:n<=1000000):jbb n 56=true:=jwR (by omega)
theorem ju4(p q:Xb×T):G 113 [.agg (bc p),.agg (bc q)]=some (vi (ji4 p.1 q.1),[]):=by
 have e:=jmO p.1 q.1;rw[jAz];simp only[evz,e]
def joR(l:jeM):jeM:=l.filter λp=> !decide (p.2.name=p.1)
theorem jmW{s:jeM}(h:jfl s=true):(s.map Prod.fst).Nodup:=by
 rw[List.nodup_iff_pairwise_ne,List.pairwise_map];exact(jpu (jfK h).2.1).imp λ{a b} h e=>by rw[e,jlv]at h;cases h
def jj6(s u:jeM):jeM:=joR (s.map λq=>(q.1,sub u q.2))++u.filter λq=>(look s q.1).isNone
theorem jsA{s u:jeM}(hu:jfl u=true):jlS (jj6 s u)=jhu s u:=by
 unfold jhu jj6;unfold jlS;rw[List.foldl_append,List.foldl_append,jlT (s.map _)];rfl
theorem jnQ{s u:jeM}(hs:jfl s=true)(hu:jfl u=true):(jj6 s u).length<=24/\((jj6 s u).map Prod.fst).Nodup/\(∀p∈jj6 s u,p.2.name≠p.1)/\ ∀p∈jj6 s u,p.1.length<=1000000/\Tz p.2:=by
 obtain⟨ls,_,vs⟩:=jfK hs;obtain⟨lu,_,vu⟩:=jfK hu;have hs2:∀p∈joR (s.map λq=>(q.1,sub u q.2)),p.2.name≠p.1/\ ∃q∈s,p.1=q.1/\p.2=sub u q.2:=λp hp=>by
  obtain⟨h1,h2⟩:=List.mem_filter.1 hp;obtain⟨q,hq,rfl⟩:=j7.1 h1;exact⟨by simpa using h2,q,hq,rfl,rfl⟩
 refine⟨?_,?_,λp hp=>?_,λp hp=>?_⟩
 .unfold jj6 joR;have h1:=List.length_filter_le (λp:Xb×T=> !decide (p.2.name=p.1)) (s.map λq=>(q.1,sub u q.2));have h2:=List.length_filter_le (λq:Xb×T=>(look s q.1).isNone) u;rw[qg];rw[jbD]at h1;omega
 .unfold jj6;rw[jB];refine Js.2 ⟨?_,?_,λa ha b hb=>?_⟩
  .have:((joR (s.map λq=>(q.1,sub u q.2))).map Prod.fst).Sublist (s.map Prod.fst):=by
    have h:=(List.filter_sublist (p:=λp:Xb×T=> !decide (p.2.name=p.1)) (l:=s.map λq=>(q.1,sub u q.2))).map Prod.fst;rw[QW]at h;exact h
   exact(jmW hs).sublist this
  .exact (jmW hu).sublist (List.filter_sublist.map Prod.fst)
  .obtain ⟨p,hp,rfl⟩:=j7.1 ha;obtain⟨q,hq,rfl⟩:=j7.1 hb;obtain⟨_,r,hr,e,_⟩:=hs2 p hp;have h3:=(List.mem_filter.1 hq).2;rw[Option.isNone_iff_eq_none]at h3;intro e2;exact jjk.1 h3 r hr (by rw[<-e,e2])
 .rcases YW.1 hp with hp|hp
  .exact (hs2 p hp).1
  .exact (vu p (List.mem_filter.1 hp).1).2.2
 .rcases YW.1 hp with hp|hp
  .obtain ⟨_,q,hq,e1,e2⟩:=hs2 p hp;rw[e1,e2];have h1:=(jiy hs).2 q hq;exact⟨h1.1,AxT.sub_tz hu (Or.inl (jjc hs q hq)) (by have:=jiW hs q hq;omega)⟩
  .exact (jiy hu).2 p (List.mem_filter.1 hp).1
theorem jsw{s u:jeM}(hs:jfl s=true)(hu:jfl u=true):SzB (jhu s u):=by
 obtain⟨h1,h2,h3,h4⟩:=jnQ hs hu;rw[<-jsA hu];obtain⟨f1,f2⟩:=jj9 (jj6 s u) [] h3;refine⟨by unfold jlS;rw[f1];simp;omega,λq hq=>?_⟩;have:=(f2 q).1 hq;simp only[jbF,false_or]at this;exact h4 q this
theorem jmP(s u:jeM)(hs:jfl s=true)(hu:jfl u=true):G 79 [sb s,sb u]=jiB (if jfl (jhu s u)then some (jhu s u)else none):=by
 obtain⟨g1,g2,g3,g4⟩:=jnQ hs hu;have ls:=(jfK hs).1;have lu:=(jfK hu).1;obtain⟨so,p1,p2,p3⟩:=juv jko Prod.fst bc 3 113 rfl (jj6 s u) (by omega) λx _ y _=>ju4 x y;have hso:=jpT g2 g3 p1 p2;rw[jsA hu]at hso;subst hso;have e1:=jpa (jhu s u) (jsw hs hu);have fin:joK (sbs u) (vi (u.length:Nat)) (vi (u.length:Nat)) (sbs s) [] ((jj6 s u).map bc)=jiB (if jfl (jhu s u)then some (jhu s u)else none):=by
  have hC:jro ((jj6 s u).map bc)=some (.top,[.sl 3 ((jhu s u).map bc)]):=by rw[jyc];exact p3
  have r1:hR 3 (A.top,[.sl 3 ((jhu s u).map bc)]) 0=some ((jhu s u).map bc):=rfl;rw[jxL];cases hv:jfl (jhu s u)<;>rw[hv]at e1
  .rw [ko Bool.false_ne_true];have e1:(G 111 [sb (jhu s u)]).bind (fin true)=some (vb false):=by rw[e1];rfl
   simp only[evz,hC,r1,e1];rfl
  .rw [jc6 rfl];have e1:(G 111 [sb (jhu s u)]).bind (fin true)=some (vb true):=by rw[e1];rfl
   simp only[evz,hC,r1,e1];rfl
 have k1:=upto (P:=λi=>∀R:jeM,R.length<=12+i->R++(u.drop i).filter (λq=>(look s q.1).isNone)=jj6 s u->joK (sbs u) (vi (u.length:Nat)) (vi (i:Nat)) (sbs s) [] (R.map bc)=jiB (if jfl (jhu s u)then some (jhu s u)else none)) (n:=u.length) ?_ ?_ 0 (Nat.zero_le _);rotate_left
 .intro R _ hR;rw[List.drop_length,List.filter_nil,KO]at hR;rw[hR];exact fin
 .intro i hi ih R hRl hR;have hlt:(i:Int)<((u.length:Nat):Int):=by omega
  have h5:ck ((i:Int)+1)=some (vi ((i+1:Nat):Int)):=jht (by omega) (by omega);have e2:=joh s hs u[i].1;rw[jcS hi,List.filter_cons]at hR;rw[jxL];cases hl:look s u[i].1 with
  |some r=>
   rw[hl]at e2 hR;have e2:G 80 [sb s,sv u[i].1]=some (.tup [tm r,vb true],[]):=e2;rw[ko (by simp)]at hR;have:=ih R (by omega) hR;simp only[evz,hlt,jay hi,jjz,e2,h5,this]
  |none=>
   rw[hl]at e2 hR;have e2:G 80 [sb s,sv u[i].1]=some (.tup [.agg [sv [],.sl 2 []],vb false],[]):=e2;rw[jc6 (by simp)]at hR;have:=ih (R++[u[i]]) (by rw[qg];simp only[zz,jhr];omega) (by rw[JP];exact hR);have e3:=jk1 u[i].2 ((jiy hu).2 _ (jdM hi)).2;have hf:jbb (R.length+1) 56=true:=jsS (by omega);have ha:jgs (R.map bc) [[sv u[i].1,sv u[i].2.name,tms u[i].2.args]]=(R++[u[i]]).map bc:=by rw[jB];rfl
   simp only[evz,hlt,jay hi,jjz,e2,e3];generalize hB:K1 _ _ _=B;have hB':B=some (.agg (bc u[i])):=by rw[<-hB];kernel_rfl
   rw[hB'];simp only[evz,hf,ha,h5,this]
 have k0:=upto (P:=λi=>∀R:jeM,R.length<=i->R++(joR ((s.drop i).map λq=>(q.1,sub u q.2))++u.filter λq=>(look s q.1).isNone)=jj6 s u->jqa (sbs s) (vi (s.length:Nat)) (vi (i:Nat)) (sbs s) (sbs u) [] (R.map bc)=jiB (if jfl (jhu s u)then some (jhu s u)else none)) (n:=s.length) ?_ ?_ 0 (Nat.zero_le _) [] (Nat.zero_le _) rfl
 .simp only[Int.natCast_zero,List.map_nil]at k0;rw[g79];simp only[evz,k0]
 .intro R hRl hR;have:=k1 R (by omega) (by rw[List.drop_zero];rw[List.drop_length]at hR;exact hR);simp only[Int.natCast_zero]at this;rw[jxK];simp only[evz,this]
 .intro i hi ih R hRl hR;have hlt:(i:Int)<((s.length:Nat):Int):=by omega
  have h5:ck ((i:Int)+1)=some (vi ((i+1:Nat):Int)):=jht (by omega) (by omega);have hm:=(jiy hs).2 _ (jdM hi);have e2:=jln u hu s[i].2 (Or.inl (jjc hs _ (jdM hi))) hm.2;rw[jcS hi,ky,joR,List.filter_cons]at hR;rw[jxK];by_cases he:(sub u s[i].2).name=s[i].1
  .rw [ko (by simp[he])]at hR;have:=ih R (by omega) hR;simp only[evz,hlt,jay hi,jjz,e2,he,h5,this]
  .rw [jc6 (by simp[he])]at hR;have:=ih (R++[(s[i].1,sub u s[i].2)]) (by rw[qg];simp only[zz,jhr];omega) (by rw[JP];exact hR);have hf:jbb (R.length+1) 56=true:=jsS (by omega);have ha:jgs (R.map bc) [[sv s[i].1,sv (sub u s[i].2).name,tms (sub u s[i].2).args]]=(R++[(s[i].1,sub u s[i].2)]).map bc:=by rw[jB];rfl
   simp only[evz,hlt,jay hi,jjz,e2,he,hf,ha,h5,this]
theorem jpG(s u:jeM)(hs:jfl s=true)(hu:jfl u=true):G 125 [sb s,sb u]=some (sb (jhu s u),[]):=by
 have ls:=(jfK hs).1;have lu:=(jfK hu).1;have r1:∀x:jeM,hR 3 (A.top,[sbs x]) 0=some (x.map bc):=λx=>rfl;have k1:=upto (P:=λi=>∀R:jeM,R.length<=12+i->(∀q∈R,Tz q.2)->jny (vi (i:Nat)) (sbs s) (sbs u) [] (R.map bc)=some (sb (((u.drop i).filter λq=>(look s q.1).isNone).foldl (λs p=>jj1 s p.1 p.2) R),[])) (n:=u.length) ?_ ?_ 0 (Nat.zero_le _);rotate_left
 .intro R _ _;rw[juM,List.drop_length];simp only[evz];rfl
 .intro i hi ih R hR hz;have hlt:(i:Int)<((u.length:Nat):Int):=by omega
  have h5:ck ((i:Int)+1)=some (vi ((i+1:Nat):Int)):=jht (by omega) (by omega);have hm:=(jiy hu).2 _ (jdM hi);rw[juM,jcS hi,List.filter_cons];rcases joU s (by omega) u[i].1 with⟨h1,h2⟩|⟨k,hk,h1,h2⟩
  .have e3:=jsV R (by omega) u[i].1 u[i].2 hm.2;have:=ih (jj1 R u[i].1 u[i].2) (by have:=jqT R u[i].1 u[i].2;omega) λq hq=>(jqU hq).elim (hz q) λe=>by rw[e];exact hm.2
   rw[h1,jc6 (by simp),List.foldl_cons];simp only[evz,hlt,jay hi,jkL,h2,e3,r1,h5,this]
  .have:=ih R (by omega) hz;have hk0:¬((k:Nat):Int)<0:=by omega
   rw[h1,ko (by simp)];simp only[evz,hlt,jay hi,h2,hk0,h5,this]
 have k0:=upto (P:=λi=>∀R:jeM,R.length<=i->(∀q∈R,Tz q.2)->jpm (vi (i:Nat)) (sbs s) (sbs u) [] (R.map bc)=some (sb ((u.filter λq=>(look s q.1).isNone).foldl (λs p=>jj1 s p.1 p.2) (((s.drop i).map λq=>(q.1,sub u q.2)).foldl (λs p=>jj1 s p.1 p.2) R)),[])) (n:=s.length) ?_ ?_ 0 (Nat.zero_le _) [] (Nat.zero_le _) (λq h=>by cases h)
 .simp only[Int.natCast_zero,List.map_nil,List.drop_zero]at k0;rw[jAK];simp only[evz,k0];rw[<-List.foldl_append];rfl
 .intro R hR hz;have:=k1 R (by omega) hz;simp only[Int.natCast_zero,List.drop_zero]at this;rw[juL,List.drop_length];simp only[evz,this];rfl
 .intro i hi ih R hR hz;have hlt:(i:Int)<((s.length:Nat):Int):=by omega
  have h5:ck ((i:Int)+1)=some (vi ((i+1:Nat):Int)):=jht (by omega) (by omega);have hm:=(jiy hs).2 _ (jdM hi);have ht:Tz (sub u s[i].2):=AxT.sub_tz hu (Or.inl (jjc hs _ (jdM hi))) (by have:=jiW hs _ (jdM hi);omega);have e2:=jkH u (jiy hu).sz s[i].2 hm.2;have e3:=jsV R (by omega) s[i].1 (sub u s[i].2) ht;have:=ih (jj1 R s[i].1 (sub u s[i].2)) (by have:=jqT R s[i].1 (sub u s[i].2);omega) λq hq=>(jqU hq).elim (hz q) λe=>by rw[e];exact ht
  rw[juL,jcS hi,ky,List.foldl_cons];simp only[evz,hlt,jay hi,jkL,e2,e3,r1,h5,this]
theorem jqn(s u:jeM)(hs:jfl s=true)(hu:SzB u):G 94 [sb s,sb u]=jiB (if jfl u && jfl (jhu s u)then some (jhu s u)else none):=by
 have e1:=jlz s (jiy hs);have e2:=jlz u hu;rw[hs]at e1;rw[g94];cases hv:jfl u<;>rw[hv]at e2
 .rw [Bool.false_and,ko Bool.false_ne_true];simp only[evz,e1,e2];rfl
 .have e3:=jpG s u hs hv;have e4:=jlz (jhu s u) (jsw hs hv);rw[Bool.true_and];cases hc:jfl (jhu s u)<;>rw[hc]at e4
  .rw [ko Bool.false_ne_true];simp only[evz,e1,e2,e3,e4];rfl
  .rw [jc6 rfl];simp only[evz,e1,e2,e3,e4];rfl
inductive Hgt(s:jeM):Nat->Eqs->Prop
 |nil (r:Nat):Hgt s r []
 |blk (r τ δ:Nat) (b es:Eqs):9*τ+(8-δ)<r->τ<=s.length+1->δ<=8->b.length<=4->(τ=s.length+1-> ∀p∈b,sub s p.1=p.1/\sub s p.2=p.2/\dep p.1<=δ/\dep p.2<=δ)->Hgt s (9*τ+(8-δ)) es->Hgt s r (b++es)
theorem Hgt.len{s:jeM}{r:Nat}{es:Eqs}(h:Hgt s r es):es.length<=4*r:=by
 induction h with
 |nil r=>exact Nat.zero_le _
 |blk r τ δ b es h1 _ _ h4 _ _ ih=>rw[qg];omega
theorem Hgt.mono{s:jeM}{r r':Nat}{es:Eqs}(h:Hgt s r es)(hr:r<=r'):Hgt s r' es:=by
 induction h with
 |nil=>exact Hgt.nil _
 |blk r τ δ b es h1 h2 h3 h4 h5 h6 _=>exact Hgt.blk r' τ δ b es (by omega) h2 h3 h4 h5 h6
theorem Hgt.grow{s s':jeM}(hs:s.length<s'.length){r:Nat}{es:Eqs}(h:Hgt s r es):Hgt s' r es:=by
 induction h with
 |nil r=>exact Hgt.nil _
 |blk r τ δ b es h1 h2 h3 h4 h5 _ ih=>exact Hgt.blk r τ δ b es h1 (by omega) h3 h4 (λh=>by omega) ih
theorem Hgt.pop{s:jeM}{r:Nat}{es:Eqs}(h:Hgt s r es):∀{p:T×T}{rest:Eqs},es=p::rest-> ∃τ δ,9*τ+(8-δ)<r/\τ<=s.length+1/\δ<=8/\(τ=s.length+1->sub s p.1=p.1/\sub s p.2=p.2/\dep p.1<=δ/\dep p.2<=δ)/\Hgt s (9*τ+(8-δ)+1) rest:=by
 induction h with
 |nil r=>intro p rest h;cases h
 |blk r τ δ b es h1 h2 h3 h4 h5 h6 ih=>
  intro p rest he;cases b with
  |nil=>
   obtain⟨τ',δ',g1,g2⟩:=ih he;exact⟨τ',δ',by omega,g2⟩
  |cons q b=>
   rw[jr,kq]at he;obtain⟨rfl,rfl⟩:=he;rw[zz]at h4;exact⟨τ,δ,h1,h2,h3,λh=>h5 h q (by simp),Hgt.blk _ τ δ b es (by omega) h2 h3 (by omega) (λh x hx=>h5 h x (by simp[hx])) h6⟩
theorem jmi{t:T}(h:AxT t):t.args.length<=4:=by
 rcases h with h|h
 .cases hv:jcE t.name with
  |true=>rw[jkw h hv];simp
  |false=>
   rw[jiH,hv,ko Bool.false_ne_true,QR,QR,YZ]at h;exact h.2.1
 .omega
theorem jiJ{s:jeM}{l r:T}{rest:Eqs}(h:jjq s ((l,r)::rest))(hg:Hgt s 126 ((l,r)::rest)){s':jeM}{es:Eqs}(hst:jiA s l r rest=some (s',es)):Hgt s' 126 es:=by
 obtain⟨τ,δ,g1,g2,g3,g4,g5⟩:=hg.pop rfl;have hrest:Hgt s 126 rest:=g5.mono (by omega);have hl:=(jfK h.1).1;obtain⟨_,hor⟩:=jil h hst;by_cases hlen:s'.length=s.length+1
 .have hst':=hst;unfold jiA at hst;split at hst
  .cases hst
  split at hst
  .cases hst;omega
  split at hst
  .split at hst
   .cases hst
   .cases hst;exact hrest.grow (by omega)
  .split at hst
   .cases hst;omega
   .cases hst
 .have hs:s'=s:=hor.elim (λh=>h.1) λh=>(hlen h).elim;subst hs;obtain⟨hv,hi,he⟩:=h;obtain⟨el,er⟩:=he (l,r) (by simp);unfold jiA at hst;split at hst
  .cases hst
  rename_i hsm;split at hst
  .cases hst;exact hrest
  split at hst
  .rename_i hvar;split at hst
   .cases hst
   .rename_i hno;simp only[jv,KM]at hst;rw[<-hst.2];exact hrest
  rename_i hnv;split at hst;rotate_left
  .cases hst
  simp only[jv,KM,true_and]at hst;subst hst;have sm:∀t,¬jeO t=false->dep t<=8:=λt ht=>by
   have:jeO t=true:=by cases h:jeO t with|true=>rfl|false=>exact(ht h).elim
   simp only[jeO,QR,YZ]at this;exact this.2
  have d1:=sm (sub s' l) λh=>hsm (Or.inl h);have d2:=sm (sub s' r) λh=>hsm (Or.inr h);have v1:jcE (sub s' l).name=false:=by
   cases h:jcE (sub s' l).name with
   |false=>rfl
   |true=>exact absurd (Or.inl h) hnv
  have v2:jcE (sub s' r).name=false:=by
   cases h:jcE (sub s' r).name with
   |false=>rfl
   |true=>exact absurd (Or.inr h) hnv
  have xl:AxT (sub s' l):=AxT.sub hv el.1;have xr:AxT (sub s' r):=AxT.sub hv er.1;have arg:∀w:T,AxT (sub s' w)->jcE (sub s' w).name=false->IdS s'-> ∀u∈(sub s' w).args,sub s' u=u/\dep u+1<=dep (sub s' w):=λw xw vw hi u hu=>by
   refine⟨jrU u (xw.elim (λh=>jhU h u hu) λh=>h.2.2 u hu) λx hx=>joo hi w (by rw[vsf vw,jiT];exact⟨u,hu,hx⟩),?_⟩
   have:=jqs hu;rw[jjw (sub s' w)];omega
  have p1:=jjw (sub s' l);have p2:=jjw (sub s' r);refine Hgt.blk 126 (s'.length+1) (max (dep (sub s' l)) (dep (sub s' r))-1) _ rest (by omega) (jl _) (by omega) ?_ (λ_ p hp=>?_) (g5.mono ?_)
  .rw [List.length_zip];have:=jmi xl;omega
  .have hm:=List.of_mem_zip (a:=p.1) (b:=p.2) hp;have q1:=arg l xl v1 hi p.1 hm.1;have q2:=arg r xr v2 hi p.2 hm.2;exact⟨q1.1,q2.1,by omega,by omega⟩
  .by_cases hτ:τ=s'.length+1
   .obtain ⟨w1,w2,w3,w4⟩:=g4 hτ;have w3:dep l<=δ:=w3;have w4:dep r<=δ:=w4;have w1:dep (sub s' l)=dep l:=congrArg dep w1;have w2:dep (sub s' r)=dep r:=congrArg dep w2;omega
   .omega
theorem jzz(a b:T):Hgt [] 126 [(a,b)]:=Hgt.blk 126 0 8 [(a,b)] [] (by omega) (by omega) (by omega) (by simp) (λh=>by simp at h) (Hgt.nil _)
theorem jm5{n:Nat}(h:n<=100000):jbb n 80=true:=by
 unfold jbb;exact decide_eq_true ⟨by omega,by omega⟩
theorem jnH{x y:T}(h:jcE x.name=true\/jcE y.name=true):jcE (jeL x y).1=true/\(((jeL x y).1=y.name/\(jeL x y).2=x)\/((jeL x y).1=x.name/\(jeL x y).2=y)):=by
 unfold jeL;split
 .rename_i hc;refine⟨?_,Or.inl ⟨rfl,rfl⟩⟩;rcases hc with hc|hc
  .rcases h with h|h
   .rw [hc]at h;cases h
   .exact h
  .exact hc.1
 .rename_i hc;refine⟨?_,Or.inr ⟨rfl,rfl⟩⟩;rcases Bool.eq_false_or_eq_true (jcE x.name)with h2|h2
  .exact h2
  .exact absurd (Or.inl h2) hc
theorem jts{p:Xb×T}(hn:jcE p.1=true):(!decide ((0:Int)<(cnt p.1 p.2:Nat)) && jfl [p])=(!decide (p.1∈jhn p.2) && jfl [p]):=by
 cases hv:jfl [p]with
 |false=>rw[Bool.and_false,Bool.and_false]
 |true=>
  have hk:okT p.2=true:=jjc hv p (by simp);have:=jvT hn p.2 hk;rw[Bool.and_true,Bool.and_true];congr 1;exact decide_eq_decide.2 (by rw[this];omega)
theorem jve{p:Xb×T}(hn:jcE p.1=true)(hz:Tz p.2):SzB [p]:=⟨by simp,λq hq=>by
 rw[j6.1 hq];exact⟨by have:=jon hn;omega,hz⟩⟩
theorem jl8(x y:T)(hx:AxT x)(hy:AxT y)(nx:nodes x<=3000)(ny:nodes y<=3000)(h:jcE x.name=true\/jcE y.name=true):G 78 [.agg [sv x.name,tms x.args,sv y.name,tms y.args]]=some (.tup [sb [jeL x y],vb (!decide ((jeL x y).1∈jhn (jeL x y).2) && jfl [jeL x y])],[]):=by
 have e1:=ji9 x (hx.imp id λh=>h.1);have e2:=ji9 y (hy.imp id λh=>h.1);obtain⟨hv,hor⟩:=jnH h;have hz:Tz (jeL x y).2:=by
  rcases hor with h|h
  .rw [h.2];exact hx.tz (by omega)
  .rw [h.2];exact hy.tz (by omega)
 have hn:nodes (jeL x y).2<=3000:=by
  rcases hor with h|h
  .rw [h.2];exact nx
  .rw [h.2];exact ny
 have e3:=jjd (jeL x y).1 (jeL x y).2 hz.wf (by omega);have e4:G 110 [sv (jeL x y).1,tm (jeL x y).2]=some (vb (decide ((0:Int)<(cnt (jeL x y).1 (jeL x y).2:Nat))),[]):=by
  rw[jAx];simp only[evz,e3]
 have e5:=jpa [jeL x y] (jve hv hz);have e5:G 111 [.agg [.sl 3 [[sv (jeL x y).1,sv (jeL x y).2.name,tms (jeL x y).2.args]]]]=some (vb (jfl [jeL x y]),[]):=e5;rw[<-jts hv,g78];generalize hb:jfl [jeL x y]=vv at *;generalize ho:decide ((0:Int)<(cnt (jeL x y).1 (jeL x y).2:Nat))=oo at *;have hsb:sb [jeL x y] = .agg [.sl 3 [[sv (jeL x y).1,sv (jeL x y).2.name,tms (jeL x y).2.args]]]:=rfl;rw[hsb];have e5:(G 111 [.agg [.sl 3 [[sv (jeL x y).1,sv (jeL x y).2.name,tms (jeL x y).2.args]]]]).bind (fin true)=some (vb vv):=by rw[e5];rfl
 cases hx1:jcE x.name<;>rw[hx1]at e1
 .have hbd:jeL x y=(y.name,x):=jc6 (Or.inl hx1);rw[hbd]at e4 e5⊢;have e4:G 110 [sv y.name,tm x]=some (vb oo,[]):=e4;have e5:(G 111 [.agg [.sl 3 [[sv y.name,sv x.name,tms x.args]]]]).bind (fin true)=some (vb vv):=e5;cases oo
  .simp only[evz,e1,e4,e5,Bool.true_and]
  .simp only[evz,e1,e4,Bool.false_and]
 .cases hy1:jcE y.name<;>rw[hy1]at e2
  .have hbd:jeL x y=(x.name,y):=ko (by rw[hx1,hy1];simp)
   rw[hbd]at e4 e5⊢;have e4:G 110 [sv x.name,tm y]=some (vb oo,[]):=e4;have e5:(G 111 [.agg [.sl 3 [[sv x.name,sv y.name,tms y.args]]]]).bind (fin true)=some (vb vv):=e5;cases oo
   .simp only[evz,e1,e2,e4,e5,Bool.true_and]
   .simp only[evz,e1,e2,e4,Bool.false_and]
  .have e6:=jo3 false y.name x.name;cases hc:sLt x.name y.name<;>rw[hc]at e6
   .have hbd:jeL x y=(x.name,y):=ko (by rw[hx1,hy1,hc];simp)
    rw[hbd]at e4 e5⊢;have e4:G 110 [sv x.name,tm y]=some (vb oo,[]):=e4;have e5:(G 111 [.agg [.sl 3 [[sv x.name,sv y.name,tms y.args]]]]).bind (fin true)=some (vb vv):=e5;cases oo
    .simp only[evz,e1,e2,e6,e4,e5,Bool.true_and]
    .simp only[evz,e1,e2,e6,e4,Bool.false_and]
   .have hbd:jeL x y=(y.name,x):=jc6 (Or.inr ⟨hy1,hc⟩);rw[hbd]at e4 e5⊢;have e4:G 110 [sv y.name,tm x]=some (vb oo,[]):=e4;have e5:(G 111 [.agg [.sl 3 [[sv y.name,sv x.name,tms x.args]]]]).bind (fin true)=some (vb vv):=e5;cases oo
    .simp only[evz,e1,e2,e6,e4,e5,Bool.true_and]
    .simp only[evz,e1,e2,e6,e4,Bool.false_and]
theorem joV(s:jeM)(hs:jfl s=true)(n:Xb)(t:T)(hn:jcE n=true)(ht:Tz t)(hk:n∈jhn t\/t.name≠n):∃z:jeM,G 65 [sb s,sv n,tm t]=some (if !decide (n∈jhn t) && (jfl [(n,t)] && jfl (jhu s [(n,t)]))then .tup [sb (jhu s [(n,t)]),vb true]else .tup [sb z,vb false],[]):=by
 obtain⟨r,e1,hr,hl⟩:=joT t ht.wf (by have:=jiF t;have:=ht;unfold Tz at this;omega)
 have e2:=jpE r n hl;have hc:r.contains n=decide (n∈jhn t):=by
  cases h:r.contains n with
  |true=>rw[List.contains_iff_mem,hr]at h;exact(decide_eq_true h).symm
  |false=>
   refine(decide_eq_false λh2=>?_).symm;rw[<-hr,<-List.contains_iff_mem,h]at h2;cases h2
 rw[hc]at e2;rw[g65];by_cases hm:n∈jhn t
 .refine ⟨s,?_⟩;rw[decide_eq_true hm]at e2;rw[decide_eq_true hm,Bool.not_true,Bool.false_and,ko Bool.false_ne_true];simp only[evz,e1,e2]
 .refine ⟨[],?_⟩;have hne:¬t.name=n:=hk.resolve_left hm;rw[decide_eq_false hm]at e2;rw[decide_eq_false hm,Bool.not_false,Bool.true_and];have e3:jt0 (sv n) (sv t.name) (tms t.args) []=some (.top,[.sl 3 [[sv n,sv t.name,tms t.args]]]):=by
   have k1:pB (jds []) (jg7 [] 0) (some (vi 0))=some 0:=rfl;have k2:pB (jds []) (jg7 [] 0) none=some 0:=rfl;have k3:pB 0 0 (some (vi 0))=some 0:=rfl;have k4:jhW [] 0 (jhR 0 0)=[]:=rfl;have k5:jgs (jgs [] [[sv n,sv t.name,tms t.args]]) []=[[sv n,sv t.name,tms t.args]]:=rfl;have f0:jbb 0 56=true:=jsS (by omega);have f1:jbb 1 56=true:=jsS (by omega);have f2:(jgs [] [[sv n,sv t.name,tms t.args]]).length=1:=rfl;have eo:=jn5 t ht;have h00:¬((0:Int)<((0:Nat):Int)):=by omega
   rw[jzi];simp only[evz,hne];rw[jwK];simp only[evz,h00,k1,k2,k3,k4,f0,f1,eo];generalize hB:K1 _ _ _=B;have hB':B=some (.agg [sv n,sv t.name,tms t.args]):=by rw[<-hB];kernel_rfl
   rw[hB'];simp only[evz,f1,k5,f2,zH]
  have e4:=jqn s [(n,t)] hs (jve hn ht);have r1:hR 3 (A.top,[.sl 3 [[sv n,sv t.name,tms t.args]]]) 0=some [[sv n,sv t.name,tms t.args]]:=rfl;have e4:G 94 [sb s,.agg [.sl 3 [[sv n,sv t.name,tms t.args]]]]=_:=e4;cases hb:jfl [(n,t)] && jfl (jhu s [(n,t)])
  .rw [hb,ko Bool.false_ne_true]at e4;have e4:G 94 [sb s,.agg [.sl 3 [[sv n,sv t.name,tms t.args]]]]=some (.tup [.agg [.sl 3 []],vb false],[]):=e4;rw[ko Bool.false_ne_true];simp only[evz,e1,e2,e3,r1,e4];rfl
  .rw [hb,jc6 rfl]at e4;have e4:G 94 [sb s,.agg [.sl 3 [[sv n,sv t.name,tms t.args]]]]=some (.tup [sb (jhu s [(n,t)]),vb true],[]):=e4;rw[jc6 rfl];simp only[evz,e1,e2,e3,r1,e4]
theorem jue{t:T}(h:AxT t)(hv:jcE t.name=true):t = .mk t.name []:=by
 rcases h with h|h
 .have:=jkw h hv;cases t with
  |mk n us=>have:us=[]:=this;rw[this];rfl
 .rw [h.1]at hv;exact absurd hv (by decide)
theorem jrq{x y:T}(hx:AxT x)(hy:AxT y)(hne:dq x y=false)(hv:jcE x.name=true\/jcE y.name=true):jeL y x=jeL x y:=by
 unfold jeL;cases h1:jcE x.name<;>cases h2:jcE y.name
 .rw [h1,h2]at hv;rcases hv with h|h<;>cases h
 .simp
 .simp
 .have hxe:=jue hx h1;have hye:=jue hy h2;have hn:¬x.name=y.name:=λe=>jnN.1 hne (by rw[hxe,hye,e]);have:=jnr x.name y.name;rw[decide_eq_false hn,Bool.or_false]at this;cases h3:sLt y.name x.name<;>rw[h3]at this<;>simp[this]
theorem jwa{x y:T} :dq y x=dq x y:=by
 rw[Bool.eq_iff_iff,jje,jje];exact⟨Eq.symm,Eq.symm⟩
theorem jpd:∀(a b:Xg),b.zip a=(a.zip b).map Prod.swap
 | [],b=>by simp
 |x::a,[]=>by simp
 |x::a,y::b=>by simp[jpd a b]
theorem jrT{s:jeM}(hs:jfl s=true){l r:T}(hl:AxT l)(hr:AxT r)(rest:Eqs):jiA s r l (rest.map Prod.swap)=(jiA s l r rest).map λq=>(q.1,q.2.map Prod.swap):=by
 have xl:=AxT.sub hs hl;have xr:=AxT.sub hs hr;unfold jiA;rw[jwa];by_cases h1:jeO (sub s l)=false\/jeO (sub s r)=false
 .rw [jc6 h1,jc6 h1.symm];rfl
 rw[ko h1,ko (λh=>h1 h.symm)];cases h2:dq (sub s l) (sub s r);rotate_left
 .rfl
 rw[ko Bool.false_ne_true,ko Bool.false_ne_true];by_cases h3:jcE (sub s l).name=true\/jcE (sub s r).name=true
 .rw [jc6 h3,jc6 h3.symm,jrq xl xr h2 h3];split<;>rfl
 rw[ko h3,ko (λh=>h3 h.symm)];by_cases h4:(sub s l).name=(sub s r).name/\(sub s l).args.length=(sub s r).args.length
 .rw [jc6 h4,jc6 ⟨h4.1.symm,h4.2.symm⟩,jpd];show _=some (s,List.map Prod.swap (_++_));rw[jB]
 .rw [ko h4,ko (λh=>h4 ⟨h.1.symm,h.2.symm⟩)];rfl
theorem jom:∀(k:Nat)(s:jeM)(es:Eqs),jjq s es->jhe k s (es.map Prod.swap)=jhe k s es
 |0,s,[],_=>rfl
 |0,s,p::es,_=>rfl
 |k+1,s,[],_=>rfl
 |k+1,s,(l,r)::rest,h=>by
  have hl:AxT l:=(h.2.2 (l,r) (by simp)).1.1;have hr:AxT r:=(h.2.2 (l,r) (by simp)).2.1;show jhe (k+1) s ((r,l)::rest.map Prod.swap)=_;rw[jhe,jhe];simp only;rw[jrT h.1 hl hr];cases hst:jiA s l r rest with
  |none=>rfl
  |some q=>exact jom k q.1 q.2 (jil h hst).1
theorem jrg{a b:T}(ha:Exx a)(hb:Exx b):jjV b a=jjV a b:=by
 obtain⟨k,hk⟩:=jjv ha hb;obtain⟨m,hm⟩:=jjv hb ha;have h:=jom m [] [(a,b)] (jre ha hb);have hm':jhe m [] [(a,b)]=some (jjV b a):=h.symm.trans hm;have h1:=jrf (Nat.le_max_left k m) hk;have h2:=jrf (Nat.le_max_right k m) hm';exact jbB (h2.symm.trans h1)
mutual
def jjl:T->List Xf
 |.mk _ us=>[]::jmn 0 us
def jmn(i:Nat):Xg->List Xf
 | []=>[]
 |t::ts=>(jjl t).map (i::·)++jmn (i+1) ts
end
theorem jsU(t:T):jjl t=[]::jmn 0 t.args:=by cases t;rfl
mutual
theorem jmo:∀t:T,(jjl t).length=nodes t
 |.mk n us=>by
  rw[jjl,nodes,zz,jqR us 0];omega
theorem jqR:∀(us:Xg)(i:Nat),(jmn i us).length=jct us
 | [],i=>rfl
 |t::ts,i=>by
  rw[jmn,jct,qg,jbD,jmo t,jqR ts (i+1)]
end
mutual
theorem jmp:∀(t:T),∀p∈jjl t,okP p t/\p.length<=nodes t
 |.mk n us=>λp hp=>by
  rw[jjl,zC]at hp;rcases hp with hp|hp
  .subst hp;exact⟨trivial,by simp⟩
  .obtain ⟨j,q,rfl,h1,h2,h3⟩:=jsT us 0 p hp;refine⟨?_,?_⟩
   .show (0+j)<us.length/\okP q (us.getD (0+j) _);rw[jbz];exact⟨h1,h2⟩
   .rw [zz,nodes];omega
theorem jsT:∀(us:Xg)(i:Nat),∀p∈jmn i us,∃j q,p=(i+j)::q/\j<us.length/\okP q (us.getD j (.mk [] []))/\q.length<=jct us
 | [],i,p,hp=>by rw[jmn]at hp;cases hp
 |t::ts,i,p,hp=>by
  rw[jmn,YW]at hp;rcases hp with hp|hp
  .obtain ⟨q,hq,rfl⟩:=j7.1 hp;obtain⟨h1,h2⟩:=jmp t q hq;exact⟨0,q,rfl,by simp,h1,by rw[jct];omega⟩
  .obtain ⟨j,q,rfl,h1,h2,h3⟩:=jsT ts (i+1) p hp;exact⟨j+1,q,by rw[show i+1+j=i+(j+1) by omega],by simpa using h1,by simpa using h2,by rw[jct];omega⟩
end
def ji6(p:UInt8)(t:T):T:=jik (jiq p (jiz [] t)) t
def RL(t:T):Prop:=t.name=[61]/\t.args.length=2/\okT (jhp t)=true/\okT (jii t)=true/\nodes t<=30
theorem jvD{t:T}(h:t.name=[61])(he:jkq t=true):RL t:=by
 obtain⟨h1,h2,h3,h4⟩:=juu he;unfold jkq at he;simp only[QR,YZ]at he;have hn:nodes t<=30:=by have h4:=h4;simp only[jeO,QR,YZ]at h4;exact h4.1
 exact⟨h,h1,he.2.2.1,he.2.2.2,hn⟩
theorem RL.two{t:T}(h:RL t):t.args=[jhp t,jii t]:=by
 obtain⟨n,us⟩:=t;have h2:us.length=2:=h.2.1
 match us,h2 with
 | [a,b],_=>rfl
theorem RL.nd{t:T}(h:RL t):nodes (jhp t)<=29/\nodes (jii t)<=29:=by
 have h1:=jeU t;rw[h.two]at h1;simp only[jct]at h1;have:=h.2.2.2.2;omega
theorem RL.rx{t:T}(h:RL t):AxT t:=Or.inr ⟨h.1,h.2.1,λu hu=>by
 rw[h.two]at hu;rcases zC.1 hu with rfl|hu
 .exact h.2.2.1
 .rw [j6.1 hu];exact h.2.2.2.1⟩
theorem jlc{t:T}(h:nodes t<=900):(jiz [] t).length<=1000:=by
 have:=jlr t [];rw[jhr]at this;omega
theorem jwY{f:Xb->Xb}{t:T}(h:t.name=[61]):jik f t = .mk [61] (t.args.map (jik f)):=by
 have hv:jcE t.name=false:=by rw[h];decide
 rw[jlu,hv,ko Bool.false_ne_true,h]
theorem jrQ{p:UInt8}(hp:upc p=true){t:T}(h:RL t):RL (ji6 p t):=by
 unfold ji6;have hl:=jlc (t:=t) (by have:=h.2.2.2.2;omega);generalize jiz [] t=l at hl;have hn:=jmL (jiq p l) t;have hf:∀n,jcE n=true->jcE (jiq p l n)=true:=λn hn=>joM hp hl hn;rw[jwY h.1,h.two]at hn⊢;exact⟨rfl,rfl,jpQ hf _ h.2.2.1,jpQ hf _ h.2.2.2.1,ZF hn h.2.2.2.2⟩
def jiV(s:jeM)(x y:T)(q:Xf):T:= .mk [61] [sub s (jhs (jii x) q (jhp y)),sub s (jii y)]
noncomputable def jio(x y:T)(q:Xf):Option T:=
 if jcE (atT q (jhp y)).name then none
 else match jjV (jhp x) (atT q (jhp y))with
  |none=>none
  |some s=>if !jeO (jiV s x y q) || dq (sub s (jhs (jii x) q (jhp y))) (sub s (jii y))then none else some (ji6 88 (jiV s x y q))
noncomputable def jl6(acc:Xg):Option T->Xg
 |none=>acc
 |some t=>if acc.any λu=>dq u t then acc else acc++[t]
noncomputable def jA2(x y:T):Xg:=(jjl (jhp y)).foldl (λacc q=>jl6 acc (jio x y q)) []
theorem jud{q:Xf}{t:T}(h:okP q t)(hk:okT t=true):okT (atT q t)=true:=jpL (q:=λt=>okT t=true) (λ_ h u hu=>jhU h u hu) h hk
theorem jl7:∀{q:Xf}{t:T},okP q t->nodes (atT q t)<=nodes t
 | [],_,_=>jl _
 |i::q,t,h=>by
  have:=jl7 h.2;have h1:=jeU t;rw[jiM h.1]at this;have h2:=jis (jdM h.1);show nodes (atT q (t.args.getD i (.mk [] [])))<=_;rw[jiM h.1];omega
theorem jmC{t:T}(h:okT t=true)(hn:nodes t<=31):Exx t:=⟨Or.inl h,hn⟩
theorem jmG{x y:T}(hx:RL x)(hy:RL y){q:Xf}(hq:okP q (jhp y)){s:jeM}(hs:jfl s=true) :
  okT (jhs (jii x) q (jhp y))=true/\nodes (jhs (jii x) q (jhp y))<=58/\okT (sub s (jhs (jii x) q (jhp y)))=true/\okT (sub s (jii y))=true/\nodes (jiV s x y q)<=2700:=by
 have h1:=js7 hx.2.2.2.1 hq hy.2.2.1;have h2:=jop (jii x) q (jhp y) hq;have nx:=hx.nd;have ny:=hy.nd;have h3:=jmM (u:=s) (Z:=30) (by decide) (jiW hs) (jhs (jii x) q (jhp y));have h4:=jmM (u:=s) (Z:=30) (by decide) (jiW hs) (jii y);refine⟨h1,by omega,jlh (jjc hs) _ h1,jlh (jjc hs) _ hy.2.2.2.1,?_⟩;simp only[jiV,nodes,jct];omega
abbrev ec(p:T×T):Xd:=[sv p.1.name,tms p.1.args,sv p.2.name,tms p.2.args]
theorem jlg{W:Eqs}{i:Nat}{p:T×T}(h:W[i]? = some p):jfU (W.map ec) i 0 2=some (tm p.1)/\jfU (W.map ec) i 2 2=some (tm p.2):=by
 unfold jfU;rw[KN,h];exact⟨rfl,rfl⟩
theorem jjb{W rest:Eqs}{p:T×T}{off:Nat}(h:W.drop off=p::rest):W[off]? = some p/\W.drop (off+1)=rest/\W.length=off+rest.length+1:=by
 have h1:=congrArg (λl=>l[0]?) h;simp only[jN,zH,List.getElem?_cons_zero]at h1;have h2:=congrArg (List.drop 1) h;rw[List.drop_drop]at h2;have h3:=congrArg List.length h;rw[List.length_drop,zz]at h3;exact⟨h1,h2,by omega⟩
theorem jmv{us vs:Xg}{i:Nat}(h1:i<us.length)(h2:i<vs.length):jgs (((us.zip vs).take i).map ec) [[sv us[i].name,tms us[i].args,sv vs[i].name,tms vs[i].args]]=((us.zip vs).take (i+1)).map ec:=by
 have hl:i<(us.zip vs).length:=by rw[List.length_zip];omega
 rw[List.take_add_one,jw hl,jB,List.getElem_zip];rfl
theorem jlk{W:Eqs}(off:Nat):jhW (W.map ec) off (W.length-off)=(W.drop off).map ec:=by
 rw[jsZ,<-List.map_drop,jQ (by rw[jbD,List.length_drop];omega)]
theorem jly{s:jeM}{l r:T}{rest:Eqs}(h1:jeO (sub s l)=true)(h2:jeO (sub s r)=true)(h3:dq (sub s l) (sub s r)=true):jiA s l r rest=some (s,rest):=by
 unfold jiA;rw[ko (by rw[h1,h2];simp),jc6 h3]
theorem jlw{s:jeM}{l r:T}{rest:Eqs}(h1:jeO (sub s l)=true)(h2:jeO (sub s r)=true)(h3:dq (sub s l) (sub s r)=false)(h4:jcE (sub s l).name=true\/jcE (sub s r).name=true):jiA s l r rest=if(!decide ((jeL (sub s l) (sub s r)).1∈jhn (jeL (sub s l) (sub s r)).2) && jfl [jeL (sub s l) (sub s r)]) && jfl (jhu s [jeL (sub s l) (sub s r)])then some (jhu s [jeL (sub s l) (sub s r)],rest)else none:=by
 unfold jiA;rw[ko (by rw[h1,h2];simp),ko (by rw[h3];simp),jc6 h4];generalize jeL (sub s l) (sub s r)=p;by_cases c1:p.1∈jhn p.2
 .rw [jc6 (Or.inl c1),decide_eq_true c1];rfl
 .rw [decide_eq_false c1];cases c2:jfl [p]
  .rw [jc6 (Or.inr (Or.inl rfl))];rfl
  .cases c3:jfl (jhu s [p])
   .rw [jc6 (Or.inr (Or.inr rfl))];rfl
   .rw [ko (by simp[c1])];rfl
theorem jlx{s:jeM}{l r:T}{rest:Eqs}(h1:jeO (sub s l)=true)(h2:jeO (sub s r)=true)(h3:dq (sub s l) (sub s r)=false)(h4:jcE (sub s l).name=false)(h5:jcE (sub s r).name=false):jiA s l r rest=if(sub s l).name=(sub s r).name/\(sub s l).args.length=(sub s r).args.length then some (s,(sub s l).args.zip (sub s r).args++rest)else none:=by
 unfold jiA;rw[ko (by rw[h1,h2];simp),ko (by rw[h3];simp),ko (by rw[h4,h5];simp)]
theorem jgD{k:Nat}{s:jeM}{l r:T}{rest:Eqs}{res:Option jeM}(hst:jiA s l r rest=none)(h:jhe (k+1) s ((l,r)::rest)=some res):res=none:=by
 rw[jhe,hst]at h;exact(jbB h).symm
theorem jij{k:Nat}{s:jeM}{l r:T}{rest:Eqs}{res:Option jeM}{q:jeM×Eqs}(hst:jiA s l r rest=some q)(h:jhe (k+1) s ((l,r)::rest)=some res):jhe k q.1 q.2=some res:=by
 rw[jhe,hst]at h;exact h
theorem jkO{s:jeM}{l r:T}{rest:Eqs}(h:jjq s ((l,r)::rest)):AxT l/\AxT r/\nodes l<=31/\nodes r<=31:=by
 obtain⟨h1,h2⟩:=h.2.2 (l,r) (by simp);exact⟨h1.1,h2.1,h1.2,h2.2⟩
theorem jyp(s:jeM)(W:Eqs)(off:Nat)(hW:W.length<=1000)(x y:T)(hl:x.args.length=y.args.length)(h4:x.args.length<=4) :
  jsh (nA off) (nA (W.length-off)) (tms x.args) (vi (x.args.length:Nat)) (vi 0) (sbs s) (sv y.name) (tms y.args) (W.map ec) [] []=joJ (sbs s) ((x.args.zip y.args++W.drop off).map ec) []:=by
 have h1:nOf (nA off)=off:=rfl;have h2:nOf (nA (W.length-off))=W.length-off:=rfl;have hend:jbb (((x.args.zip y.args).map ec).length+((W.drop off).map ec).length) 80=true:=by
  rw[jbD,jbD,List.length_zip,List.length_drop];exact jm5 (by omega)
 have hzl:((x.args.zip y.args).map ec).length=x.args.length:=by rw[jbD,List.length_zip];omega
 have happ:jgs ((x.args.zip y.args).map ec) ((W.drop off).map ec)=(x.args.zip y.args++W.drop off).map ec:=by rw[jB];rfl
 have step:∀i,(hi:i<x.args.length)->(hi2:i<y.args.length)->jgs (((x.args.zip y.args).take i).map ec) [[sv x.args[i].name,tms x.args[i].args,sv y.args[i].name,tms y.args[i].args]]=((x.args.zip y.args).take (i+1)).map ec:=λi hi hi2=>jmv hi hi2;have key:=upto (P:=λi=>jt9 (nA off) (nA (W.length-off)) (tms x.args) (vi (x.args.length:Nat)) (vi (i:Nat)) (sbs s) (sv y.name) (tms y.args) (W.map ec) (((x.args.zip y.args).take i).map ec) []=joJ (sbs s) ((x.args.zip y.args++W.drop off).map ec) []) (n:=x.args.length) ?_ ?_
 .have hend2:(x.args.zip y.args).take x.args.length=x.args.zip y.args:=jQ (by rw[List.length_zip];omega)
  rw[jzG];by_cases h0:0<x.args.length
  .have hi:=h0;have hi2:0<y.args.length:=by omega
   have hlt:(0:Int)<((x.args.length:Nat):Int):=by omega
   have ix:=jay (k:=2) (f:=jbL) hi;have ix2:=jay (k:=2) (f:=jbL) hi2;have ta:=step 0 hi hi2;simp only[List.take_zero,List.map_nil,Int.natCast_zero,jbz]at ta ix ix2;have hf:jbb 1 80=true:=jm5 (by omega);have hck:ck (0+1)=some (vi ((1:Nat):Int)):=jht (n:=0+1) (by omega) (by omega);have key:=key 1 (by omega);rw[<-key];simp only[evz,hlt,ix,ix2,jbK,hf,ta,hck,h1,h2]
  .have hlt:¬(0:Int)<((x.args.length:Nat):Int):=by omega
   have he:x.args=[]:=YV (by omega);have hz:x.args.zip y.args=[]:=by rw[he];rfl
   rw[hz]at hend happ⊢;have hend:jbb ((W.drop off).map ec).length 80=true:=by simpa using hend
   have happ:jgs [] ((W.drop off).map ec)=(W.drop off).map ec:=rfl;simp only[evz,hlt,h1,h2,jlk,jY];rw[jbD]at hend;simp only[evz,hend,happ]
 .have hend2:(x.args.zip y.args).take x.args.length=x.args.zip y.args:=jQ (by rw[List.length_zip];omega)
  rw[hend2,jxA];have hlt:¬((x.args.length:Nat):Int)<((x.args.length:Nat):Int):=by omega
  rw[hzl,jbD]at hend;simp only[evz,hlt,h1,h2,jlk,happ];rw[List.length_zip,Nat.min_eq_left (by omega)];simp only[evz,hend]
 .intro i hi ih;have hi2:i<y.args.length:=by omega
  have hlt:((i:Nat):Int)<((x.args.length:Nat):Int):=by omega
  have ta:=step i hi hi2;have li:(((x.args.zip y.args).take i).map ec).length=i:=take_len (by rw[List.length_zip];omega);have hf:jbb (i+1) 80=true:=jm5 (by omega);have hck:ck ((i:Int)+1)=some (vi ((i+1:Nat):Int)):=jht (by omega) (by omega);generalize ((x.args.zip y.args).take i).map ec=R at *;rw[jxA,<-ih];simp only[evz,hlt,jay hi,jay hi2,jbK,li,hf,ta,hck,h1,h2]
theorem jyo(W:Eqs)(off:Nat)(hW:W.length<=1000)(x y:T)(hl:x.args.length=y.args.length)(h4:x.args.length<=4) :
  jsg (nA off) (nA (W.length-off)) (tms x.args) (vi (x.args.length:Nat)) (vi 0) (sv y.name) (tms y.args) (W.map ec) [] [] []=jnC ((x.args.zip y.args++W.drop off).map ec) [] []:=by
 have h1:nOf (nA off)=off:=rfl;have h2:nOf (nA (W.length-off))=W.length-off:=rfl;have hend:jbb (((x.args.zip y.args).map ec).length+((W.drop off).map ec).length) 80=true:=by
  rw[jbD,jbD,List.length_zip,List.length_drop];exact jm5 (by omega)
 have hzl:((x.args.zip y.args).map ec).length=x.args.length:=by rw[jbD,List.length_zip];omega
 have happ:jgs ((x.args.zip y.args).map ec) ((W.drop off).map ec)=(x.args.zip y.args++W.drop off).map ec:=by rw[jB];rfl
 have step:∀i,(hi:i<x.args.length)->(hi2:i<y.args.length)->jgs (((x.args.zip y.args).take i).map ec) [[sv x.args[i].name,tms x.args[i].args,sv y.args[i].name,tms y.args[i].args]]=((x.args.zip y.args).take (i+1)).map ec:=λi hi hi2=>jmv hi hi2;have key:=upto (P:=λi=>jt8 (nA off) (nA (W.length-off)) (tms x.args) (vi (x.args.length:Nat)) (vi (i:Nat)) (sv y.name) (tms y.args) (W.map ec) (((x.args.zip y.args).take i).map ec) [] []=jnC ((x.args.zip y.args++W.drop off).map ec) [] []) (n:=x.args.length) ?_ ?_
 .have hend2:(x.args.zip y.args).take x.args.length=x.args.zip y.args:=jQ (by rw[List.length_zip];omega)
  rw[jzF];by_cases h0:0<x.args.length
  .have hi:=h0;have hi2:0<y.args.length:=by omega
   have hlt:(0:Int)<((x.args.length:Nat):Int):=by omega
   have ix:=jay (k:=2) (f:=jbL) hi;have ix2:=jay (k:=2) (f:=jbL) hi2;have ta:=step 0 hi hi2;simp only[List.take_zero,List.map_nil,Int.natCast_zero,jbz]at ta ix ix2;have hf:jbb 1 80=true:=jm5 (by omega);have hck:ck (0+1)=some (vi ((1:Nat):Int)):=jht (n:=0+1) (by omega) (by omega);have key:=key 1 (by omega);rw[<-key];simp only[evz,hlt,ix,ix2,jbK,hf,ta,hck,h1,h2]
  .have hlt:¬(0:Int)<((x.args.length:Nat):Int):=by omega
   have he:x.args=[]:=YV (by omega);have hz:x.args.zip y.args=[]:=by rw[he];rfl
   rw[hz]at hend happ⊢;have hend:jbb ((W.drop off).map ec).length 80=true:=by simpa using hend
   have happ:jgs [] ((W.drop off).map ec)=(W.drop off).map ec:=rfl;simp only[evz,hlt,h1,h2,jlk,jY];rw[jbD]at hend;simp only[evz,hend,happ]
 .have hend2:(x.args.zip y.args).take x.args.length=x.args.zip y.args:=jQ (by rw[List.length_zip];omega)
  rw[hend2,jxz];have hlt:¬((x.args.length:Nat):Int)<((x.args.length:Nat):Int):=by omega
  rw[hzl,jbD]at hend;simp only[evz,hlt,h1,h2,jlk,happ];rw[List.length_zip,Nat.min_eq_left (by omega)];simp only[evz,hend]
 .intro i hi ih;have hi2:i<y.args.length:=by omega
  have hlt:((i:Nat):Int)<((x.args.length:Nat):Int):=by omega
  have ta:=step i hi hi2;have li:(((x.args.zip y.args).take i).map ec).length=i:=take_len (by rw[List.length_zip];omega);have hf:jbb (i+1) 80=true:=jm5 (by omega);have hck:ck ((i:Int)+1)=some (vi ((i+1:Nat):Int)):=jht (by omega) (by omega);generalize ((x.args.zip y.args).take i).map ec=R at *;rw[jxz,<-ih];simp only[evz,hlt,jay hi,jay hi2,jbK,li,hf,ta,hck,h1,h2]
def US(s:jeM)(es:Eqs)(o:Xe):Prop:=
 (∀(W:Eqs)(off:Nat),W.drop off=es->off<=W.length->W.length<=1000->jl4 (nA off) (nA (W.length-off)) (sbs s) (W.map ec) []=o)/\joJ (sbs s) (es.map ec) []=o/\
 (s=[]->(∀(W:Eqs)(off:Nat),W.drop off=es->off<=W.length->W.length<=1000->jp5 (nA off) (nA (W.length-off)) (W.map ec) [] []=o)/\jnC (es.map ec) [] []=o)
theorem un2(k:Nat)(ih:∀(s:jeM)(es:Eqs)(res:Option jeM),jjq s es->Hgt s 126 es->jhe k s es=some res->US s es (jiB res))(s:jeM)(l r:T)(rest:Eqs)(hi:jjq s ((l,r)::rest))(hg:Hgt s 126 ((l,r)::rest))(res:Option jeM)(hu:jhe (k+1) s ((l,r)::rest)=some res)(W:Eqs)(off:Nat)(hW:W.drop off=(l,r)::rest)(hlen:W.length<=1000):jl4 (nA off) (nA (W.length-off)) (sbs s) (W.map ec) []=jiB res:=by
 obtain⟨d1,d2,d3⟩:=jjb hW;obtain⟨r1,r2⟩:=jlg d1;obtain⟨al,ar,nl,nr⟩:=jkO hi;have hv:=hi.1;have e1:=jj3 s hv l al (by omega);have e2:=jj3 s hv r ar (by omega);have w1:nOf (nA off)=off:=rfl;have w2:nOf (nA (W.length-off))=W.length-off:=rfl;have g1:jgm .gtr false (nA (W.length-off)) (vi 0)=some (vb true):=by
  show some (vb (decide ((0:Int)<((W.length-off:Nat):Int))))=_;rw[decide_eq_true (by omega)]
 have g2:pIx (W.length-off) (vi 0)=some 0:=jit (i:=0) (by omega);have g3:pB (W.length-off) (jg7 (W.map ec) off) none=some (W.length-off):=by
  rw[show jg7 (W.map ec) off=W.length-off by rw[jjJ,jbD]];exact jiC (jl _)
 have g4:pB 0 (W.length-off) (some (vi 1))=some 1:=jld (n:=1) (by omega);have hn:jhR (W.length-off) 1=W.length-(off+1):=by unfold jhR;omega
 rw[juY];cases sl:jeO (sub s l)<;>rw[sl]at e1
 .have e1:G 77 [sb s,tm l]=some (.tup [.agg [sv [],.sl 2 []],vb false],[]):=e1;have hr:res=none:=jgD (by unfold jiA;rw[jc6 (Or.inl sl)]) hu;subst hr;obtain⟨q,e2⟩:∃q:T×Bool,G 77 [sb s,tm r]=some (.tup [tm q.1,vb q.2],[]):=by
   cases h:jeO (sub s r)<;>rw[h]at e2
   .exact ⟨(.mk [] [],false),e2⟩
   .exact ⟨(sub s r,true),e2⟩
  simp only[evz,w1,w2,g1,g2,g3,g4,zH,r1,r2,e1,e2];rfl
 have e1:G 77 [sb s,tm l]=some (.tup [tm (sub s l),vb true],[]):=e1;cases sr:jeO (sub s r)<;>rw[sr]at e2
 .have e2:G 77 [sb s,tm r]=some (.tup [.agg [sv [],.sl 2 []],vb false],[]):=e2;have hr:res=none:=jgD (by unfold jiA;rw[jc6 (Or.inr sr)]) hu;subst hr;simp only[evz,w1,w2,g1,g2,g3,g4,zH,r1,r2,e1,e2];rfl
 have e2:G 77 [sb s,tm r]=some (.tup [tm (sub s r),vb true],[]):=e2;have xl:AxT (sub s l):=AxT.sub hv al;have xr:AxT (sub s r):=AxT.sub hv ar;have ml:=jif sl;have mr:=jif sr;have tl:=xl.tz (by omega);have tr:=xr.tz (by omega);have e3:=jin (sub s l) tl.wf (sub s r) tr.wf;have ll:=(jfK hv).1;cases hd:dq (sub s l) (sub s r)<;>rw[hd]at e3
 rotate_left
 .have hst:=jly (rest:=rest) sl sr hd;have hnext:=ih _ _ res (jil hi hst).1 (jiJ hi hg hst) (jij hst hu);have hnext:=hnext.1 W (off+1) d2 (by omega) hlen;simp only[evz,w1,w2,g1,g2,g3,g4,zH,r1,r2,e1,e2,e3,hn];exact hnext
 have v1:=ji9 (sub s l) (xl.imp id λh=>h.1);have v2:=ji9 (sub s r) (xr.imp id λh=>h.1);have bindC:jcE (sub s l).name=true\/jcE (sub s r).name=true->(∃q:Bool,G 78 [.agg [sv (sub s l).name,tms (sub s l).args,sv (sub s r).name,tms (sub s r).args]]=some (.tup [sb [jeL (sub s l) (sub s r)],vb q],[])/\(q=false->jiB res=jiB none)/\(q=true-> ∃q2:Bool,∃u:jeM,G 79 [sb s,sb [jeL (sub s l) (sub s r)]]=some (.tup [sb u,vb q2],[])/\(q2=false->jiB res=jiB none)/\(q2=true->jl4 (nA (off+1)) (nA (W.length-(off+1))) (sbs u) (W.map ec) []=jiB res))):=by
  intro hvar;have hst:=jlw (rest:=rest) sl sr hd hvar;refine⟨_,jl8 _ _ xl xr (by omega) (by omega) hvar,λhq=>?_,λhq=>?_⟩
  .rw [hq,Bool.false_and,ko Bool.false_ne_true]at hst;rw[jgD hst hu]
  .rw [hq,Bool.true_and]at hst;have hvp:jfl [jeL (sub s l) (sub s r)]=true:=by
    rw[QR]at hq;exact hq.2
   have ec1:=jmP s [jeL (sub s l) (sub s r)] hv hvp;cases hc:jfl (jhu s [jeL (sub s l) (sub s r)])
   .rw [hc,ko Bool.false_ne_true]at hst ec1;exact⟨false,[],ec1,λ_=>by rw[jgD hst hu],λh=>by cases h⟩
   .rw [hc,jc6 rfl]at hst ec1;refine⟨true,_,ec1,(λh=>by cases h),λ_=>?_⟩;have hnext:=ih _ _ res (jil hi hst).1 (jiJ hi hg hst) (jij hst hu);exact hnext.1 W (off+1) d2 (by omega) hlen
 have close:jcE (sub s l).name=true\/jcE (sub s r).name=true->_:=bindC;clear bindC;cases vl:jcE (sub s l).name<;>rw[vl]at v1
 rotate_left
 .obtain ⟨q,b1,b2,b3⟩:=close (Or.inl vl);cases q
  .rw [b2 rfl];simp only[evz,w1,w2,g1,g2,g3,g4,zH,r1,r2,e1,e2,e3,v1,v2,b1];rfl
  .obtain ⟨q2,u,b4,b5,b6⟩:=b3 rfl;cases q2
   .rw [b5 rfl];simp only[evz,w1,w2,g1,g2,g3,g4,zH,r1,r2,e1,e2,e3,v1,v2,b1,b4];rfl
   .rw [<-b6 rfl];simp only[evz,w1,w2,g1,g2,g3,g4,zH,r1,r2,e1,e2,e3,v1,v2,b1,b4,hn]
 cases vr:jcE (sub s r).name<;>rw[vr]at v2
 rotate_left
 .obtain ⟨q,b1,b2,b3⟩:=close (Or.inr vr);cases q
  .rw [b2 rfl];simp only[evz,w1,w2,g1,g2,g3,g4,zH,r1,r2,e1,e2,e3,v1,v2,b1];rfl
  .obtain ⟨q2,u,b4,b5,b6⟩:=b3 rfl;cases q2
   .rw [b5 rfl];simp only[evz,w1,w2,g1,g2,g3,g4,zH,r1,r2,e1,e2,e3,v1,v2,b1,b4];rfl
   .rw [<-b6 rfl];simp only[evz,w1,w2,g1,g2,g3,g4,zH,r1,r2,e1,e2,e3,v1,v2,b1,b4,hn]
 have hst:=jlx (rest:=rest) sl sr hd vl vr;by_cases hnm:(sub s l).name=(sub s r).name;rotate_left
 .rw [ko (λh=>hnm h.1)]at hst;have hnd:=decide_eq_false hnm;rw[jgD hst hu];simp only[evz,w1,w2,g1,g2,g3,g4,zH,r1,r2,e1,e2,e3,v1,v2,hnd];rfl
 have hnd:=decide_eq_true hnm;by_cases hal:(sub s l).args.length=(sub s r).args.length;rotate_left
 .rw [ko (λh=>hal h.2)]at hst;have hal':decide ((((sub s l).args.length:Nat):Int)=(((sub s r).args.length:Nat):Int))=false:=decide_eq_false (by omega);rw[jgD hst hu];simp only[evz,w1,w2,g1,g2,g3,g4,zH,r1,r2,e1,e2,e3,v1,v2,hnd,hal'];rfl
 rw[jc6 ⟨hnm,hal⟩]at hst;have hnext:=ih _ _ res (jil hi hst).1 (jiJ hi hg hst) (jij hst hu);have hnext:=hnext.2.1;have hin:=jyp s W (off+1) hlen (sub s l) (sub s r) hal (jmi xl);rw[d2]at hin;rw[hnext]at hin;have hal':decide ((((sub s l).args.length:Nat):Int)=(((sub s r).args.length:Nat):Int))=true:=decide_eq_true (by omega);simp only[evz,w1,w2,g1,g2,g3,g4,zH,r1,r2,e1,e2,e3,v1,v2,hnd,hal',hn];exact hin
theorem un8(k:Nat)(ih:∀(s:jeM)(es:Eqs)(res:Option jeM),jjq s es->Hgt s 126 es->jhe k s es=some res->US s es (jiB res))(s:jeM)(l r:T)(rest:Eqs)(hi:jjq s ((l,r)::rest))(hg:Hgt s 126 ((l,r)::rest))(res:Option jeM)(hu:jhe (k+1) s ((l,r)::rest)=some res)(W:Eqs)(hW:W=(l,r)::rest)(hlen:W.length<=1000):joJ (sbs s) (W.map ec) []=jiB res:=by
 have hW0:W.drop 0=(l,r)::rest:=hW;rw[<-un2 k ih s l r rest hi hg res hu W 0 hW0 hlen];obtain⟨d1,d2,d3⟩:=jjb hW0;obtain⟨r1,r2⟩:=jlg d1;have w1:nOf (nA 0)=0:=rfl;have w2:nOf (nA W.length)=W.length:=rfl;have f1:jgm .gtr false (nA W.length) (vi 0)=some (vb true):=by
  show some (vb (decide ((0:Int)<((W.length:Nat):Int))))=_;rw[decide_eq_true (by omega)]
 have f3:pB W.length (jg7 (W.map ec) 0) none=some W.length:=by
  rw[show jg7 (W.map ec) 0=W.length by rw[jjJ,jbD];rfl];exact jiC (jl _)
 have g2:pIx W.length (vi 0)=some 0:=jit (i:=0) (by omega);have g3:pB (jds (W.map ec)) (jg7 (W.map ec) 0) none=some W.length:=by
  rw[jjL,f3]
 have g4:pB 0 W.length (some (vi 1))=some 1:=jld (n:=1) (by omega);have g0:(0:Int)<((W.length:Nat):Int):=by omega
 rw[jxB,juY,Nat.sub_zero];simp only[evz,w1,w2,f1,f3,g0,g2,g3,g4,r1,r2]
theorem un1(k:Nat)(ih:∀(s:jeM)(es:Eqs)(res:Option jeM),jjq s es->Hgt s 126 es->jhe k s es=some res->US s es (jiB res))(l r:T)(rest:Eqs)(hi:jjq [] ((l,r)::rest))(hg:Hgt [] 126 ((l,r)::rest))(res:Option jeM)(hu:jhe (k+1) [] ((l,r)::rest)=some res)(W:Eqs)(off:Nat)(hW:W.drop off=(l,r)::rest)(hlen:W.length<=1000):jp5 (nA off) (nA (W.length-off)) (W.map ec) [] []=jiB res:=by
 obtain⟨d1,d2,d3⟩:=jjb hW;obtain⟨r1,r2⟩:=jlg d1;obtain⟨al,ar,nl,nr⟩:=jkO hi;have hv:=hi.1;have e1:=jj3 [] hv l al (by omega);have e2:=jj3 [] hv r ar (by omega);have w1:nOf (nA off)=off:=rfl;have w2:nOf (nA (W.length-off))=W.length-off:=rfl;have g1:jgm .gtr false (nA (W.length-off)) (vi 0)=some (vb true):=by
  show some (vb (decide ((0:Int)<((W.length-off:Nat):Int))))=_;rw[decide_eq_true (by omega)]
 have g2:pIx (W.length-off) (vi 0)=some 0:=jit (i:=0) (by omega);have g3:pB (W.length-off) (jg7 (W.map ec) off) none=some (W.length-off):=by
  rw[show jg7 (W.map ec) off=W.length-off by rw[jjJ,jbD]];exact jiC (jl _)
 have g4:pB 0 (W.length-off) (some (vi 1))=some 1:=jld (n:=1) (by omega);have hn:jhR (W.length-off) 1=W.length-(off+1):=by unfold jhR;omega
 rw[juX];cases sl:jeO (sub [] l)<;>rw[sl]at e1
 .have e1:G 77 [.agg [.sl 3 []],tm l]=some (.tup [.agg [sv [],.sl 2 []],vb false],[]):=e1;have hr:res=none:=jgD (by unfold jiA;rw[jc6 (Or.inl sl)]) hu;subst hr;obtain⟨q,e2⟩:∃q:T×Bool,G 77 [.agg [.sl 3 []],tm r]=some (.tup [tm q.1,vb q.2],[]):=by
   cases h:jeO (sub [] r)<;>rw[h]at e2
   .exact ⟨(.mk [] [],false),e2⟩
   .exact ⟨(sub [] r,true),e2⟩
  simp only[evz,w1,w2,g1,g2,g3,g4,zH,r1,r2,e1,e2];rfl
 have e1:G 77 [.agg [.sl 3 []],tm l]=some (.tup [tm (sub [] l),vb true],[]):=e1;cases sr:jeO (sub [] r)<;>rw[sr]at e2
 .have e2:G 77 [.agg [.sl 3 []],tm r]=some (.tup [.agg [sv [],.sl 2 []],vb false],[]):=e2;have hr:res=none:=jgD (by unfold jiA;rw[jc6 (Or.inr sr)]) hu;subst hr;simp only[evz,w1,w2,g1,g2,g3,g4,zH,r1,r2,e1,e2];rfl
 have e2:G 77 [.agg [.sl 3 []],tm r]=some (.tup [tm (sub [] r),vb true],[]):=e2;have xl:AxT (sub [] l):=AxT.sub hv al;have xr:AxT (sub [] r):=AxT.sub hv ar;have ml:=jif sl;have mr:=jif sr;have tl:=xl.tz (by omega);have tr:=xr.tz (by omega);have e3:=jin (sub [] l) tl.wf (sub [] r) tr.wf;have ll:=(jfK hv).1;cases hd:dq (sub [] l) (sub [] r)<;>rw[hd]at e3
 rotate_left
 .have hst:=jly (rest:=rest) sl sr hd;have hnext:=ih _ _ res (jil hi hst).1 (jiJ hi hg hst) (jij hst hu);have hnext:=(hnext.2.2 rfl).1 W (off+1) d2 (by omega) hlen;simp only[evz,w1,w2,g1,g2,g3,g4,zH,r1,r2,e1,e2,e3,hn];exact hnext
 have v1:=ji9 (sub [] l) (xl.imp id λh=>h.1);have v2:=ji9 (sub [] r) (xr.imp id λh=>h.1);have bindC:jcE (sub [] l).name=true\/jcE (sub [] r).name=true->(∃q:Bool,G 78 [.agg [sv (sub [] l).name,tms (sub [] l).args,sv (sub [] r).name,tms (sub [] r).args]]=some (.tup [sb [jeL (sub [] l) (sub [] r)],vb q],[])/\(q=false->jiB res=jiB none)/\(q=true-> ∃q2:Bool,∃u:jeM,G 79 [.agg [.sl 3 []],sb [jeL (sub [] l) (sub [] r)]]=some (.tup [sb u,vb q2],[])/\(q2=false->jiB res=jiB none)/\(q2=true->jl4 (nA (off+1)) (nA (W.length-(off+1))) (sbs u) (W.map ec) []=jiB res))):=by
  intro hvar;have hst:=jlw (rest:=rest) sl sr hd hvar;refine⟨_,jl8 _ _ xl xr (by omega) (by omega) hvar,λhq=>?_,λhq=>?_⟩
  .rw [hq,Bool.false_and,ko Bool.false_ne_true]at hst;rw[jgD hst hu]
  .rw [hq,Bool.true_and]at hst;have hvp:jfl [jeL (sub [] l) (sub [] r)]=true:=by
    rw[QR]at hq;exact hq.2
   have ec1:=jmP [] [jeL (sub [] l) (sub [] r)] hv hvp;cases hc:jfl (jhu [] [jeL (sub [] l) (sub [] r)])
   .rw [hc,ko Bool.false_ne_true]at hst ec1;exact⟨false,[],ec1,λ_=>by rw[jgD hst hu],λh=>by cases h⟩
   .rw [hc,jc6 rfl]at hst ec1;refine⟨true,_,ec1,(λh=>by cases h),λ_=>?_⟩;have hnext:=ih _ _ res (jil hi hst).1 (jiJ hi hg hst) (jij hst hu);exact hnext.1 W (off+1) d2 (by omega) hlen
 have close:jcE (sub [] l).name=true\/jcE (sub [] r).name=true->_:=bindC;clear bindC;cases vl:jcE (sub [] l).name<;>rw[vl]at v1
 rotate_left
 .obtain ⟨q,b1,b2,b3⟩:=close (Or.inl vl);cases q
  .rw [b2 rfl];simp only[evz,w1,w2,g1,g2,g3,g4,zH,r1,r2,e1,e2,e3,v1,v2,b1];rfl
  .obtain ⟨q2,u,b4,b5,b6⟩:=b3 rfl;cases q2
   .rw [b5 rfl];simp only[evz,w1,w2,g1,g2,g3,g4,zH,r1,r2,e1,e2,e3,v1,v2,b1,b4];rfl
   .rw [<-b6 rfl];simp only[evz,w1,w2,g1,g2,g3,g4,zH,r1,r2,e1,e2,e3,v1,v2,b1,b4,hn]
 cases vr:jcE (sub [] r).name<;>rw[vr]at v2
 rotate_left
 .obtain ⟨q,b1,b2,b3⟩:=close (Or.inr vr);cases q
  .rw [b2 rfl];simp only[evz,w1,w2,g1,g2,g3,g4,zH,r1,r2,e1,e2,e3,v1,v2,b1];rfl
  .obtain ⟨q2,u,b4,b5,b6⟩:=b3 rfl;cases q2
   .rw [b5 rfl];simp only[evz,w1,w2,g1,g2,g3,g4,zH,r1,r2,e1,e2,e3,v1,v2,b1,b4];rfl
   .rw [<-b6 rfl];simp only[evz,w1,w2,g1,g2,g3,g4,zH,r1,r2,e1,e2,e3,v1,v2,b1,b4,hn]
 have hst:=jlx (rest:=rest) sl sr hd vl vr;by_cases hnm:(sub [] l).name=(sub [] r).name;rotate_left
 .rw [ko (λh=>hnm h.1)]at hst;have hnd:=decide_eq_false hnm;rw[jgD hst hu];simp only[evz,w1,w2,g1,g2,g3,g4,zH,r1,r2,e1,e2,e3,v1,v2,hnd];rfl
 have hnd:=decide_eq_true hnm;by_cases hal:(sub [] l).args.length=(sub [] r).args.length;rotate_left
 .rw [ko (λh=>hal h.2)]at hst;have hal':decide ((((sub [] l).args.length:Nat):Int)=(((sub [] r).args.length:Nat):Int))=false:=decide_eq_false (by omega);rw[jgD hst hu];simp only[evz,w1,w2,g1,g2,g3,g4,zH,r1,r2,e1,e2,e3,v1,v2,hnd,hal'];rfl
 rw[jc6 ⟨hnm,hal⟩]at hst;have hnext:=ih _ _ res (jil hi hst).1 (jiJ hi hg hst) (jij hst hu);have hnext:=(hnext.2.2 rfl).2;have hin:=jyo W (off+1) hlen (sub [] l) (sub [] r) hal (jmi xl);rw[d2]at hin;rw[hnext]at hin;have hal':decide ((((sub [] l).args.length:Nat):Int)=(((sub [] r).args.length:Nat):Int))=true:=decide_eq_true (by omega);simp only[evz,w1,w2,g1,g2,g3,g4,zH,r1,r2,e1,e2,e3,v1,v2,hnd,hal',hn];exact hin
theorem un6(k:Nat)(ih:∀(s:jeM)(es:Eqs)(res:Option jeM),jjq s es->Hgt s 126 es->jhe k s es=some res->US s es (jiB res))(l r:T)(rest:Eqs)(hi:jjq [] ((l,r)::rest))(hg:Hgt [] 126 ((l,r)::rest))(res:Option jeM)(hu:jhe (k+1) [] ((l,r)::rest)=some res)(W:Eqs)(hW:W=(l,r)::rest)(hlen:W.length<=1000):jnC (W.map ec) [] []=jiB res:=by
 have hW0:W.drop 0=(l,r)::rest:=hW;rw[<-un1 k ih l r rest hi hg res hu W 0 hW0 hlen];obtain⟨d1,d2,d3⟩:=jjb hW0;obtain⟨r1,r2⟩:=jlg d1;have w1:nOf (nA 0)=0:=rfl;have w2:nOf (nA W.length)=W.length:=rfl;have f1:jgm .gtr false (nA W.length) (vi 0)=some (vb true):=by
  show some (vb (decide ((0:Int)<((W.length:Nat):Int))))=_;rw[decide_eq_true (by omega)]
 have f3:pB W.length (jg7 (W.map ec) 0) none=some W.length:=by
  rw[show jg7 (W.map ec) 0=W.length by rw[jjJ,jbD];rfl];exact jiC (jl _)
 have g2:pIx W.length (vi 0)=some 0:=jit (i:=0) (by omega);have g3:pB (jds (W.map ec)) (jg7 (W.map ec) 0) none=some W.length:=by
  rw[jjL,f3]
 have g4:pB 0 W.length (some (vi 1))=some 1:=jld (n:=1) (by omega);have g0:(0:Int)<((W.length:Nat):Int):=by omega
 rw[juZ,juX,Nat.sub_zero];simp only[evz,w1,w2,f1,f3,g0,g2,g3,g4,r1,r2]
theorem jx1(s:jeM):US s [] (jiB (some s)):=by
 refine⟨λW off hW h1 h2=>?_,?_,λhs=>?_⟩
 .have h3:=congrArg List.length hW;rw[List.length_drop,jhr]at h3;have w2:nOf (nA (W.length-off))=W.length-off:=rfl;have g1:jgm .gtr false (nA (W.length-off)) (vi 0)=some (vb false):=by
   show some (vb (decide ((0:Int)<((W.length-off:Nat):Int))))=_;rw[decide_eq_false (by omega)]
  rw[juY];simp only[evz,w2,g1];rfl
 .rw [jxB];have g1:jgm .gtr false (jdt (List.map ec [])) (vi 0)=some (vb false):=rfl;simp only[evz];rfl
 .subst hs;refine⟨λW off hW h1 h2=>?_,?_⟩
  .have h3:=congrArg List.length hW;rw[List.length_drop,jhr]at h3;have w2:nOf (nA (W.length-off))=W.length-off:=rfl;have g1:jgm .gtr false (nA (W.length-off)) (vi 0)=some (vb false):=by
    show some (vb (decide ((0:Int)<((W.length-off:Nat):Int))))=_;rw[decide_eq_false (by omega)]
   rw[juX];simp only[evz,w2,g1];rfl
  .rw [juZ];have g1:jgm .gtr false (jdt (List.map ec [])) (vi 0)=some (vb false):=rfl;simp only[evz];rfl
theorem jzW:∀(k:Nat)(s:jeM)(es:Eqs)(res:Option jeM),jjq s es->Hgt s 126 es->jhe k s es=some res->US s es (jiB res):=by
 intro k;induction k with
 |zero=>
  intro s es res hi hg hu;cases es with
  |nil=>simp only[jhe,jv]at hu;rw[<-hu];exact jx1 s
  |cons p es=>simp[jhe]at hu
 |succ k ih=>
  intro s es res hi hg hu;cases es with
  |nil=>simp only[jhe,jv]at hu;rw[<-hu];exact jx1 s
  |cons p rest=>
   obtain⟨l,r⟩:=p;have hl:=hg.len;refine⟨λW off hW _ hlen=>un2 k ih s l r rest hi hg res hu W off hW hlen,un8 k ih s l r rest hi hg res hu _ rfl (by omega),λhs=>?_⟩;subst hs;exact⟨λW off hW _ hlen=>un1 k ih l r rest hi hg res hu W off hW hlen,un6 k ih l r rest hi hg res hu _ rfl (by omega)⟩
theorem jA8(W:Eqs):jt7 (W.map ec) [] []=jnC (W.map ec) [] []:=by
 rw[jzE,juZ]
theorem jvR(a b:T)(ha:Exx a)(hb:Exx b):G 49 [tm a,tm b]=jiB (jjV a b):=by
 obtain⟨k,hk⟩:=jjv ha hb;have h:=((jzW k [] [(a,b)] _ (jre ha hb) (jzz a b) hk).2.2 rfl).2;rw[<-jA8]at h;rw[g49];simp only[evz];exact h
theorem jwz(s:jeM)(W:Eqs)(off:Nat)(hW:W.length<=1000)(x y:T)(hl:x.args.length=y.args.length)(h4:x.args.length<=4) :
  jsc (nA off) (nA (W.length-off)) (vb true) (vi 0) (sbs s) (sv x.name) (tms x.args) (sv y.name) (tms y.args) (W.map ec) [] [] []=joI (sbs s) ((x.args.zip y.args++W.drop off).map ec) [] []:=by
 have h1:nOf (nA off)=off:=rfl;have h2:nOf (nA (W.length-off))=W.length-off:=rfl;have hend:jbb (((x.args.zip y.args).map ec).length+((W.drop off).map ec).length) 80=true:=by
  rw[jbD,jbD,List.length_zip,List.length_drop];exact jm5 (by omega)
 have hzl:((x.args.zip y.args).map ec).length=x.args.length:=by rw[jbD,List.length_zip];omega
 have happ:jgs ((x.args.zip y.args).map ec) ((W.drop off).map ec)=(x.args.zip y.args++W.drop off).map ec:=by rw[jB];rfl
 have step:∀i,(hi:i<x.args.length)->(hi2:i<y.args.length)->jgs (((x.args.zip y.args).take i).map ec) [[sv x.args[i].name,tms x.args[i].args,sv y.args[i].name,tms y.args[i].args]]=((x.args.zip y.args).take (i+1)).map ec:=λi hi hi2=>jmv hi hi2;have key:=upto (P:=λi=>jt6 (nA off) (nA (W.length-off)) (vb true) (vi (i:Nat)) (sbs s) (sv x.name) (tms x.args) (sv y.name) (tms y.args) (W.map ec) (((x.args.zip y.args).take i).map ec) [] []=joI (sbs s) ((x.args.zip y.args++W.drop off).map ec) [] []) (n:=x.args.length) ?_ ?_
 .have hend2:(x.args.zip y.args).take x.args.length=x.args.zip y.args:=jQ (by rw[List.length_zip];omega)
  rw[jzD];by_cases h0:0<x.args.length
  .have hi:=h0;have hi2:0<y.args.length:=by omega
   have hlt:(0:Int)<((x.args.length:Nat):Int):=by omega
   have ix:=jay (k:=2) (f:=jbL) hi;have ix2:=jay (k:=2) (f:=jbL) hi2;have ta:=step 0 hi hi2;simp only[List.take_zero,List.map_nil,Int.natCast_zero,jbz]at ta ix ix2;have hf:jbb 1 80=true:=jm5 (by omega);have hck:ck (0+1)=some (vi ((1:Nat):Int)):=jht (n:=0+1) (by omega) (by omega);have key:=key 1 (by omega);rw[<-key];simp only[evz,hlt,ix,ix2,jbK,hf,hck,h1,h2];generalize hB:K1 _ _ _=B;have hB':B=some (.agg [sv x.args[0].name,tms x.args[0].args,sv y.args[0].name,tms y.args[0].args]):=by rw[<-hB];kernel_rfl
   rw[hB'];simp only[evz,ta]
  .have hlt:¬(0:Int)<((x.args.length:Nat):Int):=by omega
   have he:x.args=[]:=YV (by omega);have hz:x.args.zip y.args=[]:=by rw[he];rfl
   rw[hz]at hend happ⊢;have hend:jbb ((W.drop off).map ec).length 80=true:=by simpa using hend
   have happ:jgs [] ((W.drop off).map ec)=(W.drop off).map ec:=rfl;simp only[evz,hlt,h1,h2,jlk,jY];rw[jbD]at hend;simp only[evz,hend,happ]
 .have hend2:(x.args.zip y.args).take x.args.length=x.args.zip y.args:=jQ (by rw[List.length_zip];omega)
  rw[hend2,jxu];have hlt:¬((x.args.length:Nat):Int)<((x.args.length:Nat):Int):=by omega
  rw[hzl,jbD]at hend;simp only[evz,hlt,h1,h2,jlk,happ];rw[List.length_zip,Nat.min_eq_left (by omega)];simp only[evz,hend]
 .intro i hi ih;have hi2:i<y.args.length:=by omega
  have hlt:((i:Nat):Int)<((x.args.length:Nat):Int):=by omega
  have ta:=step i hi hi2;have li:(((x.args.zip y.args).take i).map ec).length=i:=take_len (by rw[List.length_zip];omega);have hf:jbb (i+1) 80=true:=jm5 (by omega);have hck:ck ((i:Int)+1)=some (vi ((i+1:Nat):Int)):=jht (by omega) (by omega);generalize ((x.args.zip y.args).take i).map ec=R at *;rw[jxu,<-ih];simp only[evz,hlt,jay hi,jay hi2,jbK];generalize hB:K1 _ _ _=B;have hB':B=some (.agg [sv x.args[i].name,tms x.args[i].args,sv y.args[i].name,tms y.args[i].args]):=by rw[<-hB];kernel_rfl
  rw[hB'];simp only[evz,li,hf,ta,hck,h1,h2]
theorem jwy(W:Eqs)(off:Nat)(hW:W.length<=1000)(x y:T)(hl:x.args.length=y.args.length)(h4:x.args.length<=4) :
  jsb (nA off) (nA (W.length-off)) (vb true) (vi 0) (sv x.name) (tms x.args) (sv y.name) (tms y.args) (W.map ec) [] [] [] []=jnB ((x.args.zip y.args++W.drop off).map ec) [] [] []:=by
 have h1:nOf (nA off)=off:=rfl;have h2:nOf (nA (W.length-off))=W.length-off:=rfl;have hend:jbb (((x.args.zip y.args).map ec).length+((W.drop off).map ec).length) 80=true:=by
  rw[jbD,jbD,List.length_zip,List.length_drop];exact jm5 (by omega)
 have hzl:((x.args.zip y.args).map ec).length=x.args.length:=by rw[jbD,List.length_zip];omega
 have happ:jgs ((x.args.zip y.args).map ec) ((W.drop off).map ec)=(x.args.zip y.args++W.drop off).map ec:=by rw[jB];rfl
 have step:∀i,(hi:i<x.args.length)->(hi2:i<y.args.length)->jgs (((x.args.zip y.args).take i).map ec) [[sv x.args[i].name,tms x.args[i].args,sv y.args[i].name,tms y.args[i].args]]=((x.args.zip y.args).take (i+1)).map ec:=λi hi hi2=>jmv hi hi2;have key:=upto (P:=λi=>jt5 (nA off) (nA (W.length-off)) (vb true) (vi (i:Nat)) (sv x.name) (tms x.args) (sv y.name) (tms y.args) (W.map ec) (((x.args.zip y.args).take i).map ec) [] [] []=jnB ((x.args.zip y.args++W.drop off).map ec) [] [] []) (n:=x.args.length) ?_ ?_
 .have hend2:(x.args.zip y.args).take x.args.length=x.args.zip y.args:=jQ (by rw[List.length_zip];omega)
  rw[jzC];by_cases h0:0<x.args.length
  .have hi:=h0;have hi2:0<y.args.length:=by omega
   have hlt:(0:Int)<((x.args.length:Nat):Int):=by omega
   have ix:=jay (k:=2) (f:=jbL) hi;have ix2:=jay (k:=2) (f:=jbL) hi2;have ta:=step 0 hi hi2;simp only[List.take_zero,List.map_nil,Int.natCast_zero,jbz]at ta ix ix2;have hf:jbb 1 80=true:=jm5 (by omega);have hck:ck (0+1)=some (vi ((1:Nat):Int)):=jht (n:=0+1) (by omega) (by omega);have key:=key 1 (by omega);rw[<-key];simp only[evz,hlt,ix,ix2,jbK,hf,hck,h1,h2];generalize hB:K1 _ _ _=B;have hB':B=some (.agg [sv x.args[0].name,tms x.args[0].args,sv y.args[0].name,tms y.args[0].args]):=by rw[<-hB];kernel_rfl
   rw[hB'];simp only[evz,ta]
  .have hlt:¬(0:Int)<((x.args.length:Nat):Int):=by omega
   have he:x.args=[]:=YV (by omega);have hz:x.args.zip y.args=[]:=by rw[he];rfl
   rw[hz]at hend happ⊢;have hend:jbb ((W.drop off).map ec).length 80=true:=by simpa using hend
   have happ:jgs [] ((W.drop off).map ec)=(W.drop off).map ec:=rfl;simp only[evz,hlt,h1,h2,jlk,jY];rw[jbD]at hend;simp only[evz,hend,happ]
 .have hend2:(x.args.zip y.args).take x.args.length=x.args.zip y.args:=jQ (by rw[List.length_zip];omega)
  rw[hend2,jxt];have hlt:¬((x.args.length:Nat):Int)<((x.args.length:Nat):Int):=by omega
  rw[hzl,jbD]at hend;simp only[evz,hlt,h1,h2,jlk,happ];rw[List.length_zip,Nat.min_eq_left (by omega)];simp only[evz,hend]
 .intro i hi ih;have hi2:i<y.args.length:=by omega
  have hlt:((i:Nat):Int)<((x.args.length:Nat):Int):=by omega
  have ta:=step i hi hi2;have li:(((x.args.zip y.args).take i).map ec).length=i:=take_len (by rw[List.length_zip];omega);have hf:jbb (i+1) 80=true:=jm5 (by omega);have hck:ck ((i:Int)+1)=some (vi ((i+1:Nat):Int)):=jht (by omega) (by omega);generalize ((x.args.zip y.args).take i).map ec=R at *;rw[jxt,<-ih];simp only[evz,hlt,jay hi,jay hi2,jbK];generalize hB:K1 _ _ _=B;have hB':B=some (.agg [sv x.args[i].name,tms x.args[i].args,sv y.args[i].name,tms y.args[i].args]):=by rw[<-hB];kernel_rfl
  rw[hB'];simp only[evz,li,hf,ta,hck,h1,h2]
def USS(s:jeM)(es:Eqs)(o:Xe):Prop:=
 (∀(W:Eqs)(off:Nat),W.drop off=es->off<=W.length->W.length<=1000->jl1 (nA off) (nA (W.length-off)) (sbs s) (W.map ec) [] []=o)/\joI (sbs s) (es.map ec) [] []=o/\
 (s=[]->(∀(W:Eqs)(off:Nat),W.drop off=es->off<=W.length->W.length<=1000->jp4 (nA off) (nA (W.length-off)) (W.map ec) [] [] []=o)/\jnB (es.map ec) [] [] []=o)
theorem jzZ(k:Nat)(ih:∀(s:jeM)(es:Eqs)(res:Option jeM),jjq s es->Hgt s 126 es->jhe k s es=some res->USS s es (jiB res))(s:jeM)(l r:T)(rest:Eqs)(hi:jjq s ((l,r)::rest))(hg:Hgt s 126 ((l,r)::rest))(res:Option jeM)(hu:jhe (k+1) s ((l,r)::rest)=some res)(W:Eqs)(off:Nat)(hW:W.drop off=(l,r)::rest)(hlen:W.length<=1000):jl1 (nA off) (nA (W.length-off)) (sbs s) (W.map ec) [] []=jiB res:=by
 obtain⟨d1,d2,d3⟩:=jjb hW;obtain⟨r1,r2⟩:=jlg d1;obtain⟨al,ar,nl,nr⟩:=jkO hi;have hv:=hi.1;have e1:=jj4 s hv l al (by omega);have e2:=jj4 s hv r ar (by omega);have w1:nOf (nA off)=off:=rfl;have w2:nOf (nA (W.length-off))=W.length-off:=rfl;have g1:jgm .gtr false (nA (W.length-off)) (vi 0)=some (vb true):=by
  show some (vb (decide ((0:Int)<((W.length-off:Nat):Int))))=_;rw[decide_eq_true (by omega)]
 have g2:pIx (W.length-off) (vi 0)=some 0:=jit (i:=0) (by omega);have g3:pB (W.length-off) (jg7 (W.map ec) off) none=some (W.length-off):=by
  rw[show jg7 (W.map ec) off=W.length-off by rw[jjJ,jbD]];exact jiC (jl _)
 have g4:pB 0 (W.length-off) (some (vi 1))=some 1:=jld (n:=1) (by omega);have hn:jhR (W.length-off) 1=W.length-(off+1):=by unfold jhR;omega
 rw[juV];cases sl:jeO (sub s l)<;>rw[sl]at e1
 .have e1:G 64 [sb s,tm l]=some (.tup [.agg [sv [],.sl 2 []],vb false],[]):=e1;have hr:res=none:=jgD (by unfold jiA;rw[jc6 (Or.inl sl)]) hu;subst hr;obtain⟨q,e2⟩:∃q:T×Bool,G 64 [sb s,tm r]=some (.tup [tm q.1,vb q.2],[]):=by
   cases h:jeO (sub s r)<;>rw[h]at e2
   .exact ⟨(.mk [] [],false),e2⟩
   .exact ⟨(sub s r,true),e2⟩
  simp only[evz,w1,w2,g1,g2,g3,g4,zH,r1,r2,e1,e2];rfl
 have e1:G 64 [sb s,tm l]=some (.tup [tm (sub s l),vb true],[]):=e1;cases sr:jeO (sub s r)<;>rw[sr]at e2
 .have e2:G 64 [sb s,tm r]=some (.tup [.agg [sv [],.sl 2 []],vb false],[]):=e2;have hr:res=none:=jgD (by unfold jiA;rw[jc6 (Or.inr sr)]) hu;subst hr;simp only[evz,w1,w2,g1,g2,g3,g4,zH,r1,r2,e1,e2];rfl
 have e2:G 64 [sb s,tm r]=some (.tup [tm (sub s r),vb true],[]):=e2;have xl:AxT (sub s l):=AxT.sub hv al;have xr:AxT (sub s r):=AxT.sub hv ar;have ml:=jif sl;have mr:=jif sr;have tl:=xl.tz (by omega);have tr:=xr.tz (by omega);have e3:=jjj (sub s l) tl.wf (sub s r) tr.wf;have ll:=(jfK hv).1;cases hd:dq (sub s l) (sub s r)<;>rw[hd]at e3
 rotate_left
 .have hst:=jly (rest:=rest) sl sr hd;have hnext:=ih _ _ res (jil hi hst).1 (jiJ hi hg hst) (jij hst hu);have hnext:=hnext.1 W (off+1) d2 (by omega) hlen;simp only[evz,w1,w2,g1,g2,g3,g4,zH,r1,r2,e1,e2,e3,hn];exact hnext
 have v1:=jhT (sub s l).name ((jgC _).1 tl.wf).1;have v2:=jhT (sub s r).name ((jgC _).1 tr.wf).1;have bindC:jcE (sub s l).name=true\/jcE (sub s r).name=true-> ∃q2:Bool,∃u:jeM,G 65 [sb s,sv (jeL (sub s l) (sub s r)).1,tm (jeL (sub s l) (sub s r)).2]=some (.tup [sb u,vb q2],[])/\(q2=false->jiB res=jiB none)/\(q2=true->jl1 (nA (off+1)) (nA (W.length-(off+1))) (sbs u) (W.map ec) [] []=jiB res):=by
  intro hvar;have hst:=jlw (rest:=rest) sl sr hd hvar;obtain⟨bv,hor⟩:=jnH hvar;have bz:Tz (jeL (sub s l) (sub s r)).2:=hor.elim (λh=>by rw[h.2];exact tl) λh=>by rw[h.2];exact tr
  have bk:(jeL (sub s l) (sub s r)).1∈jhn (jeL (sub s l) (sub s r)).2\/(jeL (sub s l) (sub s r)).2.name≠(jeL (sub s l) (sub s r)).1:=by
   by_cases hnm:(jeL (sub s l) (sub s r)).2.name=(jeL (sub s l) (sub s r)).1
   .left;rw[vsv (by rw[hnm];exact bv),hnm];simp
   .exact Or.inr hnm
  obtain⟨z,eb⟩:=joV s hv _ _ bv bz bk;rw[<-Bool.and_assoc]at eb;cases hc:(!decide ((jeL (sub s l) (sub s r)).1∈jhn (jeL (sub s l) (sub s r)).2) && jfl [jeL (sub s l) (sub s r)]) && jfl (jhu s [jeL (sub s l) (sub s r)])
  .rw [hc,ko Bool.false_ne_true]at hst;have eb:=eb.trans (by rw[show((jeL (sub s l) (sub s r)).1,(jeL (sub s l) (sub s r)).2)=jeL (sub s l) (sub s r) from rfl,hc,ko Bool.false_ne_true]);exact⟨false,z,eb,λ_=>by rw[jgD hst hu],λh=>by cases h⟩
  .rw [hc,jc6 rfl]at hst;have eb:=eb.trans (by rw[show((jeL (sub s l) (sub s r)).1,(jeL (sub s l) (sub s r)).2)=jeL (sub s l) (sub s r) from rfl,hc,jc6 rfl]);refine⟨true,_,eb,(λh=>by cases h),λ_=>?_⟩;have hnext:=ih _ _ res (jil hi hst).1 (jiJ hi hg hst) (jij hst hu);exact hnext.1 W (off+1) d2 (by omega) hlen
 cases vl:jcE (sub s l).name<;>rw[vl]at v1
 rotate_left
 .cases vr:jcE (sub s r).name<;>rw[vr]at v2
  .obtain ⟨q2,u,b1,b2,b3⟩:=bindC (Or.inl vl);have hbd:jeL (sub s l) (sub s r)=((sub s l).name,sub s r):=ko (by rw[vl,vr];simp);rw[hbd]at b1;cases q2
   .rw [b2 rfl];simp only[evz,w1,w2,g1,g2,g3,g4,zH,r1,r2,e1,e2,e3,v1,v2,b1];rfl
   .rw [<-b3 rfl];simp only[evz,w1,w2,g1,g2,g3,g4,zH,r1,r2,e1,e2,e3,v1,v2,b1,hn]
  .cases hc:sLt (sub s l).name (sub s r).name
   .obtain ⟨q2,u,b1,b2,b3⟩:=bindC (Or.inl vl);have hbd:jeL (sub s l) (sub s r)=((sub s l).name,sub s r):=ko (by rw[vl,vr,hc];simp);rw[hbd]at b1;cases q2
    .rw [b2 rfl];simp only[evz,w1,w2,g1,g2,g3,g4,zH,r1,r2,e1,e2,e3,v1,v2,hc,b1];rfl
    .rw [<-b3 rfl];simp only[evz,w1,w2,g1,g2,g3,g4,zH,r1,r2,e1,e2,e3,v1,v2,hc,b1,hn]
   .obtain ⟨q2,u,b1,b2,b3⟩:=bindC (Or.inl vl);have hbd:jeL (sub s l) (sub s r)=((sub s r).name,sub s l):=jc6 (Or.inr ⟨vr,hc⟩);rw[hbd]at b1;cases q2
    .rw [b2 rfl];simp only[evz,w1,w2,g1,g2,g3,g4,zH,r1,r2,e1,e2,e3,v1,v2,hc,b1];rfl
    .rw [<-b3 rfl];simp only[evz,w1,w2,g1,g2,g3,g4,zH,r1,r2,e1,e2,e3,v1,v2,hc,b1,hn]
 cases vr:jcE (sub s r).name<;>rw[vr]at v2
 rotate_left
 .obtain ⟨q2,u,b1,b2,b3⟩:=bindC (Or.inr vr);have hbd:jeL (sub s l) (sub s r)=((sub s r).name,sub s l):=jc6 (Or.inl vl);rw[hbd]at b1;cases q2
  .rw [b2 rfl];simp only[evz,w1,w2,g1,g2,g3,g4,zH,r1,r2,e1,e2,e3,v1,v2,b1];rfl
  .rw [<-b3 rfl];simp only[evz,w1,w2,g1,g2,g3,g4,zH,r1,r2,e1,e2,e3,v1,v2,b1,hn]
 have hst:=jlx (rest:=rest) sl sr hd vl vr;by_cases hnm:(sub s l).name=(sub s r).name;rotate_left
 .rw [ko (λh=>hnm h.1)]at hst;have hnd:=decide_eq_false hnm;rw[jgD hst hu];simp only[evz,w1,w2,g1,g2,g3,g4,zH,r1,r2,e1,e2,e3,v1,v2,hnd];rfl
 have hnd:=decide_eq_true hnm;by_cases hal:(sub s l).args.length=(sub s r).args.length;rotate_left
 .rw [ko (λh=>hal h.2)]at hst;have hal':decide ((((sub s l).args.length:Nat):Int)=(((sub s r).args.length:Nat):Int))=false:=decide_eq_false (by omega);rw[jgD hst hu];simp only[evz,w1,w2,g1,g2,g3,g4,zH,r1,r2,e1,e2,e3,v1,v2,hnd,hal'];rfl
 rw[jc6 ⟨hnm,hal⟩]at hst;have hnext:=ih _ _ res (jil hi hst).1 (jiJ hi hg hst) (jij hst hu);have hnext:=hnext.2.1;have hin:=jwz s W (off+1) hlen (sub s l) (sub s r) hal (jmi xl);rw[d2]at hin;rw[hnext]at hin;have hal':decide ((((sub s l).args.length:Nat):Int)=(((sub s r).args.length:Nat):Int))=true:=decide_eq_true (by omega);simp only[evz,w1,w2,g1,g2,g3,g4,zH,r1,r2,e1,e2,e3,v1,v2,hnd,hal',hn];exact hin
theorem jBa(k:Nat)(ih:∀(s:jeM)(es:Eqs)(res:Option jeM),jjq s es->Hgt s 126 es->jhe k s es=some res->USS s es (jiB res))(s:jeM)(l r:T)(rest:Eqs)(hi:jjq s ((l,r)::rest))(hg:Hgt s 126 ((l,r)::rest))(res:Option jeM)(hu:jhe (k+1) s ((l,r)::rest)=some res)(W:Eqs)(hW:W=(l,r)::rest)(hlen:W.length<=1000):joI (sbs s) (W.map ec) [] []=jiB res:=by
 have hW0:W.drop 0=(l,r)::rest:=hW;rw[<-jzZ k ih s l r rest hi hg res hu W 0 hW0 hlen];obtain⟨d1,d2,d3⟩:=jjb hW0;obtain⟨r1,r2⟩:=jlg d1;have w1:nOf (nA 0)=0:=rfl;have w2:nOf (nA W.length)=W.length:=rfl;have f1:jgm .gtr false (nA W.length) (vi 0)=some (vb true):=by
  show some (vb (decide ((0:Int)<((W.length:Nat):Int))))=_;rw[decide_eq_true (by omega)]
 have f3:pB W.length (jg7 (W.map ec) 0) none=some W.length:=by
  rw[show jg7 (W.map ec) 0=W.length by rw[jjJ,jbD];rfl];exact jiC (jl _)
 have g2:pIx W.length (vi 0)=some 0:=jit (i:=0) (by omega);have g3:pB (jds (W.map ec)) (jg7 (W.map ec) 0) none=some W.length:=by
  rw[jjL,f3]
 have g4:pB 0 W.length (some (vi 1))=some 1:=jld (n:=1) (by omega);have g0:(0:Int)<((W.length:Nat):Int):=by omega
 rw[jxv,juV,Nat.sub_zero];simp only[evz,w1,w2,f1,f3,g0,g2,g3,g4,r1,r2]
theorem jzY(k:Nat)(ih:∀(s:jeM)(es:Eqs)(res:Option jeM),jjq s es->Hgt s 126 es->jhe k s es=some res->USS s es (jiB res))(l r:T)(rest:Eqs)(hi:jjq [] ((l,r)::rest))(hg:Hgt [] 126 ((l,r)::rest))(res:Option jeM)(hu:jhe (k+1) [] ((l,r)::rest)=some res)(W:Eqs)(off:Nat)(hW:W.drop off=(l,r)::rest)(hlen:W.length<=1000):jp4 (nA off) (nA (W.length-off)) (W.map ec) [] [] []=jiB res:=by
 obtain⟨d1,d2,d3⟩:=jjb hW;obtain⟨r1,r2⟩:=jlg d1;obtain⟨al,ar,nl,nr⟩:=jkO hi;have hv:=hi.1;have e1:=jj4 [] hv l al (by omega);have e2:=jj4 [] hv r ar (by omega);have w1:nOf (nA off)=off:=rfl;have w2:nOf (nA (W.length-off))=W.length-off:=rfl;have g1:jgm .gtr false (nA (W.length-off)) (vi 0)=some (vb true):=by
  show some (vb (decide ((0:Int)<((W.length-off:Nat):Int))))=_;rw[decide_eq_true (by omega)]
 have g2:pIx (W.length-off) (vi 0)=some 0:=jit (i:=0) (by omega);have g3:pB (W.length-off) (jg7 (W.map ec) off) none=some (W.length-off):=by
  rw[show jg7 (W.map ec) off=W.length-off by rw[jjJ,jbD]];exact jiC (jl _)
 have g4:pB 0 (W.length-off) (some (vi 1))=some 1:=jld (n:=1) (by omega);have hn:jhR (W.length-off) 1=W.length-(off+1):=by unfold jhR;omega
 rw[juU];cases sl:jeO (sub [] l)<;>rw[sl]at e1
 .have e1:G 64 [.agg [.sl 3 []],tm l]=some (.tup [.agg [sv [],.sl 2 []],vb false],[]):=e1;have hr:res=none:=jgD (by unfold jiA;rw[jc6 (Or.inl sl)]) hu;subst hr;obtain⟨q,e2⟩:∃q:T×Bool,G 64 [.agg [.sl 3 []],tm r]=some (.tup [tm q.1,vb q.2],[]):=by
   cases h:jeO (sub [] r)<;>rw[h]at e2
   .exact ⟨(.mk [] [],false),e2⟩
   .exact ⟨(sub [] r,true),e2⟩
  simp only[evz,w1,w2,g1,g2,g3,g4,zH,r1,r2,e1,e2];rfl
 have e1:G 64 [.agg [.sl 3 []],tm l]=some (.tup [tm (sub [] l),vb true],[]):=e1;cases sr:jeO (sub [] r)<;>rw[sr]at e2
 .have e2:G 64 [.agg [.sl 3 []],tm r]=some (.tup [.agg [sv [],.sl 2 []],vb false],[]):=e2;have hr:res=none:=jgD (by unfold jiA;rw[jc6 (Or.inr sr)]) hu;subst hr;simp only[evz,w1,w2,g1,g2,g3,g4,zH,r1,r2,e1,e2];rfl
 have e2:G 64 [.agg [.sl 3 []],tm r]=some (.tup [tm (sub [] r),vb true],[]):=e2;have xl:AxT (sub [] l):=AxT.sub hv al;have xr:AxT (sub [] r):=AxT.sub hv ar;have ml:=jif sl;have mr:=jif sr;have tl:=xl.tz (by omega);have tr:=xr.tz (by omega);have e3:=jjj (sub [] l) tl.wf (sub [] r) tr.wf;have ll:=(jfK hv).1;cases hd:dq (sub [] l) (sub [] r)<;>rw[hd]at e3
 rotate_left
 .have hst:=jly (rest:=rest) sl sr hd;have hnext:=ih _ _ res (jil hi hst).1 (jiJ hi hg hst) (jij hst hu);have hnext:=(hnext.2.2 rfl).1 W (off+1) d2 (by omega) hlen;simp only[evz,w1,w2,g1,g2,g3,g4,zH,r1,r2,e1,e2,e3,hn];exact hnext
 have v1:=jhT (sub [] l).name ((jgC _).1 tl.wf).1;have v2:=jhT (sub [] r).name ((jgC _).1 tr.wf).1;have bindC:jcE (sub [] l).name=true\/jcE (sub [] r).name=true-> ∃q2:Bool,∃u:jeM,G 65 [.agg [.sl 3 []],sv (jeL (sub [] l) (sub [] r)).1,tm (jeL (sub [] l) (sub [] r)).2]=some (.tup [sb u,vb q2],[])/\(q2=false->jiB res=jiB none)/\(q2=true->jl1 (nA (off+1)) (nA (W.length-(off+1))) (sbs u) (W.map ec) [] []=jiB res):=by
  intro hvar;have hst:=jlw (rest:=rest) sl sr hd hvar;obtain⟨bv,hor⟩:=jnH hvar;have bz:Tz (jeL (sub [] l) (sub [] r)).2:=hor.elim (λh=>by rw[h.2];exact tl) λh=>by rw[h.2];exact tr
  have bk:(jeL (sub [] l) (sub [] r)).1∈jhn (jeL (sub [] l) (sub [] r)).2\/(jeL (sub [] l) (sub [] r)).2.name≠(jeL (sub [] l) (sub [] r)).1:=by
   by_cases hnm:(jeL (sub [] l) (sub [] r)).2.name=(jeL (sub [] l) (sub [] r)).1
   .left;rw[vsv (by rw[hnm];exact bv),hnm];simp
   .exact Or.inr hnm
  obtain⟨z,eb⟩:=joV [] hv _ _ bv bz bk;rw[<-Bool.and_assoc]at eb;cases hc:(!decide ((jeL (sub [] l) (sub [] r)).1∈jhn (jeL (sub [] l) (sub [] r)).2) && jfl [jeL (sub [] l) (sub [] r)]) && jfl (jhu [] [jeL (sub [] l) (sub [] r)])
  .rw [hc,ko Bool.false_ne_true]at hst;have eb:=eb.trans (by rw[show((jeL (sub [] l) (sub [] r)).1,(jeL (sub [] l) (sub [] r)).2)=jeL (sub [] l) (sub [] r) from rfl,hc,ko Bool.false_ne_true]);exact⟨false,z,eb,λ_=>by rw[jgD hst hu],λh=>by cases h⟩
  .rw [hc,jc6 rfl]at hst;have eb:=eb.trans (by rw[show((jeL (sub [] l) (sub [] r)).1,(jeL (sub [] l) (sub [] r)).2)=jeL (sub [] l) (sub [] r) from rfl,hc,jc6 rfl]);refine⟨true,_,eb,(λh=>by cases h),λ_=>?_⟩;have hnext:=ih _ _ res (jil hi hst).1 (jiJ hi hg hst) (jij hst hu);exact hnext.1 W (off+1) d2 (by omega) hlen
 cases vl:jcE (sub [] l).name<;>rw[vl]at v1
 rotate_left
 .cases vr:jcE (sub [] r).name<;>rw[vr]at v2
  .obtain ⟨q2,u,b1,b2,b3⟩:=bindC (Or.inl vl);have hbd:jeL (sub [] l) (sub [] r)=((sub [] l).name,sub [] r):=ko (by rw[vl,vr];simp);rw[hbd]at b1;cases q2
   .rw [b2 rfl];simp only[evz,w1,w2,g1,g2,g3,g4,zH,r1,r2,e1,e2,e3,v1,v2,b1];rfl
   .rw [<-b3 rfl];simp only[evz,w1,w2,g1,g2,g3,g4,zH,r1,r2,e1,e2,e3,v1,v2,b1,hn]
  .cases hc:sLt (sub [] l).name (sub [] r).name
   .obtain ⟨q2,u,b1,b2,b3⟩:=bindC (Or.inl vl);have hbd:jeL (sub [] l) (sub [] r)=((sub [] l).name,sub [] r):=ko (by rw[vl,vr,hc];simp);rw[hbd]at b1;cases q2
    .rw [b2 rfl];simp only[evz,w1,w2,g1,g2,g3,g4,zH,r1,r2,e1,e2,e3,v1,v2,hc,b1];rfl
    .rw [<-b3 rfl];simp only[evz,w1,w2,g1,g2,g3,g4,zH,r1,r2,e1,e2,e3,v1,v2,hc,b1,hn]
   .obtain ⟨q2,u,b1,b2,b3⟩:=bindC (Or.inl vl);have hbd:jeL (sub [] l) (sub [] r)=((sub [] r).name,sub [] l):=jc6 (Or.inr ⟨vr,hc⟩);rw[hbd]at b1;cases q2
    .rw [b2 rfl];simp only[evz,w1,w2,g1,g2,g3,g4,zH,r1,r2,e1,e2,e3,v1,v2,hc,b1];rfl
    .rw [<-b3 rfl];simp only[evz,w1,w2,g1,g2,g3,g4,zH,r1,r2,e1,e2,e3,v1,v2,hc,b1,hn]
 cases vr:jcE (sub [] r).name<;>rw[vr]at v2
 rotate_left
 .obtain ⟨q2,u,b1,b2,b3⟩:=bindC (Or.inr vr);have hbd:jeL (sub [] l) (sub [] r)=((sub [] r).name,sub [] l):=jc6 (Or.inl vl);rw[hbd]at b1;cases q2
  .rw [b2 rfl];simp only[evz,w1,w2,g1,g2,g3,g4,zH,r1,r2,e1,e2,e3,v1,v2,b1];rfl
  .rw [<-b3 rfl];simp only[evz,w1,w2,g1,g2,g3,g4,zH,r1,r2,e1,e2,e3,v1,v2,b1,hn]
 have hst:=jlx (rest:=rest) sl sr hd vl vr;by_cases hnm:(sub [] l).name=(sub [] r).name;rotate_left
 .rw [ko (λh=>hnm h.1)]at hst;have hnd:=decide_eq_false hnm;rw[jgD hst hu];simp only[evz,w1,w2,g1,g2,g3,g4,zH,r1,r2,e1,e2,e3,v1,v2,hnd];rfl
 have hnd:=decide_eq_true hnm;by_cases hal:(sub [] l).args.length=(sub [] r).args.length;rotate_left
 .rw [ko (λh=>hal h.2)]at hst;have hal':decide ((((sub [] l).args.length:Nat):Int)=(((sub [] r).args.length:Nat):Int))=false:=decide_eq_false (by omega);rw[jgD hst hu];simp only[evz,w1,w2,g1,g2,g3,g4,zH,r1,r2,e1,e2,e3,v1,v2,hnd,hal'];rfl
 rw[jc6 ⟨hnm,hal⟩]at hst;have hnext:=ih _ _ res (jil hi hst).1 (jiJ hi hg hst) (jij hst hu);have hnext:=(hnext.2.2 rfl).2;have hin:=jwy W (off+1) hlen (sub [] l) (sub [] r) hal (jmi xl);rw[d2]at hin;rw[hnext]at hin;have hal':decide ((((sub [] l).args.length:Nat):Int)=(((sub [] r).args.length:Nat):Int))=true:=decide_eq_true (by omega);simp only[evz,w1,w2,g1,g2,g3,g4,zH,r1,r2,e1,e2,e3,v1,v2,hnd,hal',hn];exact hin
theorem jA9(k:Nat)(ih:∀(s:jeM)(es:Eqs)(res:Option jeM),jjq s es->Hgt s 126 es->jhe k s es=some res->USS s es (jiB res))(l r:T)(rest:Eqs)(hi:jjq [] ((l,r)::rest))(hg:Hgt [] 126 ((l,r)::rest))(res:Option jeM)(hu:jhe (k+1) [] ((l,r)::rest)=some res)(W:Eqs)(hW:W=(l,r)::rest)(hlen:W.length<=1000):jnB (W.map ec) [] [] []=jiB res:=by
 have hW0:W.drop 0=(l,r)::rest:=hW;rw[<-jzY k ih l r rest hi hg res hu W 0 hW0 hlen];obtain⟨d1,d2,d3⟩:=jjb hW0;obtain⟨r1,r2⟩:=jlg d1;have w1:nOf (nA 0)=0:=rfl;have w2:nOf (nA W.length)=W.length:=rfl;have f1:jgm .gtr false (nA W.length) (vi 0)=some (vb true):=by
  show some (vb (decide ((0:Int)<((W.length:Nat):Int))))=_;rw[decide_eq_true (by omega)]
 have f3:pB W.length (jg7 (W.map ec) 0) none=some W.length:=by
  rw[show jg7 (W.map ec) 0=W.length by rw[jjJ,jbD];rfl];exact jiC (jl _)
 have g2:pIx W.length (vi 0)=some 0:=jit (i:=0) (by omega);have g3:pB (jds (W.map ec)) (jg7 (W.map ec) 0) none=some W.length:=by
  rw[jjL,f3]
 have g4:pB 0 W.length (some (vi 1))=some 1:=jld (n:=1) (by omega);have g0:(0:Int)<((W.length:Nat):Int):=by omega
 rw[juW,juU,Nat.sub_zero];simp only[evz,w1,w2,f1,f3,g0,g2,g3,g4,r1,r2]
theorem jvP(s:jeM):USS s [] (jiB (some s)):=by
 refine⟨λW off hW h1 h2=>?_,?_,λhs=>?_⟩
 .have h3:=congrArg List.length hW;rw[List.length_drop,jhr]at h3;have w2:nOf (nA (W.length-off))=W.length-off:=rfl;have g1:jgm .gtr false (nA (W.length-off)) (vi 0)=some (vb false):=by
   show some (vb (decide ((0:Int)<((W.length-off:Nat):Int))))=_;rw[decide_eq_false (by omega)]
  rw[juV];simp only[evz,w2,g1];rfl
 .rw [jxv];have g1:jgm .gtr false (jdt (List.map ec [])) (vi 0)=some (vb false):=rfl;simp only[evz];rfl
 .subst hs;refine⟨λW off hW h1 h2=>?_,?_⟩
  .have h3:=congrArg List.length hW;rw[List.length_drop,jhr]at h3;have w2:nOf (nA (W.length-off))=W.length-off:=rfl;have g1:jgm .gtr false (nA (W.length-off)) (vi 0)=some (vb false):=by
    show some (vb (decide ((0:Int)<((W.length-off:Nat):Int))))=_;rw[decide_eq_false (by omega)]
   rw[juU];simp only[evz,w2,g1];rfl
  .rw [juW];have g1:jgm .gtr false (jdt (List.map ec [])) (vi 0)=some (vb false):=rfl;simp only[evz];rfl
theorem jyP:∀(k:Nat)(s:jeM)(es:Eqs)(res:Option jeM),jjq s es->Hgt s 126 es->jhe k s es=some res->USS s es (jiB res):=by
 intro k;induction k with
 |zero=>
  intro s es res hi hg hu;cases es with
  |nil=>simp only[jhe,jv]at hu;rw[<-hu];exact jvP s
  |cons p es=>simp[jhe]at hu
 |succ k ih=>
  intro s es res hi hg hu;cases es with
  |nil=>simp only[jhe,jv]at hu;rw[<-hu];exact jvP s
  |cons p rest=>
   obtain⟨l,r⟩:=p;have hl:=hg.len;refine⟨λW off hW _ hlen=>jzZ k ih s l r rest hi hg res hu W off hW hlen,jBa k ih s l r rest hi hg res hu _ rfl (by omega),λhs=>?_⟩;subst hs;exact⟨λW off hW _ hlen=>jzY k ih l r rest hi hg res hu W off hW hlen,jA9 k ih l r rest hi hg res hu _ rfl (by omega)⟩
theorem jzX(W:Eqs):jt4 (W.map ec) [] [] []=jnB (W.map ec) [] [] []:=by
 rw[jzB,juW]
theorem jrE(a b:T)(ha:Exx a)(hb:Exx b):G 36 [tm a,tm b]=jiB (jjV a b):=by
 obtain⟨k,hk⟩:=jjv ha hb;have h:=((jyP k [] [(a,b)] _ (jre ha hb) (jzz a b) hk).2.2 rfl).2;rw[<-jzX]at h;rw[g36];simp only[evz];exact h
open Go Go.RowKit Go.ChangeShapes Go.Deep Go.Proofs.YtocncngbocomhaaGreatDoor.Abs
section
variable{P:Program}{t:Nat}{H:Type}{enc:TypeId×Value->H}{w:World}{base:Nat}{spare:Nat->Bool}{held:Bool}{fuel:Nat}{cs:Xh}{x:DataW H×List MemPlace}
end
abbrev clc(c:Cls):Xd:=[.sl 3 (c.map ltc)]
structure Stp where
 rule:Int
 par:Xi
 whr:Xi
 cls:Cls
abbrev stc(s:Stp):Xd:=[vi s.rule,ints s.par,ints s.whr,.sl 3 (s.cls.map ltc)]
abbrev stm(s:Stp):A:= .agg [vi s.rule,ints s.par,ints s.whr,.sl 3 (s.cls.map ltc)]
structure Prf where
 ax:List Cls
 st:List Stp
abbrev cls(l:List Cls):A:= .sl 1 (l.map clc)
abbrev jw3(l:List Stp):A:= .sl 4 (l.map stc)
abbrev prc(p:Prf):Xd:=[cls p.ax,jw3 p.st]
abbrev prm(p:Prf):A:= .agg [cls p.ax,jw3 p.st]
structure Sch where
 prf:Prf
 act:Xi
 pas:Xi
 lost:Bool
abbrev scc(s:Sch):Xd:=[cls s.prf.ax,jw3 s.prf.st,ints s.act,ints s.pas,vb s.lost]
abbrev scm(s:Sch):A:= .agg [cls s.prf.ax,jw3 s.prf.st,ints s.act,ints s.pas,vb s.lost]
def iwf(l:Xi):Prop:=(∀x∈l,I64 x)/\l.length<=9223372036854775807
def cwf(c:Cls):Prop:=(∀l∈c,twf l.2)/\c.length<=9223372036854775807
def swf(s:Stp):Prop:=I64 s.rule/\iwf s.par/\iwf s.whr/\cwf s.cls
def pwf(p:Prf):Prop:=((∀c∈p.ax,cwf c)/\p.ax.length<=9223372036854775807)/\((∀s∈p.st,swf s)/\p.st.length<=9223372036854775807)
def jBu(s:Sch):Prop:=pwf s.prf/\iwf s.act/\iwf s.pas
def lsz:Cls->Nat
 | []=>0
 |l::c=>tsz l.2+lsz c
def csz(c:Cls):Nat:=c.length+lsz c
def jzl:List Cls->Nat
 | []=>0
 |c::l=>csz c+jzl l
def ssz(s:Stp):Nat:=s.par.length+s.whr.length+csz s.cls
def jzV:List Stp->Nat
 | []=>0
 |s::l=>ssz s+jzV l
def psz(p:Prf):Nat:=(p.ax.length+jzl p.ax)+(p.st.length+jzV p.st)
def jBt(s:Sch):Nat:=psz s.prf+s.act.length+s.pas.length
def LN(l:Cls):Prop:=l.length<=40/\ ∀x∈l,Bx x.2/\nodes x.2<=100
def jBz(f g:FuncId)(args:Xd):Prop:=∃r:Option Cls,G f args=jzO r/\G g args=jzO r/\ ∀x,r=some x->jsO x=true
def jCE(c:Cls)(i:Int):Bool:=inB 0 (((c.length:Nat):Int)-1) i
theorem hRl(x:Cls):hR 3 (A.top,[.sl 3 (x.map ltc)]) 0=some (x.map ltc):=rfl
theorem jyn(n:Nat)(x:Int):inB 0 (((n:Nat):Int)-1) x=decide (0<=x/\x<(n:Int)):=by
 unfold inB;rw[<-Bool.decide_and];exact decide_eq_decide.2 ⟨λh=>⟨h.1,by omega⟩,λh=>⟨h.1,by omega⟩⟩
theorem jya(t:T)(p:Xi)(ht:Tz t)(hl:p.length<=1048576):G 47 [tm t,ints p]=outT (atI p t):=by
 have key:=upto (P:=λi=>∀t:T,Tz t->jsf (ints p) (vi (p.length:Nat)) (vi (i:Nat)) (sv t.name) (tms t.args) (sv []) []=outT (atI (p.drop i) t)) (n:=p.length) ?_ ?_ 0 (Nat.zero_le _) t ht
 .simp only[Int.natCast_zero,List.drop_zero]at key;rw[g47];simp only[evz,key]
 .intro t ht;rw[jxy,List.drop_length,atI];simp only[evz];rfl
 .intro i hi ih t ht;have hz:=ht;unfold Tz at hz;rw[jhq]at hz;have hlt:(i:Int)<((p.length:Nat):Int):=by omega
  have h5:=jeN hi (by show p.length<=9223372036854775807;omega)
  have c1:ck (((t.args.length:Nat):Int)-1)=some (vi (((t.args.length:Nat):Int)-1)):=jht (by omega) (by omega);have e1:=jky p[i] 0 (((t.args.length:Nat):Int)-1);rw[jyn]at e1;have ix:=jjo hi;rw[jxy,jcS hi,atI];by_cases hc:0<=p[i]/\p[i]<(t.args.length:Int)
  .rw [decide_eq_true hc]at e1;rw[jc6 hc];have hn:p[i].toNat<t.args.length:=by omega
   have ix2:=jay (k:=2) (f:=jbL) hn;rw[show((p[i].toNat:Nat):Int)=p[i] by omega]at ix2;rw[jiM hn];have:=ih t.args[p[i].toNat] (ht.args _ (jdM hn));simp only[evz,hlt,ix,c1,e1,ix2,jbK,h5,this]
  .rw [decide_eq_false hc]at e1;rw[ko hc];simp only[evz,hlt,ix,c1,e1];rfl
theorem juA(q:Xf):ints (q.map λn:Nat=>(n:Int))=pln q:=by
 show A.sl 1 ((q.map _).map ci)=_;rw[QW];rfl
theorem jqo(t:T)(ht:Tz t):jr0 (sv t.name) (tms t.args)=some (.top,[sv t.name,tms t.args]):=by
 have hz:=ht;unfold Tz at hz;rw[jhq]at hz;have e1:=jl9 t.args (by omega) λu hu=>jk1 u (ht.args u hu);have r1:hR 2 (A.top,[tms t.args]) 0=some (t.args.map jbL):=rfl;rw[jzh];simp only[evz,e1,r1]
theorem jmZ(s:T)(hs:Tz s):∀(p:Xf)(t:T),Tz t->okP p t->p.length<=2000000->G 51 [tm t,pln p,tm s]=some (tm (jhs s p t),[])
 | [],t,_,_,_=>by
  have e1:=jqo s hs;have hz:(((0:Nat):Int)=0)=True:=by simp
  rw[g51,jhs];simp only[evz,hz,e1,List.map_nil,List.getElem?_cons_zero]
 |i::p,t,ht,hp,hl=>by
  obtain⟨h1,h2⟩:=hp;have e:t.args.getD i (.mk [] [])=t.args[i]:=jiM h1;rw[e]at h2;have e1:=jqo t ht;have e2:=jmZ s hs p t.args[i] (ht.args _ (jdM h1)) h2 (by rw[zz]at hl;omega);have hz:¬((p.length+1:Nat):Int)=0:=by omega
  have i0:zP 1 (pln (i::p)) (vi 0)=some (.elt [vi (i:Nat)] 0):=jjS (p:=i::p) (i:=0) (by simp);have sl:K4 1 (pln (i::p)) (some (vi 1)) none=some (pln p):=by
   have:=jja (k:=1) (xs:=(i::p).map λn:Nat=>[vi (n:Nat)]) (i:=1) (by simp);exact this
  have ix:pIx t.args.length (vi (i:Nat))=some i:=jit h1;have rg:jbd (t.args.map jbL) i=some (jbL t.args[i]):=by unfold jbd;simp[h1]
  have co:Z4 (jbL t.args[i]) 0 [sv (jhs s p t.args[i]).name,tms (jhs s p t.args[i]).args]=jbL (jhs s p t.args[i]):=by rw[jf3,jf3];rfl
  have rs:jal (t.args.map jbL) i (jbL (jhs s p t.args[i]))=(t.args.set i (jhs s p t.args[i])).map jbL:=by unfold jal;rw[List.map_set]
  have ll:(jfQ (pln (i::p)))=some (vi ((p.length+1:Nat):Int)):=by rw[jqO];simp only[evz]
  rw[g51,jhs,e];simp only[evz,ll,hz,e1,i0,jay h1,jbK,sl,e2,ix,rg,co,rs,List.getElem?_cons_zero];rfl
def jmb(t:T):Bool:=jgE t || (decide (t.name=[61]) && jkq t)
theorem jtd(t:T)(ht:Tz t):G 42 [tm t]=some (vb (jmb t),[]):=by
 have e1:=jk6 t ht.wf ht;have e2:=jkf t;unfold jmb;rw[g42];cases hv:jgE t<;>rw[hv]at e1
 .by_cases he:t.name=[61]
  .have e3:=jkR t ht.wf ht he;rw[decide_eq_true he]at e2⊢;simp only[evz,e1,e2,e3,Bool.false_or,Bool.true_and]
  .simp only[evz,e1,e2,he,Bool.false_or,Bool.false_and]
 .simp only[evz,e1,e2,Bool.true_or]
def LH(rs:Xg):Prop:=∀r∈rs,okT (jhp r)=true/\jcE (jhp r).name=false
noncomputable def rwX(rs:Xg)(t:T):Option (T×Nat):=rwN rs (jgE t) 51 0 t
section
variable{rs:Xg}(hl:rs.length<=1048576)(hs:∀r∈rs,Tz r)
include hl hs
end
theorem jk5(s:Xb):jir (sv s)=true:=rfl
theorem jqv(k:Nat)(xs:Xc):jed (.sl k xs)=true:=rfl
theorem jtR(ts:Xg)(hl:ts.length<=1048576)(ih:∀t∈ts,jv2 (tm t)=some (.top,[sv t.name,.sl 66 (t.args.map jbL)])):jnt (tms ts)=some (.top,[.sl 66 (ts.map jbL)]):=by
 have key:=(upto (P:=λi=>jnd (tms ts) (vi i) (part jbL [sv [],.sl 2 []] ts i)=some (.top,[.sl 66 (ts.map jbL)])) (n:=ts.length) ?_ ?_ 0 (Nat.zero_le _))
 .rw [jy9];have hm:=jmI (b:=40) (n:=ts.length) (by omega) hl;simp only[Int.natCast_zero,<-jmJ]at key;simp only[evz,hm,key]
 .rw [jsF,jn8];simp only[evz]
 .intro i hi ih';have h1:=jlf (f:=jbL) (z:=[sv [],.sl 2 []]) (Nat.le_of_lt hi);have h2:pIx (part jbL [sv [],.sl 2 []] ts i).length (vi i)=some i:=jit (by omega);have h4:=joa (f:=jbL) (z:=[sv [],.sl 2 []]) hi;rw[jf3]at h4;have h5:=jeN hi (ZF hl (by decide));have e1:=ih ts[i] (jdM _);rw[jsF];simp only[evz,hi,Int.ofNat_lt,jay hi,jbK,e1,List.getElem?_cons_zero,jk5,h2,jn9 hi,jnh,h4,h5,ih']
theorem jvN(t:T)(ht:jnt (tms t.args)=some (.top,[.sl 66 (t.args.map jbL)])):jv2 (tm t)=some (.top,[sv t.name,.sl 66 (t.args.map jbL)]):=by
 rw[jAq];simp only[evz,ht]
theorem jw5(t:T):tsz t<=1048576->jnt (tms t.args)=some (.top,[.sl 66 (t.args.map jbL)]):=by
 refine T.ind (p:=λt=>tsz t<=1048576->jnt (tms t.args)=some (.top,[.sl 66 (t.args.map jbL)])) ?_ t;intro t ih h;rw[jhq]at h;exact jtR t.args (by omega) λu hu=>jvN u (ih u hu (by have:=jim hu;omega))
theorem jrd(t:T)(h:tsz t<=1048576):jot (sv t.name) (tms t.args)=some (.top,[sv t.name,.sl 66 (t.args.map jbL)]):=by
 have e1:=jw5 t h;rw[jAp];simp only[evz,e1]
theorem jvn(n:Int):Ys (.sl 1 [[vy n]])=some (sv [UInt8.ofNat n.toNat]):=rfl
theorem jrK(x:Int):jgm .rem false (vi x) (vi 10)=some (vi (x.tmod 10)):=rfl
theorem jrJ(x:Int):jgm .quo false (vi x) (vi 10)=ck (x.tdiv 10):=rfl
theorem jwQ(k:IntKind)(a:Int):jep .u8 (.val (.int k a))=some (vy (IntKind.u8.wrap a)):=rfl
theorem jyA(n:Int):ZO (vy n)=true:=rfl
theorem joB:∀(k:Nat)(out:Xb),out.length+k<=1000000000-> ∃s,jr8 (vi (k:Nat)) (sv out)=some (sv s,[]):=by
 intro k;induction k using Nat.strongRecOn with
 |ind k ih=>
  intro out hl;by_cases hk:(0:Int)<(k:Nat)
  .have h1:((k:Nat):Int).tdiv 10=((k / 10:Nat):Int):=by rw[Int.tdiv_eq_ediv_of_nonneg (by omega)];rfl
   have h2:((k:Nat):Int).tmod 10=((k % 10:Nat):Int):=by rw[Int.tmod_eq_emod_of_nonneg (by omega)];rfl
   have c1:ck ((k / 10:Nat):Int)=some (vi ((k / 10:Nat):Int)):=jht (by omega) (by omega);have c2:ck (48+((k % 10:Nat):Int))=some (vi (48+((k % 10:Nat):Int))):=jht (by omega) (by omega);generalize hc:UInt8.ofNat (IntKind.u8.wrap (48+((k % 10:Nat):Int))).toNat=c;have e1:jgm .add false (sv [c]) (sv out)=some (sv ([c]++out)):=by rw[jls,jc6 (by simp;omega)]
   obtain⟨s,hs⟩:=ih (k / 10) (by omega) ([c]++out) (by simp;omega)
   refine⟨s,?_⟩;rw[jxo];simp only[evz,hk,jrK,h2,c2,jwQ,jyA,jvn,hc,e1,jrJ,h1,c1,hs]
  .have e1:jgm .add false (sv [109]) (sv out)=some (sv ([109]++out)):=by rw[jls,jc6 (by simp;omega)]
   refine⟨[109]++out,?_⟩;rw[jxo];simp only[evz,hk,e1]
theorem jmV(k:Nat)(h:k<=1000000000):∃s,G 28 [vi (k:Nat)]=some (sv s,[]):=by
 rw[g28];by_cases hk:((k:Nat):Int)<=0
 .exact ⟨[109,48],by simp only[evz,hk]⟩
 .obtain ⟨s,hs⟩:=joB k [] (by simpa using h);exact⟨s,by simp only[evz,hk,hs]⟩
mutual
def mkN:T->Nat
 |.mk _ us=>1+mkL us
def mkL:Xg->Nat
 | []=>0
 |t::ts=>mkN t+mkL ts
end
theorem jn1(t:T):mkN t=1+mkL t.args:=by cases t;simp[mkN,T.args]
mutual
theorem jsM:∀t:T,mkN t<=1+tsz t
 |.mk n us=>by
  have:=jpI us;simp only[mkN,tsz];omega
theorem jpI:∀ts:Xg,mkL ts<=ts.length+jji ts
 | []=>by simp[mkL]
 |t::ts=>by
  have h1:=jsM t;have h2:=jpI ts;simp only[mkL,jji,zz];omega
end
theorem jlb:∀(r:Xg)(M:Xc)(k:Nat),k+mkL r<=100000000->M.length+r.length<=9223372036854775807->
  (∀t∈r,∀k:Nat,k+mkL t.args<=100000000-> ∃X,jkX (vi (k:Nat)) (t.args.map jbL)=some (.top,[vi ((k+mkL t.args:Nat):Int),.sl 66 X]))->
  ∃X,jl0 (vi (k:Nat)) (vi (M.length:Nat)) (M++r.map jbL)=some (.top,[vi ((k+mkL r:Nat):Int),.sl 66 X])
 | [],M,k,hk,hl,_=>by
  refine⟨M,?_⟩;rw[jnm,List.map_nil,KO];simp only[evz,mkL,zH]
 |t::r,M,k,hk,hl,ht=>by
  simp only[mkL,jn1,zz]at hk hl;have h1:((M.length:Nat):Int)<(((M++jbL t::r.map jbL).length:Nat):Int):=by simp;omega
  have h2:=jpR M (r.map jbL) (jbL t);have h3:=jnp M (r.map jbL) (jbL t);obtain⟨s,e0⟩:=jmV k (by omega);have h4:=jnq M (r.map jbL) (jbL t) [sv s,tms t.args];have h5:=jpR M (r.map jbL) [sv s,tms t.args];have h6:=jnp M (r.map jbL) [sv s,tms t.args];have e1:=jeN (i:=k) (n:=k+1) (by omega) (by omega);have e2:=jeN (i:=M.length) (n:=M.length+1) (by omega) (by omega);obtain⟨Y,e3⟩:=ht t (by simp) (k+1) (by omega);have h7:=jnq M (r.map jbL) [sv s,tms t.args] [sv s,.sl 2 Y];obtain⟨X,ih⟩:=jlb r (M++[[sv s,.sl 2 Y]]) (k+1+mkL t.args) (by omega) (by simp;omega) λu hu=>ht u (by simp[hu]);have q:(M++[[sv s,.sl 2 Y]]).length=M.length+1:=by simp
  have q2:M++[[sv s,.sl 2 Y]]++r.map jbL=M++[sv s,.sl 2 Y]::r.map jbL:=by simp
  rw[q,q2,show k+1+mkL t.args+mkL r=k+(1+mkL t.args+mkL r) by omega]at ih;have o1:Z4 (jbL t) 0 [sv s]=[sv s,tms t.args]:=by rw[jf3];rfl
  have o2:Z4 [sv s,tms t.args] 1 [.sl 2 Y]=[sv s,.sl 2 Y]:=rfl;have tv:jhk (jbL t) 0 1=true:=by rw[jf3];rfl
  refine⟨X,?_⟩;rw[jnm,ky,mkL,jn1];simp only[evz,h1,e0,h2,h3,jk5,tv,o1,h4,h5,h6,jqv,e1,e3,List.getElem?_cons_zero,o2,h7,e2,ih]
theorem jqF(t:T):twf t-> ∀k:Nat,k+mkL t.args<=100000000-> ∃X,jkX (vi (k:Nat)) (t.args.map jbL)=some (.top,[vi ((k+mkL t.args:Nat):Int),.sl 66 X]):=by
 refine T.ind (p:=λt=>twf t-> ∀k:Nat,k+mkL t.args<=100000000-> ∃X,jkX (vi (k:Nat)) (t.args.map jbL)=some (.top,[vi ((k+mkL t.args:Nat):Int),.sl 66 X])) ?_ t;intro t ih hw k hk;obtain⟨_,w2,w3⟩:=(jgC t).1 hw;have w3:=(jfY _).1 w3;obtain⟨X,h⟩:=jlb t.args [] k hk (by simpa using w2) λu hu=>ih u hu (w3 u hu);refine⟨X,?_⟩;rw[jxb];exact h
def HL:Nat->Xg->Nat->Prop
 |k,[],k'=>k'=k
 |k,u::us,k'=>∃k1:Nat,G 28 [vi (k:Nat)]=some (sv u.name,[])/\G 12 [tms u.args,vi ((k+1:Nat):Int)]=some (vi (k1:Nat),[])/\k<k1/\HL k1 us k'
theorem jt1:∀(r:Xg)(k k':Nat),HL k r k'->k<=k'
 | [],k,k',h=>by have h:k'=k:=h;omega
 |u::r,k,k',⟨k1,_,_,g3,g4⟩=>by have:=jt1 r k1 k' g4;omega
theorem joO:∀(r:Xg)(M:Xg)(k k':Nat),k'<=100000000->M.length+r.length<=9223372036854775807->k<=k'->HL k r k'->jr2 (tms (M++r)) (vi (k:Nat)) (vi (M.length:Nat))=some (vi (k':Nat),[])
 | [],M,k,k',_,_,_,h=>by
  have h:k'=k:=h;subst h;rw[jxg,KO];simp only[evz]
 |u::r,M,k,k',hk,hl,hkk,⟨k1,g1,g2,g3,g4⟩=>by
  have h1:((M.length:Nat):Int)<(((M++u::r).length:Nat):Int):=jmE M r u;have h2:zP 2 (tms (M++u::r)) (vi (M.length:Nat))=some (.elt (jbL u) 0):=jmh (f:=jbL) (k:=2) M r u;have hle:k1<=k':=jt1 r k1 k' g4;have e1:=jeN (i:=k) (n:=k+1) (by omega) (by omega);have h5:=jeN (i:=M.length) (n:=(M++u::r).length) (by simp) (by simp;simp at hl;omega);have ih:=joO r (M++[u]) k1 k' hk (by simp at hl⊢;omega) hle g4;have q:(M++[u]).length=M.length+1:=by simp
  rw[q,JP,List.singleton_append]at ih;have ad:jgl (.elt (jbL u) 0) 1=some (.elt (jbL u) 1):=by rw[jn6]
  have ad0:jgl (.elt (jbL u) 0) 0=some (.elt (jbL u) 0):=by rw[jn6]
  have lp:jb7 (.elt (jbL u) 1)=some (tms u.args):=by rw[jf3];rfl
  have lp0:jb7 (.elt (jbL u) 0)=some (sv u.name):=by rw[jf3];rfl
  have nk:¬((k1:Nat):Int)<0:=by omega
  rw[jxg];simp only[evz,h1,h2,ad,ad0,lp,lp0,g1,e1,g2,nk,h5,ih]
theorem jwx(us:Xg)(k k':Nat)(hk:k'<=100000000)(hl:us.length<=9223372036854775807)(h:HL k us k'):G 12 [tms us,vi (k:Nat)]=some (vi (k':Nat),[]):=by
 have:=joO us [] k k' hk (by simpa using hl) (jt1 us k k' h) h;rw[g12];exact this
theorem jlH:∀(r:Xg)(M:Xc)(k:Nat),k+mkL r<=100000000->M.length+r.length<=9223372036854775807->
  (∀t∈r,∀k:Nat,k+mkL t.args<=100000000-> ∃us:Xg,jkX (vi (k:Nat)) (t.args.map jbL)=some (.top,[vi ((k+mkL t.args:Nat):Int),.sl 66 (us.map jbL)])/\G 12 [tms us,vi (k:Nat)]=some (vi ((k+mkL t.args:Nat):Int),[]))->
  ∃us:Xg,us.length=r.length/\HL k us (k+mkL r)/\jl0 (vi (k:Nat)) (vi (M.length:Nat)) (M++r.map jbL)=some (.top,[vi ((k+mkL r:Nat):Int),.sl 66 (M++us.map jbL)])
 | [],M,k,hk,hl,_=>by
  refine⟨[],rfl,rfl,?_⟩;rw[jnm,List.map_nil,KO];simp only[evz,mkL,zH]
 |t::r,M,k,hk,hl,ht=>by
  simp only[mkL,jn1,zz]at hk hl;have h1:((M.length:Nat):Int)<(((M++jbL t::r.map jbL).length:Nat):Int):=by simp;omega
  have h2:=jpR M (r.map jbL) (jbL t);have h3:=jnp M (r.map jbL) (jbL t);obtain⟨s,e0⟩:=jmV k (by omega);have h4:=jnq M (r.map jbL) (jbL t) [sv s,tms t.args];have h5:=jpR M (r.map jbL) [sv s,tms t.args];have h6:=jnp M (r.map jbL) [sv s,tms t.args];have e1:=jeN (i:=k) (n:=k+1) (by omega) (by omega);have e2:=jeN (i:=M.length) (n:=M.length+1) (by omega) (by omega);obtain⟨vs,e3,e4⟩:=ht t (by simp) (k+1) (by omega);have h7:=jnq M (r.map jbL) [sv s,tms t.args] [sv s,tms vs];obtain⟨us,l1,l2,ih⟩:=jlH r (M++[[sv s,tms vs]]) (k+1+mkL t.args) (by omega) (by simp;omega) λu hu=>ht u (by simp[hu]);have q:(M++[[sv s,tms vs]]).length=M.length+1:=by simp
  have q2:M++[[sv s,tms vs]]++r.map jbL=M++[sv s,tms vs]::r.map jbL:=by simp
  have q3:M++[[sv s,tms vs]]++us.map jbL=M++(T.mk s vs::us).map jbL:=by rw[ky,jf3 (.mk s vs),JP];rfl
  have e4:G 12 [tms vs,vi ((k+1:Nat):Int)]=some (vi ((k+1+mkL t.args:Nat):Int),[]):=e4;have hHL:HL k (T.mk s vs::us) (k+(1+mkL t.args+mkL r)):=⟨k+1+mkL t.args,e0,e4,by omega,by rw[show k+(1+mkL t.args+mkL r)=k+1+mkL t.args+mkL r by omega];exact l2⟩;rw[q,q2,q3,show k+1+mkL t.args+mkL r=k+(1+mkL t.args+mkL r) by omega]at ih;have o1:Z4 (jbL t) 0 [sv s]=[sv s,tms t.args]:=by rw[jf3];rfl
  have o2:Z4 [sv s,tms t.args] 1 [tms vs]=[sv s,tms vs]:=rfl;have tv:jhk (jbL t) 0 1=true:=by rw[jf3];rfl
  refine⟨T.mk s vs::us,by simp[l1],by rw[mkL,jn1];exact hHL,?_⟩
  rw[jnm,ky,mkL,jn1];simp only[evz,h1,e0,h2,h3,jk5,tv,o1,h4,h5,h6,jqv,e1,e3,List.getElem?_cons_zero,o2,h7,e2,ih]
theorem ju6(t:T):twf t-> ∀k:Nat,k+mkL t.args<=100000000-> ∃us:Xg,jkX (vi (k:Nat)) (t.args.map jbL)=some (.top,[vi ((k+mkL t.args:Nat):Int),.sl 66 (us.map jbL)])/\G 12 [tms us,vi (k:Nat)]=some (vi ((k+mkL t.args:Nat):Int),[]):=by
 refine T.ind (p:=λt=>twf t-> ∀k:Nat,k+mkL t.args<=100000000-> ∃us:Xg,jkX (vi (k:Nat)) (t.args.map jbL)=some (.top,[vi ((k+mkL t.args:Nat):Int),.sl 66 (us.map jbL)])/\G 12 [tms us,vi (k:Nat)]=some (vi ((k+mkL t.args:Nat):Int),[])) ?_ t;intro t ih hw k hk;obtain⟨_,w2,w3⟩:=(jgC t).1 hw;have w3:=(jfY _).1 w3;obtain⟨us,l1,l2,h⟩:=jlH t.args [] k hk (by simpa using w2) λu hu=>ih u hu (w3 u hu);refine⟨us,?_,jwx us k _ hk (by rw[l1];exact w2) l2⟩;rw[jxb];exact h
end Go.Proofs.YtocncngbocomhaaGreatDoor
