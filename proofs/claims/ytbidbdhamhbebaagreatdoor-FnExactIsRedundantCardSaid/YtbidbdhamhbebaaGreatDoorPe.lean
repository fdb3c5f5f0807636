/- Pe -/
import Derived.Test.YtbidbdhamhbebaaGreatDoorPd
import Derived.Test.YtbidbdhamhbebaaGreatDoorPq
namespace Go.Proofs.YtbidbdhamhbebaaGreatDoor
open Go Go.RowKit Go.Proofs.YtbidbdhamhbebaaGreatDoor.Abs
set_option linter.unusedSimpArgs false
set_option linter.unusedVariables false
set_option maxHeartbeats 1000000
theorem joc (x y:List UInt8):(yQ x y || decide (x=y))=!yQ y x:=by
 rw [Y8,Y8];by_cases h1:x < y
 .rw [jR h1,kx (λh2=>jl8 _ (jl9 h1 h2))];rfl
 .by_cases h2:x=y
  .subst h2;rw [kx h1,jR rfl];rfl
  .rw [kx h1,kx h2,jR (jzD h1 h2)];rfl
theorem jv9 (b:Bool) (x y:List UInt8):jz .leq b (sv x) (sv y)=some (vb (!yQ y x)):=by rw [<-joc];rfl
theorem jv8 (b:Bool) (x y:List UInt8):jz .geq b (sv x) (sv y)=some (vb (!yQ x y)):=rfl
def jc1:Option (List UInt8)->js->Bool
 | _,[]=>true
 | none,q::r=>jp q.1 && (kY q.2 && (!decide (q.2.name=q.1) && jc1 (some q.1) r))
 | some m,q::r=>yQ m q.1 && (jp q.1 && (kY q.2 && (!decide (q.2.name=q.1) && jc1 (some q.1) r)))
def okB (q:List UInt8 × T):Bool:=jp q.1 && (kY q.2 && !decide (q.2.name=q.1))
theorem jlY:∀(s:js) (m:List UInt8) (t:T),jc1 (some m) s=(jo4 ((m,t)::s) && s.all okB)
 | [],m,t=>rfl
 | q::r,m,t=>by
  rw [jc1,jlY r q.1 q.2,jo4,yC,okB];cases yQ m q.1<;>cases jp q.1<;>cases kY q.2<;>cases decide (q.2.name=q.1)<;>simp
theorem jlX (s:js):(jc1 none s && decide (s.length<=12))=jN s:=by
 have hd:∀q:List UInt8 × T,dq q.2.name q.1=decide (q.2.name=q.1):=λq=>by
  by_cases h:q.2.name=q.1
  .rw [Jr.2 h,jR h]
  .rw [jiu.2 h,kx h]
 have ha:s.all (λq=>jp q.1 && (kY q.2 && !dq q.2.name q.1))=s.all okB:=by
  unfold okB;congr 1;funext q;rw [hd]
 unfold jN;rw [ha];cases s with
 | nil=>rfl
 | cons q r=>
  rw [jc1,jlY r q.1 q.2,yC];unfold okB;cases jp q.1<;>cases kY q.2<;>cases decide (q.2.name=q.1)<;>simp [Bool.and_comm]
def SzB (s:js):Prop:=s.length<=1000000/\ ∀q∈s,q.1.length<=1000000/\Tz q.2
theorem SzB.sz {s:js} (h:SzB s):Sz 1048576 s:=⟨by have:=h.1;omega,λq hq=>⟨by have:=(h.2 q hq).1;omega,(h.2 q hq).2⟩⟩
theorem yM {s:js} (h:jN s=true):SzB s:=by
 obtain ⟨h1,_,h3⟩:=j5 h;refine ⟨by omega,λq hq=>⟨?_,?_⟩⟩
 .have:=jfe (h3 q hq).1;omega
 .have:=jdM q.2 (jcY (h3 q hq).2.1);have:=Yy h q hq;unfold Tz;omega
theorem Z8 (q:List UInt8 × T):ke 3 (.elt (bc q) 0)=some (.agg [sv q.1,sv q.2.name,jQ q.2.args]):=rfl
theorem jl1 (s:js) (hs:SzB s):G 248 [sb s]=some (vb (jN s),[]):=by
 have hl:=hs.1;have key:=upto (P:=λi=>∀p:Option (List UInt8),(p=none↔i=0)->(∀m,p=some m-> ∃h:i - 1 < s.length,s[i - 1].1=m)->jmS (ZK s) (vi (s.length:Nat)) (vi (i:Nat)) (ZK s)=some (vb (jc1 p (s.drop i) && decide (s.length<=12)),[])) (n:=s.length) ?_ ?_ 0 (jE _) none (by simp) (λm h=>by cases h)
 .simp only [jP,kj] at key;rw [jlX] at key;rw [jJW];simp only [je,key]
 .intro p _ _;have e:decide (((s.length:Nat):Int)<=12)=decide (s.length<=12):=by congr 1;exact propext (by omega)
  have:jc1 p []=true:=by cases p<;>rfl
  rw [jzh,j4,this,jI,<-e];simp only [je]
 .intro i hi ih p hp hq;have hlt:(i:Int) < ((s.length:Nat):Int):=by omega
  have h5:=jq hi (by show s.length<=9223372036854775807;omega)
  have hm:=hs.2 _ (jr hi);have e1:=jda s[i].1 (by show s[i].1.length<=9223372036854775807;omega);have e2:=jb4 s[i].2 hm.2.wf hm.2;have ih:=ih (some s[i].1) (by simp) (λm h=>by cases h;exact ⟨by simpa using hi,rfl⟩);rw [jzh,ji hi];have e3:decide (s[i].2.name=s[i].1)=decide (s[i].2.name=s[i].1):=rfl;generalize hn:decide (s[i].2.name=s[i].1)=nn at *;have e4:jz .eql false (sv s[i].2.name) (sv s[i].1)=some (vb nn):=by rw [jf1,hn]
  generalize hv:jc1 (some s[i].1) (s.drop (i+1))=vv at *;cases p with
  | none=>
   have h0:¬(0:Int) < (i:Int):=by have:=hp.1 rfl;omega
   rw [jc1,hn,hv];cases hb:jp s[i].1<;>rw [hb] at e1
   .simp only [je,hlt,jb hi,Z8,e1,jH]
   cases hk:kY s[i].2<;>rw [hk] at e2
   .simp only [je,hlt,jb hi,Z8,e1,e2,h0,jH,jI]
   cases nn
   .simp only [je,hlt,jb hi,Z8,e1,e2,h0,e4,h5,ih,jI]
   .simp only [je,hlt,jb hi,Z8,e1,e2,h0,e4,jH,jI]
  | some m=>
   obtain ⟨hq1,rfl⟩:=hq m rfl;have h0:(0:Int) < (i:Int):=by
    have:¬i=0:=λh=>by have:=hp.2 h;cases this
    omega
   have c1:ck ((i:Int) - 1)=some (vi ((i - 1:Nat):Int)):=by rw [show (i:Int) - 1=((i - 1:Nat):Int) by omega];exact j8 (by omega) (by omega)
   have e5:=jv9 false s[i].1 s[i - 1].1;rw [jc1,hn,hv];cases hb:jp s[i].1<;>rw [hb] at e1
   .rw [jH,z8];simp only [je,hlt,jb hi,Z8,e1,jH]
   cases hc:yQ s[i - 1].1 s[i].1<;>rw [hc] at e5
   .simp only [je,hlt,jb hi,jb hq1,Z8,qw,yx,e1,h0,c1,e5,jH]
   cases hk:kY s[i].2<;>rw [hk] at e2
   .simp only [je,hlt,jb hi,jb hq1,Z8,qw,yx,e1,h0,c1,e5,e2,jH,jI]
   cases nn
   .simp only [je,hlt,jb hi,jb hq1,Z8,qw,yx,e1,h0,c1,e5,e2,e4,h5,ih,jI]
   .simp only [je,hlt,jb hi,jb hq1,Z8,qw,yx,e1,h0,c1,e5,e2,e4,jH,jI]
theorem jcW (s:js) (hs:SzB s):G 235 [sb s]=some (vb (jN s),[]):=by
 have hl:=hs.1;have key:=upto (P:=λi=>∀p:Option (List UInt8),(p=none↔i=0)->(∀m,p=some m-> ∃h:i - 1 < s.length,s[i - 1].1=m)->jmQ (vi (i:Nat)) (ZK s)=some (vb (jc1 p (s.drop i) && decide (s.length<=12)),[])) (n:=s.length) ?_ ?_ 0 (jE _) none (by simp) (λm h=>by cases h)
 .simp only [jP,kj] at key;rw [jlX] at key;rw [jJL];simp only [je,key]
 .intro p _ _;have e:decide (((s.length:Nat):Int)<=12)=decide (s.length<=12):=by congr 1;exact propext (by omega)
  have:jc1 p []=true:=by cases p<;>rfl
  rw [jzd,j4,this,jI,<-e];simp only [je]
 .intro i hi ih p hp hq;have hlt:(i:Int) < ((s.length:Nat):Int):=by omega
  have h5:=jq hi (by show s.length<=9223372036854775807;omega)
  have hm:=hs.2 _ (jr hi);have e1:=zE s[i].1 (by show s[i].1.length<=9223372036854775807;omega);have e2:=Zn s[i].2 hm.2.wf hm.2;have ih:=ih (some s[i].1) (by simp) (λm h=>by cases h;exact ⟨by simpa using hi,rfl⟩);rw [jzd,ji hi];generalize hn:decide (s[i].2.name=s[i].1)=nn at *;have e4:jz .eql false (sv s[i].2.name) (sv s[i].1)=some (vb nn):=by rw [jf1,hn]
  generalize hv:jc1 (some s[i].1) (s.drop (i+1))=vv at *;cases p with
  | none=>
   have h0:¬(0:Int) < (i:Int):=by have:=hp.1 rfl;omega
   rw [jc1,hn,hv];cases hb:jp s[i].1<;>rw [hb] at e1
   .simp only [je,hlt,jb hi,Z8,e1,jH]
   cases hk:kY s[i].2<;>rw [hk] at e2
   .simp only [je,hlt,jb hi,Z8,e1,e2,h0,jH,jI]
   cases nn
   .simp only [je,hlt,jb hi,Z8,e1,e2,h0,e4,h5,ih,jI]
   .simp only [je,hlt,jb hi,Z8,e1,e2,h0,e4,jH,jI]
  | some m=>
   obtain ⟨hq1,rfl⟩:=hq m rfl;have h0:(0:Int) < (i:Int):=by
    have:¬i=0:=λh=>by have:=hp.2 h;cases this
    omega
   have c1:ck ((i:Int) - 1)=some (vi ((i - 1:Nat):Int)):=by rw [show (i:Int) - 1=((i - 1:Nat):Int) by omega];exact j8 (by omega) (by omega)
   have e5:=jv8 false s[i - 1].1 s[i].1;rw [jc1,hn,hv];cases hb:jp s[i].1<;>rw [hb] at e1
   .rw [jH,z8];simp only [je,hlt,jb hi,Z8,e1,jH]
   cases hk:kY s[i].2<;>rw [hk] at e2
   .rw [jH,z8,z8];simp only [je,hlt,jb hi,jb hq1,Z8,qw,yx,e1,e2,jH,jI]
   cases nn
   .cases hc:yQ s[i - 1].1 s[i].1<;>rw [hc] at e5
    .simp only [je,hlt,jb hi,jb hq1,Z8,qw,yx,e1,h0,c1,e5,e2,e4,jH]
    .simp only [je,hlt,jb hi,jb hq1,Z8,qw,yx,e1,h0,c1,e5,e2,e4,h5,ih,jI]
   .rw [jdk,jH,z8,z8,z8];simp only [je,hlt,jb hi,jb hq1,Z8,qw,yx,e1,h0,c1,e5,e2,e4,jH,jI]
theorem js3 {α:Type} {R:α->α->Prop} (irr:∀a,¬R a a) (asy:∀a b,R a b-> ¬R b a):∀ {l m:List α},l.Pairwise R->m.Pairwise R->(∀x,x∈l↔x∈m)->l=m
 | [],[],_,_,_=>rfl
 | [],b::m,_,_,hx=>absurd ((hx b).2 (by simp)) (by simp)
 | a::l,[],_,_,hx=>absurd ((hx a).1 (by simp)) (by simp)
 | a::l,b::m,h1,h2,hx=>by
  obtain ⟨g1,g2⟩:=J4.1 h1;obtain ⟨k1,k2⟩:=J4.1 h2;have hab:a=b:=by
   rcases j7.1 ((hx a).1 (by simp)) with e|e
   .exact e
   rcases j7.1 ((hx b).2 (by simp)) with e'|e'
   .exact e'.symm
   .exact (asy _ _ (k1 a e) (g1 b e')).elim
  subst hab;have:l=m:=js3 irr asy g2 k2 λx=>by
   constructor
   .intro hxl;rcases j7.1 ((hx x).1 (by simp [hxl])) with e|e
    .exact (irr x (e ▸ g1 x hxl)).elim
    .exact e
   .intro hxm;rcases j7.1 ((hx x).2 (by simp [hxm])) with e|e
    .exact (irr x (e ▸ k1 x hxm)).elim
    .exact e
  rw [this]
theorem jar {x y z:List UInt8} (h1:yQ x y=true) (h2:yQ y z=true):yQ x z=true:=by
 rw [Y8,kG] at *;exact jl9 h1 h2
theorem jnc:∀ {s:js},jo4 s=true->s.Pairwise λp q=>yQ p.1 q.1=true
 | [],_=>List.Pairwise.nil
 | [p],_=>by simp
 | p::q::s,h=>by
  rw [jo4,ju] at h;have ih:=jnc h.2;refine J4.2 ⟨λx hx=> ?_,ih⟩;rcases j7.1 hx with e|e
  .rw [e];exact h.1
  .exact jar h.1 ((J4.1 ih).1 x e)
theorem jG4 {m:Nat} (h:m<=2000000):Jk .u64 (vi (m:Nat))=some (.val (.int .u64 (m:Nat))):=by
 show some (A.val (.int .u64 (IntKind.u64.wrap (m:Nat))))=_;have:IntKind.u64.wrap ((m:Nat):Int)=(m:Nat):=by
  unfold IntKind.wrap;simp [IntKind.bits,IntKind.signed];omega
 rw [this]
theorem jG5 {m:Nat} (h:m<=2000000):jz .shr false (.val (.int .u64 (m:Nat))) (.val (.int .u64 1))=some (.val (.int .u64 ((m / 2:Nat):Int))):=by
 show some (A.val (.int .u64 (((m:Nat):Int).fdiv (2 ^ min 1 64))))=_;rw [Int.fdiv_eq_ediv_of_nonneg _ (by decide)];rfl
theorem jG6 {m:Nat} (h:m<=2000000):Jk .i64 (.val (.int .u64 (m:Nat)))=some (vi (m:Nat)):=j8 (by omega) (by omega)
theorem jt7 (x y:List UInt8):zI x y < 0↔yQ x y=true:=by
 unfold zI;cases h:yQ x y with
 | true=>simp
 | false=>
  rw [jo kh];split<;>simp
theorem jru (q:List UInt8 × T) (n:List UInt8):G 273 [.agg (bc q),sv n]=some (vi (zI q.1 n),[]):=by
 have e:=jbT q.1 n;rw [jKd];simp only [je,e]
theorem jgS {s:js} (hs:s.Pairwise λp q=>yQ p.1 q.1=true) {n:List UInt8} {i:Nat} (h1:∀k,(h:k < s.length)->k < i->yQ s[k].1 n=true) (h2:∀k,(h:k < s.length)->i<=k->yQ s[k].1 n=false):look s n=if h:i < s.length then (if s[i].1=n then some s[i].2 else none) else none:=by
 have hne:∀k,(h:k < s.length)->k≠i->s[k].1≠n:=λk h hk e=>by
  rcases jfj k i with hl|hl
  .have:=h1 k h hl;rw [e,ja3] at this;cases this
  .have hi:i < k:=by omega
   have:=(jma.1 hs) i k (by omega) h hi;rw [e] at this;rw [h2 i (by omega) (kD _)] at this;cases this
 split
 .rename_i hi;split
  .rename_i he;have hm:(n,s[i].2)∈s:=by rw [<-he];exact jr hi
   cases hl:look s n with
   | none=>exact (qa.1 hl _ hm rfl).elim
   | some r=>
    obtain ⟨k,hk,e⟩:=jkl.1 (qV hl);have:k=i:=Classical.byContradiction λh=>hne k hk h (by rw [e]);subst this;rw [e]
  .rename_i he;refine qa.2 λp hp=> ?_;obtain ⟨k,hk,rfl⟩:=jkl.1 hp;by_cases h:k=i
   .subst h;exact he
   .exact hne k hk h
 .rename_i hi;refine qa.2 λp hp=> ?_;obtain ⟨k,hk,rfl⟩:=jkl.1 hp;exact hne k hk (by omega)
theorem jrh (s:js) (hl:s.length<=1000000) (hs:s.Pairwise λp q=>yQ p.1 q.1=true) (n:List UInt8):∀(d i j:Nat),j - i<=d->i<=j->j<=s.length->(∀k,(h:k < s.length)->k < i->yQ s[k].1 n=true)->(∀k,(h:k < s.length)->j<=k->yQ s[k].1 n=false)->
  ∃(i':Nat) (b:Bool),jie (ZK s) (sv n) (.fn 273 []) (vi (s.length:Nat)) (vi (i:Nat)) (vi (j:Nat))=some (.tup [vi (i':Nat),vb b],[])/\look s n=(if h:i' < s.length then (if b then some s[i'].2 else none) else none)/\(b=true->i' < s.length):=by
 intro d;induction d with
 | zero=>
  intro i j hd hij hj h1 h2;have hij:i=j:=by omega
  subst hij;have hlt:¬(i:Int) < (i:Int):=by omega
  have hp:K.pureF 273=true:=rfl;rw [jzs];by_cases hi:i < s.length
  .have hi':(i:Int) < ((s.length:Nat):Int):=by omega
   have cc:DX.run K (MM K) (.callc (.fn 273 []) [.agg (bc s[i]),sv n] false)=some (vi (zI s[i].1 n)):=by
    rw [qt hp,y8,jru];rfl
   refine ⟨i,decide (s[i].1=n),?_,?_,λ_=>hi⟩
   .have hz:decide (zI s[i].1 n=0)=decide (s[i].1=n):=jkm.2 (ZO.zero _ _);rw [<-hz];simp only [je,hlt,hi',jb hi,Z8,cc]
   .rw [jgS hs h1 h2,dif_pos hi,dif_pos hi];by_cases he:s[i].1=n
    .rw [jl he,jR he,jl rfl]
    .rw [jo he,kx he,jo kh]
  .have hi':¬(i:Int) < ((s.length:Nat):Int):=by omega
   refine ⟨i,false,?_,?_,λh=>by cases h⟩
   .simp only [je,hlt,hi']
   .rw [jgS hs h1 h2,dif_neg hi,dif_neg hi]
 | succ d ih=>
  intro i j hd hij hj h1 h2;by_cases hlt0:i < j;rotate_left
  .exact ih i j (by omega) hij hj h1 h2
  have hlt:(i:Int) < (j:Int):=by omega
  have hp:K.pureF 273=true:=rfl;have hm:(i+j) / 2 < s.length:=by omega
  have c0:ck ((i:Int)+(j:Int))=some (vi ((i+j:Nat):Int)):=j8 (by omega) (by omega);have c1:=jG4 (m:=i+j) (by omega);have c2:=jG5 (m:=i+j) (by omega);have c3:=jG6 (m:=(i+j) / 2) (by omega);have cc:DX.run K (MM K) (.callc (.fn 273 []) [.agg (bc s[(i+j) / 2]),sv n] false)=some (vi (zI s[(i+j) / 2].1 n)):=by
   rw [qt hp,y8,jru];rfl
  have ix:=jb (k:=3) (f:=bc) hm;have hpw:=jma.1 hs;rw [jzs];have hc:=jt7 s[(i+j) / 2].1 n;generalize hg:zI s[(i+j) / 2].1 n=c at *;generalize hme:(i+j) / 2=m at *;by_cases hneg:c < 0
  .have hs1:=hc.1 hneg;have h5:ck ((m:Int)+1)=some (vi ((m+1:Nat):Int)):=j8 (by omega) (by omega);have:=ih (m+1) j (by omega) (by omega) hj (λk hk hk2=>by
    by_cases e:k=m
    .subst e;exact hs1
    .exact jar (hpw k m hk hm (by omega)) hs1) h2
   obtain ⟨i',b,e1,e2⟩:=this;exact ⟨i',b,by simp only [je,hlt,c0,c1,c2,c3,ix,Z8,cc,hneg,h5];exact e1,e2⟩
  .have hs1:yQ s[m].1 n=false:=by
    cases h:yQ s[m].1 n with
    | false=>rfl
    | true=>exact (hneg (hc.2 h)).elim
   have:=ih i m (by omega) (by omega) (by omega) h1 (λk hk hk2=>by
    by_cases e:k=m
    .subst e;exact hs1
    .cases h:yQ s[k].1 n with
     | false=>rfl
     | true=>rw [jar (hpw m k hm hk (by omega)) h] at hs1;cases hs1)
   obtain ⟨i',b,e1,e2⟩:=this;exact ⟨i',b,by simp only [je,hlt,c0,c1,c2,c3,ix,Z8,cc,hneg];exact e1,e2⟩
def outT (o:Option T):Option Out:=match o with|some t=>some (.tup [tm t,vb true],[])|none=>some (.tup [.agg [sv [],.sl 2 []],vb false],[])
theorem jjU (s:js) (hs:jN s=true) (n:List UInt8):G 249 [sb s,sv n]=outT (look s n):=by
 have hl:=(j5 hs).1;obtain ⟨i,b,e1,e2,e3⟩:=jrh s (by omega) (jnc (j5 hs).2.1) n s.length 0 s.length (by omega) (jE _) (kD _) (λk _ h=>by omega) (λk h1 h2=>by omega);simp only [jP] at e1;have e4:G 272 [ZK s,sv n,.fn 273 []]=some (.tup [vi (i:Nat),vb b],[]):=by
  rw [jKc];simp only [je,e1]
 rw [jJX,e2];cases b with
 | false=>
  have:(if h:i < s.length then (if false=true then some s[i].2 else none) else none)=(none:Option T):=by split<;>simp
  rw [this];simp only [je,e4];rfl
 | true=>
  have hi:=e3 rfl;rw [dif_pos hi,jl rfl];simp only [je,e4,jb hi,qw,YZ];rfl
theorem jkU (s:js) (hs:jN s=true):∀t:T,Rx' t->Tz t->G 222 [sb s,tm t]=some (tm (sub s t),[]):=by
 refine T.ind λt ih hk ht=> ?_;have hz:=ht;unfold Tz at hz;rw [kW] at hz;rw [jJD];by_cases ha:t.args = []
 .have e1:=jjU s hs t.name;have h0:zg (jQ t.args)=some (vi 0):=by rw [ha];rfl
  cases hl:look s t.name with
  | some r=>
   rw [hl] at e1;have e1:G 249 [sb s,sv t.name]=some (.tup [tm r,vb true],[]):=e1;have hv:jp t.name=true:=((j5 hs).2.2 _ (qV hl)).1;have e2:=Jy r ((yM hs).2 _ (qV hl)).2;have:sub s t=r:=by rw [K0 hv,jbC,hl];rfl
   rw [this];simp only [je,h0,e1,e2]
  | none=>
   rw [hl] at e1;have e1:G 249 [sb s,sv t.name]=some (.tup [.agg [sv [],.sl 2 []],vb false],[]):=e1;have:sub s t = .mk t.name []:=by
    cases hv:jp t.name with
    | true=>rw [K0 hv,jbC,hl];rfl
    | false=>rw [JY hv,ha];rfl
   rw [this];simp only [je,h0,e1];rfl
 .have hv:jp t.name=false:=by
   cases hv:jp t.name with
   | false=>rfl
   | true=>exact (ha (hk.va hv)).elim
  have hpos:0 < t.args.length:=by
   cases h:t.args with
   | nil=>exact (ha h).elim
   | cons _ _=>simp
  have h0:¬((t.args.length:Nat):Int)=0:=by omega
  rw [JY hv];generalize hus:t.args.map (sub s)=us at *;have hul:us.length=t.args.length:=by rw [<-hus,jK]
  have hm:=JV (b:=40) (n:=t.args.length) (by omega) (by omega);have hz0:(0:Int) < ((t.args.length:Nat):Int):=by omega
  have step:∀i,(hi:i < t.args.length)->G 222 [sb s,tm t.args[i]]=some (tm (us[i]'(by omega)),[]):=λi hi=>by
   rw [ih t.args[i] (jr _) (hk.args _ (jr _)) (ht.args _ (jr _))];simp only [<-hus,jdj]
  have stepR:∀i,(hi:i < t.args.length)->Q4 (part jm [sv [],.sl 2 []] us i).length (vi (i:Nat))=some i/\jga (part jm [sv [],.sl 2 []] us i) i=some [sv [],.sl 2 []]/\K9 (part jm [sv [],.sl 2 []] us i) i [sv (us[i]'(by omega)).name,jQ (us[i]'(by omega)).args]=part jm [sv [],.sl 2 []] us (i+1):=λi hi=>by
   have h4:=Y2 (f:=jm) (z:=[sv [],.sl 2 []]) (xs:=us) (i:=i) (by omega);rw [zq] at h4;refine ⟨yj (by rw [JD (by omega)];omega),Y1 (by omega),h4⟩
  have key:=(upto (P:=λi=>1<=i->jr8 (jQ t.args) (vi (t.args.length:Nat)) (vi (i:Nat)) (ZK s) (sv []) (sv t.name) [] (part jm [sv [],.sl 2 []] us i)=some (tm (.mk t.name us),[])) (n:=t.args.length) ?_ ?_ 1 hpos (kD _));rotate_left
  .intro _;rw [jy4,<-hul,Y0];simp only [je];rfl
  .intro i hi ih' _;have hlt:(i:Int) < ((t.args.length:Nat):Int):=by omega
   have h5:=jq hi (by show t.args.length<=9223372036854775807;omega)
   have e2:=step i hi;obtain ⟨h2,h3,h4⟩:=stepR i hi;have ih':=ih' (by omega);rw [jy4];simp only [je,hlt,jb hi,jf,e2,h2,h3,jhu,h4,h5,ih']
  have e2:=step 0 hpos;obtain ⟨h2,h3,h4⟩:=stepR 0 hpos;rw [<-Zw] at h2 h3 h4;simp only [jP,Jg] at h2 h4 key;have ix:=jb (k:=2) (f:=jm) hpos;simp only [jP] at ix;have h5:ck (0+1)=some (vi ((1:Nat):Int)):=j8 (n:=0+1) (by omega) (by omega);have first:jr7 (jQ t.args) (vi (t.args.length:Nat)) (vi 0) (ZK s) (sv []) (sv t.name) (Jp us.length [sv [],.sl 2 []]) []=some (tm (.mk t.name us),[]):=by
   rw [jFr];simp only [je,hz0,ix,jf,e2,h2,h3,jhu,h4,h5,key]
  rw [hul] at first
  simp only [je,h0,hm,first]
theorem jFW (s:js):∀t:T,Rx' t->nodes t<=nodes (sub s t)/\Yf t<=Yf (sub s t):=by
 refine T.ind λt ih hk=> ?_;cases hv:jp t.name with
 | true=>
  have ha:=hk.va hv;rw [jU t,Zi t,ha];have:=qH (sub s t);have:=Zi (sub s t);simp only [jx,QQ];omega
 | false=>
  have hL:∀us:List T,(∀u∈us,nodes u<=nodes (sub s u)/\Yf u<=Yf (sub s u))->jx us<=jx (us.map (sub s))/\QQ us<=QQ (us.map (sub s)):=by
   intro us;induction us with
   | nil=>intro _;exact ⟨kD _,kD _⟩
   | cons v vs ih2=>
    intro h;have h1:=h v (by simp);have h2:=ih2 λw hw=>h w (by simp [hw]);simp only [yH,jx,QQ];omega
  have:=hL t.args λu hu=>ih u hu (hk.args u hu);rw [jU t,Zi t,jU (sub s t),Zi (sub s t),je9 hv];omega
def KO (t:T):Prop:=yv t=true\/(t.name = [61]/\t.args.length=2/\ ∀u∈t.args,yv u=true)
theorem KO.rx {t:T} (h:KO t):Rx' t:=h.elim Or.inl λh=>Or.inr ⟨h.1,h.2.2⟩
theorem KO.tz {t:T} (h:KO t) (hn:nodes t<=100000):Tz t:=by
 rcases h with h|h
 .have:=jdM t h;unfold Tz;omega
 .unfold Tz;rw [jU] at hn;rw [kW,h.1,h.2.1];have:=juB h.2.2;simp only [zM,qO];omega
theorem KO.sub {s:js} (hs:jN s=true) {t:T} (h:KO t):KO (sub s t):=by
 rcases h with h|h
 .exact Or.inl (ja7 (ZB hs) t h)
 .have hvn:jp t.name=false:=by rw [h.1];decide
  right;rw [JY hvn];refine ⟨h.1,by show (t.args.map _).length=2;rw [jK,h.2.1],λu hu=> ?_⟩;obtain ⟨a,ha,rfl⟩:=ym.1 hu;exact ja7 (ZB hs) a (h.2.2 a ha)
theorem KO.sub_tz {s:js} (hs:jN s=true) {t:T} (h:KO t) (hn:nodes t<=3000):Tz (Go.Proofs.YtbidbdhamhbebaaGreatDoor.sub s t):=by
 have:=jlU (u:=s) (Z:=30) (by decide) (Yy hs) t;exact (h.sub hs).tz (by omega)
theorem jwz {s:js} {t:T} (h:Rx' t) (hs:jD (sub s t)=true):jD t=true:=by
 have:=jFW s t h;simp only [jD,ju,kG] at hs ⊢;omega
theorem yF (s:js) (hs:jN s=true) (t:T) (h:KO t) (hn:nodes t<=3000):G 194 [sb s,tm t]=outT (if jD (sub s t) then some (sub s t) else none):=by
 have ht:=h.tz (by omega);have hu:=h.sub_tz hs hn;have e1:=jkU s hs t h.rx ht;have e2:=jaL (sub s t) hu.wf hu;rw [jJj];cases hsm:jD (sub s t)<;>rw [hsm] at e2
 .rw [jo kh];simp only [je,e1,e2];rfl
 .rw [jl rfl];simp only [je,e1,e2];rfl
theorem qQ (s:js) (hs:jN s=true) (t:T) (h:KO t) (hn:nodes t<=3000):G 206 [sb s,tm t]=outT (if jD (sub s t) then some (sub s t) else none):=by
 have ht:=h.tz (by omega);have hu:=h.sub_tz hs hn;have e0:=jcW s (yM hs);have e1:=jna ht h;have e2:=Zo s (yM hs).sz t ht;have e3:=jna hu (h.sub hs);rw [hs] at e0;rw [jJr];cases hsm:jD (sub s t)<;>rw [hsm] at e3
 .rw [jo kh];cases hs1:jD t<;>rw [hs1] at e1
  .simp only [je,e0,e1];rfl
  .simp only [je,e0,e1,e2,e3];rfl
 .rw [jl rfl];rw [jwz h.rx hsm] at e1;simp only [je,e0,e1,e2,e3];rfl
abbrev LtB (p q:List UInt8 × T):Prop:=yQ p.1 q.1=true
theorem jgZ (n:List UInt8) (t:T):∀s:js,s.Pairwise LtB->(∀q∈s,q.1≠n)->(Y3 s n t).Pairwise LtB
 | [],_,_=>by unfold Y3;simp
 | p::s,h,hn=>by
  obtain ⟨h1,h2⟩:=J4.1 h;cases hc:yQ p.1 n with
  | true=>
   have e:Y3 (p::s) n t=p::Y3 s n t:=by
    unfold Y3;rw [ju4 (p:=λp:List UInt8 × T=>yQ p.1 n) hc,jAX (p:=λp:List UInt8 × T=>yQ p.1 n) hc,Jl]
   rw [e];refine J4.2 ⟨λx hx=> ?_,jgZ n t s h2 λq hq=>hn q (by simp [hq])⟩;rcases jjw.1 hx with hx|hx
   .exact h1 x hx
   .rw [hx];exact hc
  | false=>
   have e:Y3 (p::s) n t=(n,t)::p::s:=by
    unfold Y3;rw [jrJ (p:=λp:List UInt8 × T=>yQ p.1 n) (by simp [hc]),ju5 (p:=λp:List UInt8 × T=>yQ p.1 n) (by simp [hc])];rfl
   have hlt:yQ n p.1=true:=by
    have h3:=joc n p.1;rw [hc] at h3;have h4:decide (n=p.1)=false:=kx λe=>hn p (by simp) e.symm;rw [h4,jfi] at h3;exact h3
   rw [e];refine J4.2 ⟨λx hx=> ?_,h⟩;rcases j7.1 hx with e|e
   .rw [e];exact hlt
   .exact jar hlt (h1 x e)
theorem jaT:∀(m s:js),s.Pairwise LtB->(m.map Prod.fst).Nodup->(∀p∈m,∀q∈s,q.1≠p.1)->(m.foldl (λs p=>Ki s p.1 p.2) s).Pairwise LtB
 | [],s,h,_,_=>h
 | p::m,s,h,hn,hd=>by
  rw [yH,jha] at hn;rw [Zf];by_cases he:p.2.name=p.1
  .have:Ki s p.1 p.2=s:=jl he;rw [this];exact jaT m s h hn.2 λq hq r hr=>hd q (by simp [hq]) r hr
  .have:Ki s p.1 p.2=Y3 s p.1 p.2:=jo he;rw [this];refine jaT m _ (jgZ p.1 p.2 s h (hd p (by simp))) hn.2 λq hq r hr=> ?_;rcases jjw.1 hr with hr|hr
   .exact hd q (by simp [hq]) r hr
   .rw [hr];intro e;exact hn.1 (ym.2 ⟨q,hq,e.symm⟩)
theorem jdP:∀(m s:js),m.foldl (λs p=>Ki s p.1 p.2) s=(m.filter λp=> !decide (p.2.name=p.1)).foldl (λs p=>Ki s p.1 p.2) s
 | [],s=>rfl
 | p::m,s=>by
  rw [Zf,jrH];by_cases he:p.2.name=p.1
  .rw [jo (by simp [he]),show Ki s p.1 p.2=s from jl he];exact jdP m s
  .rw [jl (by simp [he]),Zf];exact jdP m _
theorem joe {l s:js} (hn:(l.map Prod.fst).Nodup) (hk:∀p∈l,p.2.name≠p.1) (hp:s.Perm l) (hs:s.Pairwise λa b=>¬zI b.1 a.1 < 0):s=Jo l:=by
 have h1:=jaT l [] List.Pairwise.nil hn λp _ q h=>by cases h
 have h2:=(QD l [] hk).2;refine js3 (R:=LtB) (λa h=>by unfold LtB at h;rw [ja3] at h;cases h) (λa b h h'=>by have:=jar h h';rw [ja3] at this;cases this) ?_ h1 λx=> ?_
 .have hne:s.Pairwise λa b=>a.1≠b.1:=by
   have:(s.map Prod.fst).Nodup:=(hp.map Prod.fst).nodup_iff.2 hn;rw [joq] at this;exact jke.1 this
  refine (hs.and hne).imp λ{a b} h=> ?_;have h3:=joc a.1 b.1;rw [kx h.2,jfi] at h3;show yQ a.1 b.1=true;rw [h3];cases hc:yQ b.1 a.1 with
  | false=>rfl
  | true=>exact (h.1 ((jt7 _ _).2 hc)).elim
 .rw [hp.mem_iff];have:=h2 x;simp only [jbn,false_or] at this;exact this.symm
def yd (o:Option js):Option Out:=match o with|some s=>some (.tup [sb s,vb true],[])|none=>some (.tup [.agg [.sl 3 []],vb false],[])
theorem juF {n:Nat} (h:n<=1000000):jW n 56=true:=jsZ (by omega)
theorem jzB (p q:List UInt8 × T):G 251 [.agg (bc p),.agg (bc q)]=some (vi (zI p.1 q.1),[]):=by
 have e:=jbT p.1 q.1;rw [jJY];simp only [je,e]
def jla (l:js):js:=l.filter λp=> !decide (p.2.name=p.1)
theorem jgV {s:js} (h:jN s=true):(s.map Prod.fst).Nodup:=by
 rw [joq,jke];exact (jnc (j5 h).2.1).imp λ{a b} h e=>by rw [e,ja3] at h;cases h
def QA (s u:js):js:=jla (s.map λq=>(q.1,sub u q.2))++u.filter λq=>(look s q.1).isNone
theorem jui {s u:js} (hu:jN u=true):Jo (QA s u)=zG s u:=by
 unfold zG QA;unfold Jo;rw [List.foldl_append,List.foldl_append,jdP (s.map _)];rfl
theorem jiF {s u:js} (hs:jN s=true) (hu:jN u=true):(QA s u).length<=24/\((QA s u).map Prod.fst).Nodup/\(∀p∈QA s u,p.2.name≠p.1)/\ ∀p∈QA s u,p.1.length<=1000000/\Tz p.2:=by
 obtain ⟨ls,_,vs⟩:=j5 hs;obtain ⟨lu,_,vu⟩:=j5 hu;have hs2:∀p∈jla (s.map λq=>(q.1,sub u q.2)),p.2.name≠p.1/\ ∃q∈s,p.1=q.1/\p.2=sub u q.2:=λp hp=>by
  obtain ⟨h1,h2⟩:=jkf.1 hp;obtain ⟨q,hq,rfl⟩:=ym.1 h1;exact ⟨by simpa using h2,q,hq,rfl,rfl⟩
 refine ⟨?_,?_,λp hp=> ?_,λp hp=> ?_⟩
 .unfold QA jla;have h1:=List.length_filter_le (λp:List UInt8 × T=> !decide (p.2.name=p.1)) (s.map λq=>(q.1,sub u q.2));have h2:=List.length_filter_le (λq:List UInt8 × T=>(look s q.1).isNone) u;rw [yn];rw [jK] at h1;omega
 .unfold QA;rw [zz];refine jbm.2 ⟨?_,?_,λa ha b hb=> ?_⟩
  .have:((jla (s.map λq=>(q.1,sub u q.2))).map Prod.fst).Sublist (s.map Prod.fst):=by
    have h:=(List.filter_sublist (p:=λp:List UInt8 × T=> !decide (p.2.name=p.1)) (l:=s.map λq=>(q.1,sub u q.2))).map Prod.fst;rw [Jf] at h;exact h
   exact (jgV hs).sublist this
  .exact (jgV hu).sublist (List.filter_sublist.map Prod.fst)
  .obtain ⟨p,hp,rfl⟩:=ym.1 ha;obtain ⟨q,hq,rfl⟩:=ym.1 hb;obtain ⟨_,r,hr,e,_⟩:=hs2 p hp;have h3:=(jkf.1 hq).2;rw [Option.isNone_iff_eq_none] at h3;intro e2;exact qa.1 h3 r hr (by rw [<-e,e2])
 .rcases zh.1 hp with hp|hp
  .exact (hs2 p hp).1
  .exact (vu p (jkf.1 hp).1).2.2
 .rcases zh.1 hp with hp|hp
  .obtain ⟨_,q,hq,e1,e2⟩:=hs2 p hp;rw [e1,e2];have h1:=(yM hs).2 q hq;exact ⟨h1.1,KO.sub_tz hu (Or.inl (ZB hs q hq)) (by have:=Yy hs q hq;omega)⟩
  .exact (yM hu).2 p (jkf.1 hp).1
theorem jt9 {s u:js} (hs:jN s=true) (hu:jN u=true):SzB (zG s u):=by
 obtain ⟨h1,h2,h3,h4⟩:=jiF hs hu;rw [<-jui hu];obtain ⟨f1,f2⟩:=QD (QA s u) [] h3;refine ⟨by unfold Jo;rw [f1];simp;omega,λq hq=> ?_⟩;have:=(f2 q).1 hq;simp only [jbn,false_or] at this;exact h4 q this
theorem Qv (s u:js) (hs:jN s=true) (hu:jN u=true):G 218 [sb s,sb u]=yd (if jN (zG s u) then some (zG s u) else none):=by
 obtain ⟨g1,g2,g3,g4⟩:=jiF hs hu;have ls:=(j5 hs).1;have lu:=(j5 hu).1;obtain ⟨so,p1,p2,p3⟩:=jpo ZO Prod.fst bc 3 251 rfl (QA s u) (by omega) λx _ y _=>jzB x y;have hso:=joe g2 g3 p1 p2;rw [jui hu] at hso;subst hso;have e1:=jl1 (zG s u) (jt9 hs hu);have fin:jfA (ZK u) (vi (u.length:Nat)) (vi (u.length:Nat)) (ZK s) [] ((QA s u).map bc)=yd (if jN (zG s u) then some (zG s u) else none):=by
  have hC:jrY ((QA s u).map bc)=some (.top,[.sl 3 ((zG s u).map bc)]):=by rw [jET];exact p3
  have r1:hR 3 (A.top,[.sl 3 ((zG s u).map bc)]) 0=some ((zG s u).map bc):=rfl;rw [jy3];cases hv:jN (zG s u)<;>rw [hv] at e1
  .rw [jo kh];have e1:(G 248 [sb (zG s u)]).bind (fin true)=some (vb false):=by rw [e1];rfl
   simp only [je,hC,r1,e1];rfl
  .rw [jl rfl];have e1:(G 248 [sb (zG s u)]).bind (fin true)=some (vb true):=by rw [e1];rfl
   simp only [je,hC,r1,e1];rfl
 have k1:=upto (P:=λi=>∀R:js,R.length<=12+i->R++(u.drop i).filter (λq=>(look s q.1).isNone)=QA s u->jfA (ZK u) (vi (u.length:Nat)) (vi (i:Nat)) (ZK s) [] (R.map bc)=yd (if jN (zG s u) then some (zG s u) else none)) (n:=u.length) ?_ ?_ 0 (jE _);rotate_left
 .intro R _ hR;rw [j4,List.filter_nil,y8] at hR;rw [hR];exact fin
 .intro i hi ih R hRl hR;have hlt:(i:Int) < ((u.length:Nat):Int):=by omega
  have h5:ck ((i:Int)+1)=some (vi ((i+1:Nat):Int)):=j8 (by omega) (by omega);have e2:=jjU s hs u[i].1;rw [ji hi,jrH] at hR;rw [jy3];cases hl:look s u[i].1 with
  | some r=>
   rw [hl] at e2 hR;have e2:G 249 [sb s,sv u[i].1]=some (.tup [tm r,vb true],[]):=e2;rw [jo (by simp)] at hR;have:=ih R (by omega) hR;simp only [je,hlt,jb hi,Z8,e2,h5,this]
  | none=>
   rw [hl] at e2 hR;have e2:G 249 [sb s,sv u[i].1]=some (.tup [.agg [sv [],.sl 2 []],vb false],[]):=e2;rw [jl (by simp)] at hR;have:=ih (R++[u[i]]) (by rw [yn];simp only [zM,qO];omega) (by rw [zH];exact hR);have e3:=Jy u[i].2 ((yM hu).2 _ (jr hi)).2;have hf:jW (R.length+1) 56=true:=juF (by omega);have ha:kq (R.map bc) [[sv u[i].1,sv u[i].2.name,jQ u[i].2.args]]=(R++[u[i]]).map bc:=by rw [zz];rfl
   simp only [je,hlt,jb hi,Z8,e2,e3];generalize hB:zY _ _ _=B;have hB':B=some (.agg (bc u[i])):=by rw [<-hB];kernel_rfl
   rw [hB'];simp only [je,hf,ha,h5,this]
 have k0:=upto (P:=λi=>∀R:js,R.length<=i->R++(jla ((s.drop i).map λq=>(q.1,sub u q.2))++u.filter λq=>(look s q.1).isNone)=QA s u->jh5 (ZK s) (vi (s.length:Nat)) (vi (i:Nat)) (ZK s) (ZK u) [] (R.map bc)=yd (if jN (zG s u) then some (zG s u) else none)) (n:=s.length) ?_ ?_ 0 (jE _) [] (jE _) rfl
 .simp only [jP,ya] at k0;rw [jJC];simp only [je,k0]
 .intro R hRl hR;have:=k1 R (by omega) (by rw [kj];rw [j4] at hR;exact hR);simp only [jP] at this;rw [jy2];simp only [je,this]
 .intro i hi ih R hRl hR;have hlt:(i:Int) < ((s.length:Nat):Int):=by omega
  have h5:ck ((i:Int)+1)=some (vi ((i+1:Nat):Int)):=j8 (by omega) (by omega);have hm:=(yM hs).2 _ (jr hi);have e2:=jkU u hu s[i].2 (Or.inl (ZB hs _ (jr hi))) hm.2;rw [ji hi,yH,jla,jrH] at hR;rw [jy2];by_cases he:(sub u s[i].2).name=s[i].1
  .rw [jo (by simp [he])] at hR;have:=ih R (by omega) hR;simp only [je,hlt,jb hi,Z8,e2,he,h5,this]
  .rw [jl (by simp [he])] at hR;have:=ih (R++[(s[i].1,sub u s[i].2)]) (by rw [yn];simp only [zM,qO];omega) (by rw [zH];exact hR);have hf:jW (R.length+1) 56=true:=juF (by omega);have ha:kq (R.map bc) [[sv s[i].1,sv (sub u s[i].2).name,jQ (sub u s[i].2).args]]=(R++[(s[i].1,sub u s[i].2)]).map bc:=by rw [zz];rfl
   simp only [je,hlt,jb hi,Z8,e2,he,hf,ha,h5,this]
theorem jnE (s u:js) (hs:jN s=true) (hu:jN u=true):G 263 [sb s,sb u]=some (sb (zG s u),[]):=by
 have ls:=(j5 hs).1;have lu:=(j5 hu).1;have r1:∀x:js,hR 3 (A.top,[ZK x]) 0=some (x.map bc):=λx=>rfl;have k1:=upto (P:=λi=>∀R:js,R.length<=12+i->(∀q∈R,Tz q.2)->jia (vi (i:Nat)) (ZK s) (ZK u) [] (R.map bc)=some (sb (((u.drop i).filter λq=>(look s q.1).isNone).foldl (λs p=>Ki s p.1 p.2) R),[])) (n:=u.length) ?_ ?_ 0 (jE _);rotate_left
 .intro R _ _;rw [jzk,j4];simp only [je];rfl
 .intro i hi ih R hR hz;have hlt:(i:Int) < ((u.length:Nat):Int):=by omega
  have h5:ck ((i:Int)+1)=some (vi ((i+1:Nat):Int)):=j8 (by omega) (by omega);have hm:=(yM hu).2 _ (jr hi);rw [jzk,ji hi,jrH];rcases jlg s (by omega) u[i].1 with ⟨h1,h2⟩|⟨k,hk,h1,h2⟩
  .have e3:=jnY R (by omega) u[i].1 u[i].2 hm.2;have:=ih (Ki R u[i].1 u[i].2) (by have:=jeY R u[i].1 u[i].2;omega) λq hq=>(jjv hq).elim (hz q) λe=>by rw [e];exact hm.2
   rw [h1,jl (by simp),Zf];simp only [je,hlt,jb hi,qw,yx,YZ,h2,e3,r1,h5,this]
  .have:=ih R (by omega) hz;have hk0:¬((k:Nat):Int) < 0:=by omega
   rw [h1,jo (by simp)];simp only [je,hlt,jb hi,qw,yx,h2,hk0,h5,this]
 have k0:=upto (P:=λi=>∀R:js,R.length<=i->(∀q∈R,Tz q.2)->jmU (vi (i:Nat)) (ZK s) (ZK u) [] (R.map bc)=some (sb ((u.filter λq=>(look s q.1).isNone).foldl (λs p=>Ki s p.1 p.2) (((s.drop i).map λq=>(q.1,sub u q.2)).foldl (λs p=>Ki s p.1 p.2) R)),[])) (n:=s.length) ?_ ?_ 0 (jE _) [] (jE _) (λq h=>by cases h)
 .simp only [jP,ya,kj] at k0;rw [jJ3];simp only [je,k0];rw [<-List.foldl_append];rfl
 .intro R hR hz;have:=k1 R (by omega) hz;simp only [jP,kj] at this;rw [jzj,j4];simp only [je,this];rfl
 .intro i hi ih R hR hz;have hlt:(i:Int) < ((s.length:Nat):Int):=by omega
  have h5:ck ((i:Int)+1)=some (vi ((i+1:Nat):Int)):=j8 (by omega) (by omega);have hm:=(yM hs).2 _ (jr hi);have ht:Tz (sub u s[i].2):=KO.sub_tz hu (Or.inl (ZB hs _ (jr hi))) (by have:=Yy hs _ (jr hi);omega);have e2:=Zo u (yM hu).sz s[i].2 hm.2;have e3:=jnY R (by omega) s[i].1 (sub u s[i].2) ht;have:=ih (Ki R s[i].1 (sub u s[i].2)) (by have:=jeY R s[i].1 (sub u s[i].2);omega) λq hq=>(jjv hq).elim (hz q) λe=>by rw [e];exact ht
  rw [jzj,ji hi,yH,Zf];simp only [je,hlt,jb hi,qw,yx,YZ,e2,e3,r1,h5,this]
theorem jpe (s u:js) (hs:jN s=true) (hu:SzB u):G 238 [sb s,sb u]=yd (if jN u && jN (zG s u) then some (zG s u) else none):=by
 have e1:=jcW s (yM hs);have e2:=jcW u hu;rw [hs] at e1;rw [jJO];cases hv:jN u<;>rw [hv] at e2
 .rw [jH,jo kh];simp only [je,e1,e2];rfl
 .have e3:=jnE s u hs hv;have e4:=jcW (zG s u) (jt9 hs hv);rw [jI];cases hc:jN (zG s u)<;>rw [hc] at e4
  .rw [jo kh];simp only [je,e1,e2,e3,e4];rfl
  .rw [jl rfl];simp only [je,e1,e2,e3,e4];rfl
inductive Hgt (s:js):Nat->J6->Prop
 | nil (r:Nat):Hgt s r []
 | blk (r τ δ:Nat) (b es:J6):9 * τ+(8 - δ) < r->τ<=s.length+1->δ<=8->b.length<=4->(τ=s.length+1-> ∀p∈b,sub s p.1=p.1/\sub s p.2=p.2/\Yf p.1<=δ/\Yf p.2<=δ)->Hgt s (9 * τ+(8 - δ)) es->Hgt s r (b++es)
theorem Hgt.len {s:js} {r:Nat} {es:J6} (h:Hgt s r es):es.length<=4 * r:=by
 induction h with
 | nil r=>exact jE _
 | blk r τ δ b es h1 _ _ h4 _ _ ih=>rw [yn];omega
theorem Hgt.mono {s:js} {r r':Nat} {es:J6} (h:Hgt s r es) (hr:r<=r'):Hgt s r' es:=by
 induction h with
 | nil=>exact Hgt.nil _
 | blk r τ δ b es h1 h2 h3 h4 h5 h6 _=>exact Hgt.blk r' τ δ b es (by omega) h2 h3 h4 h5 h6
theorem Hgt.grow {s s':js} (hs:s.length < s'.length) {r:Nat} {es:J6} (h:Hgt s r es):Hgt s' r es:=by
 induction h with
 | nil r=>exact Hgt.nil _
 | blk r τ δ b es h1 h2 h3 h4 h5 _ ih=>exact Hgt.blk r τ δ b es h1 (by omega) h3 h4 (λh=>by omega) ih
theorem Hgt.pop {s:js} {r:Nat} {es:J6} (h:Hgt s r es):∀ {p:T × T} {rest:J6},es=p::rest-> ∃τ δ,9 * τ+(8 - δ) < r/\τ<=s.length+1/\δ<=8/\(τ=s.length+1->sub s p.1=p.1/\sub s p.2=p.2/\Yf p.1<=δ/\Yf p.2<=δ)/\Hgt s (9 * τ+(8 - δ)+1) rest:=by
 induction h with
 | nil r=>intro p rest h;cases h
 | blk r τ δ b es h1 h2 h3 h4 h5 h6 ih=>
  intro p rest he;cases b with
  | nil=>
   obtain ⟨τ',δ',g1,g2⟩:=ih he;exact ⟨τ',δ',by omega,g2⟩
  | cons q b=>
   rw [Jl,Ju] at he;obtain ⟨rfl,rfl⟩:=he;rw [zM] at h4;exact ⟨τ,δ,h1,h2,h3,λh=>h5 h q (by simp),Hgt.blk _ τ δ b es (by omega) h2 h3 (by omega) (λh x hx=>h5 h x (by simp [hx])) h6⟩
theorem Yr {t:T} (h:KO t):t.args.length<=4:=by
 rcases h with h|h
 .cases hv:jp t.name with
  | true=>rw [JN h hv];simp
  | false=>
   rw [yT,hv,jo kh,ju,ju,kG] at h;exact h.2.1
 .omega
theorem zF {s:js} {l r:T} {rest:J6} (h:Z4 s ((l,r)::rest)) (hg:Hgt s 126 ((l,r)::rest)) {s':js} {es:J6} (hst:y7 s l r rest=some (s',es)):Hgt s' 126 es:=by
 obtain ⟨τ,δ,g1,g2,g3,g4,g5⟩:=hg.pop rfl;have hrest:Hgt s 126 rest:=g5.mono (by omega);have hl:=(j5 h.1).1;obtain ⟨_,hor⟩:=zm h hst;by_cases hlen:s'.length=s.length+1
 .have hst':=hst;unfold y7 at hst;split at hst
  .cases hst
  split at hst
  .cases hst;omega
  split at hst
  .split at hst
   .cases hst
   .cases hst;exact hrest.grow (by omega)
  .split at hst
   .cases hst;omega
   .cases hst
 .have hs:s'=s:=hor.elim (λh=>h.1) λh=>(hlen h).elim;subst hs;obtain ⟨hv,hi,he⟩:=h;obtain ⟨el,er⟩:=he (l,r) (by simp);unfold y7 at hst;split at hst
  .cases hst
  rename_i hsm;split at hst
  .cases hst;exact hrest
  split at hst
  .rename_i hvar;split at hst
   .cases hst
   .rename_i hno;simp only [kL,qB] at hst;rw [<-hst.2];exact hrest
  rename_i hnv;split at hst;rotate_left
  .cases hst
  simp only [kL,qB,true_and] at hst;subst hst;have sm:∀t,¬jD t=false->Yf t<=8:=λt ht=>by
   have:jD t=true:=by cases h:jD t with|true=>rfl|false=>exact (ht h).elim
   simp only [jD,ju,kG] at this;exact this.2
  have d1:=sm (sub s' l) λh=>hsm (Or.inl h);have d2:=sm (sub s' r) λh=>hsm (Or.inr h);have v1:jp (sub s' l).name=false:=by
   cases h:jp (sub s' l).name with
   | false=>rfl
   | true=>exact absurd (Or.inl h) hnv
  have v2:jp (sub s' r).name=false:=by
   cases h:jp (sub s' r).name with
   | false=>rfl
   | true=>exact absurd (Or.inr h) hnv
  have xl:KO (sub s' l):=KO.sub hv el.1;have xr:KO (sub s' r):=KO.sub hv er.1;have arg:∀w:T,KO (sub s' w)->jp (sub s' w).name=false->IdS s'-> ∀u∈(sub s' w).args,sub s' u=u/\Yf u+1<=Yf (sub s' w):=λw xw vw hi u hu=>by
   refine ⟨jtq u (xw.elim (λh=>zK h u hu) λh=>h.2.2 u hu) λx hx=>jj4 hi w (by rw [vsf vw,qA];exact ⟨u,hu,hx⟩),?_⟩
   have:=jit hu;rw [Zi (sub s' w)];omega
  have p1:=Zi (sub s' l);have p2:=Zi (sub s' r);refine Hgt.blk 126 (s'.length+1) (max (Yf (sub s' l)) (Yf (sub s' r)) - 1) _ rest (by omega) (kD _) (by omega) ?_ (λ_ p hp=> ?_) (g5.mono ?_)
  .rw [yG];have:=Yr xl;omega
  .have hm:=List.of_mem_zip (a:=p.1) (b:=p.2) hp;have q1:=arg l xl v1 hi p.1 hm.1;have q2:=arg r xr v2 hi p.2 hm.2;exact ⟨q1.1,q2.1,by omega,by omega⟩
  .by_cases hτ:τ=s'.length+1
   .obtain ⟨w1,w2,w3,w4⟩:=g4 hτ;have w3:Yf l<=δ:=w3;have w4:Yf r<=δ:=w4;have w1:Yf (sub s' l)=Yf l:=congrArg Yf w1;have w2:Yf (sub s' r)=Yf r:=congrArg Yf w2;omega
   .omega
theorem jG7 (a b:T):Hgt [] 126 [(a,b)]:=Hgt.blk 126 0 8 [(a,b)] [] (by omega) (by omega) (by omega) (by simp) (λh=>by simp at h) (Hgt.nil _)
theorem jhm {n:Nat} (h:n<=100000):jW n 80=true:=by
 unfold jW;exact jR ⟨by omega,by omega⟩
theorem jbP {x y:T} (h:jp x.name=true\/jp y.name=true):jp (jy x y).1=true/\(((jy x y).1=y.name/\(jy x y).2=x)\/((jy x y).1=x.name/\(jy x y).2=y)):=by
 unfold jy;split
 .rename_i hc;refine ⟨?_,Or.inl ⟨rfl,rfl⟩⟩;rcases hc with hc|hc
  .rcases h with h|h
   .rw [hc] at h;cases h
   .exact h
  .exact hc.1
 .rename_i hc;refine ⟨?_,Or.inr ⟨rfl,rfl⟩⟩;rcases Bool.eq_false_or_eq_true (jp x.name) with h2|h2
  .exact h2
  .exact absurd (Or.inl h2) hc
theorem jvU {p:List UInt8 × T} (hn:jp p.1=true):(!decide ((0:Int) < (cnt p.1 p.2:Nat)) && jN [p])=(!decide (p.1∈kT p.2) && jN [p]):=by
 cases hv:jN [p] with
 | false=>rw [z8,z8]
 | true=>
  have hk:yv p.2=true:=ZB hv p (by simp);have:=jAR hn p.2 hk;rw [jaw,jaw];congr 1;exact jkm.2 (by rw [this];omega)
theorem jzS {p:List UInt8 × T} (hn:jp p.1=true) (hz:Tz p.2):SzB [p]:=⟨by simp,λq hq=>by
 rw [zi.1 hq];exact ⟨by have:=jfe hn;omega,hz⟩⟩
theorem Yi (x y:T) (hx:KO x) (hy:KO y) (nx:nodes x<=3000) (ny:nodes y<=3000) (h:jp x.name=true\/jp y.name=true):G 217 [.agg [sv x.name,jQ x.args,sv y.name,jQ y.args]]=some (.tup [sb [jy x y],vb (!decide ((jy x y).1∈kT (jy x y).2) && jN [jy x y])],[]):=by
 have e1:=yJ x (hx.imp id λh=>h.1);have e2:=yJ y (hy.imp id λh=>h.1);obtain ⟨hv,hor⟩:=jbP h;have hz:Tz (jy x y).2:=by
  rcases hor with h|h
  .rw [h.2];exact hx.tz (by omega)
  .rw [h.2];exact hy.tz (by omega)
 have hn:nodes (jy x y).2<=3000:=by
  rcases hor with h|h
  .rw [h.2];exact nx
  .rw [h.2];exact ny
 have e3:=KU (jy x y).1 (jy x y).2 hz.wf (by omega);have e4:G 247 [sv (jy x y).1,tm (jy x y).2]=some (vb (decide ((0:Int) < (cnt (jy x y).1 (jy x y).2:Nat))),[]):=by
  rw [jJV];simp only [je,e3]
 have e5:=jl1 [jy x y] (jzS hv hz);have e5:G 248 [.agg [.sl 3 [[sv (jy x y).1,sv (jy x y).2.name,jQ (jy x y).2.args]]]]=some (vb (jN [jy x y]),[]):=e5;rw [<-jvU hv,jJB];generalize hb:jN [jy x y]=vv at *;generalize ho:decide ((0:Int) < (cnt (jy x y).1 (jy x y).2:Nat))=oo at *;have hsb:sb [jy x y] = .agg [.sl 3 [[sv (jy x y).1,sv (jy x y).2.name,jQ (jy x y).2.args]]]:=rfl;rw [hsb];have e5:(G 248 [.agg [.sl 3 [[sv (jy x y).1,sv (jy x y).2.name,jQ (jy x y).2.args]]]]).bind (fin true)=some (vb vv):=by rw [e5];rfl
 cases hx1:jp x.name<;>rw [hx1] at e1
 .have hbd:jy x y=(y.name,x):=jl (Or.inl hx1);rw [hbd] at e4 e5 ⊢;have e4:G 247 [sv y.name,tm x]=some (vb oo,[]):=e4;have e5:(G 248 [.agg [.sl 3 [[sv y.name,sv x.name,jQ x.args]]]]).bind (fin true)=some (vb vv):=e5;cases oo
  .simp only [je,e1,e4,e5,jI]
  .simp only [je,e1,e4,jH]
 .cases hy1:jp y.name<;>rw [hy1] at e2
  .have hbd:jy x y=(x.name,y):=jo (by rw [hx1,hy1];simp)
   rw [hbd] at e4 e5 ⊢;have e4:G 247 [sv x.name,tm y]=some (vb oo,[]):=e4;have e5:(G 248 [.agg [.sl 3 [[sv x.name,sv y.name,jQ y.args]]]]).bind (fin true)=some (vb vv):=e5;cases oo
   .simp only [je,e1,e2,e4,e5,jI]
   .simp only [je,e1,e2,e4,jH]
  .have e6:=jf2 false y.name x.name;cases hc:yQ x.name y.name<;>rw [hc] at e6
   .have hbd:jy x y=(x.name,y):=jo (by rw [hx1,hy1,hc];simp)
    rw [hbd] at e4 e5 ⊢;have e4:G 247 [sv x.name,tm y]=some (vb oo,[]):=e4;have e5:(G 248 [.agg [.sl 3 [[sv x.name,sv y.name,jQ y.args]]]]).bind (fin true)=some (vb vv):=e5;cases oo
    .simp only [je,e1,e2,e6,e4,e5,jI]
    .simp only [je,e1,e2,e6,e4,jH]
   .have hbd:jy x y=(y.name,x):=jl (Or.inr ⟨hy1,hc⟩);rw [hbd] at e4 e5 ⊢;have e4:G 247 [sv y.name,tm x]=some (vb oo,[]):=e4;have e5:(G 248 [.agg [.sl 3 [[sv y.name,sv x.name,jQ x.args]]]]).bind (fin true)=some (vb vv):=e5;cases oo
    .simp only [je,e1,e2,e6,e4,e5,jI]
    .simp only [je,e1,e2,e6,e4,jH]
theorem jcJ (s:js) (hs:jN s=true) (n:List UInt8) (t:T) (hn:jp n=true) (ht:Tz t) (hk:n∈kT t\/t.name≠n):∃z:js,G 207 [sb s,sv n,tm t]=some (if !decide (n∈kT t) && (jN [(n,t)] && jN (zG s [(n,t)])) then .tup [sb (zG s [(n,t)]),vb true] else .tup [sb z,vb false],[]):=by
 obtain ⟨r,e1,hr,hl⟩:=jlf t ht.wf (by have:=Jj t;have:=ht;unfold Tz at this;omega)
 have e2:=jnB r n hl;have hc:r.contains n=decide (n∈kT t):=by
  cases h:r.contains n with
  | true=>rw [jgl,hr] at h;exact (jR h).symm
  | false=>
   refine (kx λh2=> ?_).symm;rw [<-hr,<-jgl,h] at h2;cases h2
 rw [hc] at e2;rw [jJs];by_cases hm:n∈kT t
 .refine ⟨s,?_⟩;rw [jR hm] at e2;rw [jR hm,jdk,jH,jo kh];simp only [je,e1,e2]
 .refine ⟨[],?_⟩;have hne:¬t.name=n:=hk.resolve_left hm;rw [kx hm] at e2;rw [kx hm,jkk,jI];have e3:jrX (sv n) (sv t.name) (jQ t.args) []=some (.top,[.sl 3 [[sv n,sv t.name,jQ t.args]]]):=by
   have k1:pB (yU []) (yq [] 0) (some (vi 0))=some 0:=rfl;have k2:pB (yU []) (yq [] 0) none=some 0:=rfl;have k3:pB 0 0 (some (vi 0))=some 0:=rfl;have k4:Ja [] 0 (zf 0 0) = []:=rfl;have k5:kq (kq [] [[sv n,sv t.name,jQ t.args]]) [] = [[sv n,sv t.name,jQ t.args]]:=rfl;have f0:jW 0 56=true:=juF (by omega);have f1:jW 1 56=true:=juF (by omega);have f2:(kq [] [[sv n,sv t.name,jQ t.args]]).length=1:=rfl;have eo:=jcc t ht;have h00:¬((0:Int) < ((0:Nat):Int)):=by omega
   rw [jER];simp only [je,hne];rw [jze];simp only [je,h00,k1,k2,k3,k4,f0,f1,eo];generalize hB:zY _ _ _=B;have hB':B=some (.agg [sv n,sv t.name,jQ t.args]):=by rw [<-hB];kernel_rfl
   rw [hB'];simp only [je,f1,k5,f2,j6]
  have e4:=jpe s [(n,t)] hs (jzS hn ht);have r1:hR 3 (A.top,[.sl 3 [[sv n,sv t.name,jQ t.args]]]) 0=some [[sv n,sv t.name,jQ t.args]]:=rfl;have e4:G 238 [sb s,.agg [.sl 3 [[sv n,sv t.name,jQ t.args]]]]=_:=e4;cases hb:jN [(n,t)] && jN (zG s [(n,t)])
  .rw [hb,jo kh] at e4;have e4:G 238 [sb s,.agg [.sl 3 [[sv n,sv t.name,jQ t.args]]]]=some (.tup [.agg [.sl 3 []],vb false],[]):=e4;rw [jo kh];simp only [je,e1,e2,e3,r1,e4];rfl
  .rw [hb,jl rfl] at e4;have e4:G 238 [sb s,.agg [.sl 3 [[sv n,sv t.name,jQ t.args]]]]=some (.tup [sb (zG s [(n,t)]),vb true],[]):=e4;rw [jl rfl];simp only [je,e1,e2,e3,r1,e4]
abbrev ec (p:T × T):List A:=[sv p.1.name,jQ p.1.args,sv p.2.name,jQ p.2.args]
theorem jcm {W:J6} {i:Nat} {p:T × T} (h:W[i]? = some p):Yg (W.map ec) i 0 2=some (tm p.1)/\Yg (W.map ec) i 2 2=some (tm p.2):=by
 unfold Yg;rw [yu,h];exact ⟨rfl,rfl⟩
theorem KF {W rest:J6} {p:T × T} {off:Nat} (h:W.drop off=p::rest):W[off]? = some p/\W.drop (off+1)=rest/\W.length=off+rest.length+1:=by
 have h1:=congrArg (λl=>l[0]?) h;simp only [Q2,j6,qk] at h1;have h2:=congrArg (List.drop 1) h;rw [jdX] at h2;have h3:=congrArg List.length h;rw [qS,zM] at h3;exact ⟨h1,h2,by omega⟩
theorem jfg {us vs:List T} {i:Nat} (h1:i < us.length) (h2:i < vs.length):kq (((us.zip vs).take i).map ec) [[sv us[i].name,jQ us[i].args,sv vs[i].name,jQ vs[i].args]]=((us.zip vs).take (i+1)).map ec:=by
 have hl:i < (us.zip vs).length:=by rw [yG];omega
 rw [jbp,zk hl,zz,List.getElem_zip];rfl
theorem jcy {W:J6} (off:Nat):Ja (W.map ec) off (W.length - off)=(W.drop off).map ec:=by
 rw [jeZ,<-jfl,ql (by rw [jK,qS];omega)]
theorem KJ {s:js} {l r:T} {rest:J6} (h1:jD (sub s l)=true) (h2:jD (sub s r)=true) (h3:dq (sub s l) (sub s r)=true):y7 s l r rest=some (s,rest):=by
 unfold y7;rw [jo (by rw [h1,h2];simp),jl h3]
theorem KH {s:js} {l r:T} {rest:J6} (h1:jD (sub s l)=true) (h2:jD (sub s r)=true) (h3:dq (sub s l) (sub s r)=false) (h4:jp (sub s l).name=true\/jp (sub s r).name=true):y7 s l r rest=if (!decide ((jy (sub s l) (sub s r)).1∈kT (jy (sub s l) (sub s r)).2) && jN [jy (sub s l) (sub s r)]) && jN (zG s [jy (sub s l) (sub s r)]) then some (zG s [jy (sub s l) (sub s r)],rest) else none:=by
 unfold y7;rw [jo (by rw [h1,h2];simp),jo (by rw [h3];simp),jl h4];generalize jy (sub s l) (sub s r)=p;by_cases c1:p.1∈kT p.2
 .rw [jl (Or.inl c1),jR c1];rfl
 .rw [kx c1];cases c2:jN [p]
  .rw [jl (Or.inr (Or.inl rfl))];rfl
  .cases c3:jN (zG s [p])
   .rw [jl (Or.inr (Or.inr rfl))];rfl
   .rw [jo (by simp [c1])];rfl
theorem KI {s:js} {l r:T} {rest:J6} (h1:jD (sub s l)=true) (h2:jD (sub s r)=true) (h3:dq (sub s l) (sub s r)=false) (h4:jp (sub s l).name=false) (h5:jp (sub s r).name=false):y7 s l r rest=if (sub s l).name=(sub s r).name/\(sub s l).args.length=(sub s r).args.length then some (s,(sub s l).args.zip (sub s r).args++rest) else none:=by
 unfold y7;rw [jo (by rw [h1,h2];simp),jo (by rw [h3];simp),jo (by rw [h4,h5];simp)]
theorem jM {k:Nat} {s:js} {l r:T} {rest:J6} {res:Option js} (hst:y7 s l r rest=none) (h:zX (k+1) s ((l,r)::rest)=some res):res=none:=by
 rw [zX,hst] at h;exact (ZE h).symm
theorem kM {k:Nat} {s:js} {l r:T} {rest:J6} {res:Option js} {q:js × J6} (hst:y7 s l r rest=some q) (h:zX (k+1) s ((l,r)::rest)=some res):zX k q.1 q.2=some res:=by
 rw [zX,hst] at h;exact h
theorem JM {s:js} {l r:T} {rest:J6} (h:Z4 s ((l,r)::rest)):KO l/\KO r/\nodes l<=31/\nodes r<=31:=by
 obtain ⟨h1,h2⟩:=h.2.2 (l,r) (by simp);exact ⟨h1.1,h2.1,h1.2,h2.2⟩
theorem jyc (s:js) (W:J6) (off:Nat) (hW:W.length<=1000) (x y:T) (hl:x.args.length=y.args.length) (h4:x.args.length<=4) :
  jmz (nA off) (nA (W.length - off)) (jQ x.args) (vi (x.args.length:Nat)) (vi 0) (ZK s) (sv y.name) (jQ y.args) (W.map ec) [] []=jfy (ZK s) ((x.args.zip y.args++W.drop off).map ec) []:=by
 have h1:yc (nA off)=off:=rfl;have h2:yc (nA (W.length - off))=W.length - off:=rfl;have hend:jW (((x.args.zip y.args).map ec).length+((W.drop off).map ec).length) 80=true:=by
  rw [jK,jK,yG,qS];exact jhm (by omega)
 have hzl:((x.args.zip y.args).map ec).length=x.args.length:=by rw [jK,yG];omega
 have happ:kq ((x.args.zip y.args).map ec) ((W.drop off).map ec)=(x.args.zip y.args++W.drop off).map ec:=by rw [zz];rfl
 have step:∀i,(hi:i < x.args.length)->(hi2:i < y.args.length)->kq (((x.args.zip y.args).take i).map ec) [[sv x.args[i].name,jQ x.args[i].args,sv y.args[i].name,jQ y.args[i].args]]=((x.args.zip y.args).take (i+1)).map ec:=λi hi hi2=>jfg hi hi2;have key:=upto (P:=λi=>jr6 (nA off) (nA (W.length - off)) (jQ x.args) (vi (x.args.length:Nat)) (vi (i:Nat)) (ZK s) (sv y.name) (jQ y.args) (W.map ec) (((x.args.zip y.args).take i).map ec) []=jfy (ZK s) ((x.args.zip y.args++W.drop off).map ec) []) (n:=x.args.length) ?_ ?_
 .have hend2:(x.args.zip y.args).take x.args.length=x.args.zip y.args:=ql (by rw [yG];omega)
  rw [jFp];by_cases h0:0 < x.args.length
  .have hi:=h0;have hi2:0 < y.args.length:=by omega
   have hlt:(0:Int) < ((x.args.length:Nat):Int):=by omega
   have ix:=jb (k:=2) (f:=jm) hi;have ix2:=jb (k:=2) (f:=jm) hi2;have ta:=step 0 hi hi2;simp only [Jv,ya,jP,Jg] at ta ix ix2;have hf:jW 1 80=true:=jhm (by omega);have hck:ck (0+1)=some (vi ((1:Nat):Int)):=j8 (n:=0+1) (by omega) (by omega);have key:=key 1 (by omega);rw [<-key];simp only [je,hlt,ix,ix2,jf,hf,ta,hck,h1,h2]
  .have hlt:¬(0:Int) < ((x.args.length:Nat):Int):=by omega
   have he:x.args = []:=jbd (by omega);have hz:x.args.zip y.args = []:=by rw [he];rfl
   rw [hz] at hend happ ⊢;have hend:jW ((W.drop off).map ec).length 80=true:=by simpa using hend
   have happ:kq [] ((W.drop off).map ec)=(W.drop off).map ec:=rfl;simp only [je,hlt,h1,h2,jcy,KN];rw [jK] at hend;simp only [je,hend,happ]
 .have hend2:(x.args.zip y.args).take x.args.length=x.args.zip y.args:=ql (by rw [yG];omega)
  rw [hend2,jyO];have hlt:¬((x.args.length:Nat):Int) < ((x.args.length:Nat):Int):=by omega
  rw [hzl,jK] at hend;simp only [je,hlt,h1,h2,jcy,happ];rw [yG,ja9 (by omega)];simp only [je,hend]
 .intro i hi ih;have hi2:i < y.args.length:=by omega
  have hlt:((i:Nat):Int) < ((x.args.length:Nat):Int):=by omega
  have ta:=step i hi hi2;have li:(((x.args.zip y.args).take i).map ec).length=i:=take_len (by rw [yG];omega);have hf:jW (i+1) 80=true:=jhm (by omega);have hck:ck ((i:Int)+1)=some (vi ((i+1:Nat):Int)):=j8 (by omega) (by omega);generalize ((x.args.zip y.args).take i).map ec=R at *;rw [jyO,<-ih];simp only [je,hlt,jb hi,jb hi2,jf,li,hf,ta,hck,h1,h2]
theorem jyb (W:J6) (off:Nat) (hW:W.length<=1000) (x y:T) (hl:x.args.length=y.args.length) (h4:x.args.length<=4) :
  jmy (nA off) (nA (W.length - off)) (jQ x.args) (vi (x.args.length:Nat)) (vi 0) (sv y.name) (jQ y.args) (W.map ec) [] [] []=jdq ((x.args.zip y.args++W.drop off).map ec) [] []:=by
 have h1:yc (nA off)=off:=rfl;have h2:yc (nA (W.length - off))=W.length - off:=rfl;have hend:jW (((x.args.zip y.args).map ec).length+((W.drop off).map ec).length) 80=true:=by
  rw [jK,jK,yG,qS];exact jhm (by omega)
 have hzl:((x.args.zip y.args).map ec).length=x.args.length:=by rw [jK,yG];omega
 have happ:kq ((x.args.zip y.args).map ec) ((W.drop off).map ec)=(x.args.zip y.args++W.drop off).map ec:=by rw [zz];rfl
 have step:∀i,(hi:i < x.args.length)->(hi2:i < y.args.length)->kq (((x.args.zip y.args).take i).map ec) [[sv x.args[i].name,jQ x.args[i].args,sv y.args[i].name,jQ y.args[i].args]]=((x.args.zip y.args).take (i+1)).map ec:=λi hi hi2=>jfg hi hi2;have key:=upto (P:=λi=>jr5 (nA off) (nA (W.length - off)) (jQ x.args) (vi (x.args.length:Nat)) (vi (i:Nat)) (sv y.name) (jQ y.args) (W.map ec) (((x.args.zip y.args).take i).map ec) [] []=jdq ((x.args.zip y.args++W.drop off).map ec) [] []) (n:=x.args.length) ?_ ?_
 .have hend2:(x.args.zip y.args).take x.args.length=x.args.zip y.args:=ql (by rw [yG];omega)
  rw [jFo];by_cases h0:0 < x.args.length
  .have hi:=h0;have hi2:0 < y.args.length:=by omega
   have hlt:(0:Int) < ((x.args.length:Nat):Int):=by omega
   have ix:=jb (k:=2) (f:=jm) hi;have ix2:=jb (k:=2) (f:=jm) hi2;have ta:=step 0 hi hi2;simp only [Jv,ya,jP,Jg] at ta ix ix2;have hf:jW 1 80=true:=jhm (by omega);have hck:ck (0+1)=some (vi ((1:Nat):Int)):=j8 (n:=0+1) (by omega) (by omega);have key:=key 1 (by omega);rw [<-key];simp only [je,hlt,ix,ix2,jf,hf,ta,hck,h1,h2]
  .have hlt:¬(0:Int) < ((x.args.length:Nat):Int):=by omega
   have he:x.args = []:=jbd (by omega);have hz:x.args.zip y.args = []:=by rw [he];rfl
   rw [hz] at hend happ ⊢;have hend:jW ((W.drop off).map ec).length 80=true:=by simpa using hend
   have happ:kq [] ((W.drop off).map ec)=(W.drop off).map ec:=rfl;simp only [je,hlt,h1,h2,jcy,KN];rw [jK] at hend;simp only [je,hend,happ]
 .have hend2:(x.args.zip y.args).take x.args.length=x.args.zip y.args:=ql (by rw [yG];omega)
  rw [hend2,jyN];have hlt:¬((x.args.length:Nat):Int) < ((x.args.length:Nat):Int):=by omega
  rw [hzl,jK] at hend;simp only [je,hlt,h1,h2,jcy,happ];rw [yG,ja9 (by omega)];simp only [je,hend]
 .intro i hi ih;have hi2:i < y.args.length:=by omega
  have hlt:((i:Nat):Int) < ((x.args.length:Nat):Int):=by omega
  have ta:=step i hi hi2;have li:(((x.args.zip y.args).take i).map ec).length=i:=take_len (by rw [yG];omega);have hf:jW (i+1) 80=true:=jhm (by omega);have hck:ck ((i:Int)+1)=some (vi ((i+1:Nat):Int)):=j8 (by omega) (by omega);generalize ((x.args.zip y.args).take i).map ec=R at *;rw [jyN,<-ih];simp only [je,hlt,jb hi,jb hi2,jf,li,hf,ta,hck,h1,h2]
def US (s:js) (es:J6) (o:Option Out):Prop:=
 (∀(W:J6) (off:Nat),W.drop off=es->off<=W.length->W.length<=1000->YJ (nA off) (nA (W.length - off)) (ZK s) (W.map ec) []=o)/\jfy (ZK s) (es.map ec) []=o/\
 (s = []->(∀(W:J6) (off:Nat),W.drop off=es->off<=W.length->W.length<=1000->jh1 (nA off) (nA (W.length - off)) (W.map ec) [] []=o)/\jdq (es.map ec) [] []=o)
theorem un2 (k:Nat) (ih:∀(s:js) (es:J6) (res:Option js),Z4 s es->Hgt s 126 es->zX k s es=some res->US s es (yd res)) (s:js) (l r:T) (rest:J6) (hi:Z4 s ((l,r)::rest)) (hg:Hgt s 126 ((l,r)::rest)) (res:Option js) (hu:zX (k+1) s ((l,r)::rest)=some res) (W:J6) (off:Nat) (hW:W.drop off=(l,r)::rest) (hlen:W.length<=1000):YJ (nA off) (nA (W.length - off)) (ZK s) (W.map ec) []=yd res:=by
 obtain ⟨d1,d2,d3⟩:=KF hW;obtain ⟨r1,r2⟩:=jcm d1;obtain ⟨al,ar,nl,nr⟩:=JM hi;have hv:=hi.1;have e1:=yF s hv l al (by omega);have e2:=yF s hv r ar (by omega);have w1:yc (nA off)=off:=rfl;have w2:yc (nA (W.length - off))=W.length - off:=rfl;have g1:jz .gtr false (nA (W.length - off)) (vi 0)=some (vb true):=by
  show some (vb (decide ((0:Int) < ((W.length - off:Nat):Int))))=_;rw [jR (by omega)]
 have g2:Q4 (W.length - off) (vi 0)=some 0:=yj (i:=0) (by omega);have g3:pB (W.length - off) (yq (W.map ec) off) none=some (W.length - off):=by
  rw [show yq (W.map ec) off=W.length - off by rw [qZ,jK]];exact yi (kD _)
 have g4:pB 0 (W.length - off) (some (vi 1))=some 1:=Js (n:=1) (by omega);have hn:zf (W.length - off) 1=W.length - (off+1):=by unfold zf;omega
 rw [jyM];cases sl:jD (sub s l)<;>rw [sl] at e1
 .have e1:G 194 [sb s,tm l]=some (.tup [.agg [sv [],.sl 2 []],vb false],[]):=e1;have hr:res=none:=jM (by unfold y7;rw [jl (Or.inl sl)]) hu;subst hr;obtain ⟨q,e2⟩:∃q:T × Bool,G 194 [sb s,tm r]=some (.tup [tm q.1,vb q.2],[]):=by
   cases h:jD (sub s r)<;>rw [h] at e2
   .exact ⟨(.mk [] [],false),e2⟩
   .exact ⟨(sub s r,true),e2⟩
  simp only [je,w1,w2,g1,g2,g3,g4,j6,r1,r2,e1,e2];rfl
 have e1:G 194 [sb s,tm l]=some (.tup [tm (sub s l),vb true],[]):=e1;cases sr:jD (sub s r)<;>rw [sr] at e2
 .have e2:G 194 [sb s,tm r]=some (.tup [.agg [sv [],.sl 2 []],vb false],[]):=e2;have hr:res=none:=jM (by unfold y7;rw [jl (Or.inr sr)]) hu;subst hr;simp only [je,w1,w2,g1,g2,g3,g4,j6,r1,r2,e1,e2];rfl
 have e2:G 194 [sb s,tm r]=some (.tup [tm (sub s r),vb true],[]):=e2;have xl:KO (sub s l):=KO.sub hv al;have xr:KO (sub s r):=KO.sub hv ar;have ml:=kO sl;have mr:=kO sr;have tl:=xl.tz (by omega);have tr:=xr.tz (by omega);have e3:=zw (sub s l) tl.wf (sub s r) tr.wf;have ll:=(j5 hv).1;cases hd:dq (sub s l) (sub s r)<;>rw [hd] at e3
 rotate_left
 .have hst:=KJ (rest:=rest) sl sr hd;have hnext:=ih _ _ res (zm hi hst).1 (zF hi hg hst) (kM hst hu);have hnext:=hnext.1 W (off+1) d2 (by omega) hlen;simp only [je,w1,w2,g1,g2,g3,g4,j6,r1,r2,e1,e2,e3,hn];exact hnext
 have v1:=yJ (sub s l) (xl.imp id λh=>h.1);have v2:=yJ (sub s r) (xr.imp id λh=>h.1);have bindC:jp (sub s l).name=true\/jp (sub s r).name=true->(∃q:Bool,G 217 [.agg [sv (sub s l).name,jQ (sub s l).args,sv (sub s r).name,jQ (sub s r).args]]=some (.tup [sb [jy (sub s l) (sub s r)],vb q],[])/\(q=false->yd res=yd none)/\(q=true-> ∃q2:Bool,∃u:js,G 218 [sb s,sb [jy (sub s l) (sub s r)]]=some (.tup [sb u,vb q2],[])/\(q2=false->yd res=yd none)/\(q2=true->YJ (nA (off+1)) (nA (W.length - (off+1))) (ZK u) (W.map ec) []=yd res))):=by
  intro hvar;have hst:=KH (rest:=rest) sl sr hd hvar;refine ⟨_,Yi _ _ xl xr (by omega) (by omega) hvar,λhq=> ?_,λhq=> ?_⟩
  .rw [hq,jH,jo kh] at hst;rw [jM hst hu]
  .rw [hq,jI] at hst;have hvp:jN [jy (sub s l) (sub s r)]=true:=by
    rw [ju] at hq;exact hq.2
   have ec1:=Qv s [jy (sub s l) (sub s r)] hv hvp;cases hc:jN (zG s [jy (sub s l) (sub s r)])
   .rw [hc,jo kh] at hst ec1;exact ⟨false,[],ec1,λ_=>by rw [jM hst hu],λh=>by cases h⟩
   .rw [hc,jl rfl] at hst ec1;refine ⟨true,_,ec1,(λh=>by cases h),λ_=> ?_⟩;have hnext:=ih _ _ res (zm hi hst).1 (zF hi hg hst) (kM hst hu);exact hnext.1 W (off+1) d2 (by omega) hlen
 have close:jp (sub s l).name=true\/jp (sub s r).name=true->_:=bindC;clear bindC;cases vl:jp (sub s l).name<;>rw [vl] at v1
 rotate_left
 .obtain ⟨q,b1,b2,b3⟩:=close (Or.inl vl);cases q
  .rw [b2 rfl];simp only [je,w1,w2,g1,g2,g3,g4,j6,r1,r2,e1,e2,e3,v1,v2,b1];rfl
  .obtain ⟨q2,u,b4,b5,b6⟩:=b3 rfl;cases q2
   .rw [b5 rfl];simp only [je,w1,w2,g1,g2,g3,g4,j6,r1,r2,e1,e2,e3,v1,v2,b1,b4];rfl
   .rw [<-b6 rfl];simp only [je,w1,w2,g1,g2,g3,g4,j6,r1,r2,e1,e2,e3,v1,v2,b1,b4,hn]
 cases vr:jp (sub s r).name<;>rw [vr] at v2
 rotate_left
 .obtain ⟨q,b1,b2,b3⟩:=close (Or.inr vr);cases q
  .rw [b2 rfl];simp only [je,w1,w2,g1,g2,g3,g4,j6,r1,r2,e1,e2,e3,v1,v2,b1];rfl
  .obtain ⟨q2,u,b4,b5,b6⟩:=b3 rfl;cases q2
   .rw [b5 rfl];simp only [je,w1,w2,g1,g2,g3,g4,j6,r1,r2,e1,e2,e3,v1,v2,b1,b4];rfl
   .rw [<-b6 rfl];simp only [je,w1,w2,g1,g2,g3,g4,j6,r1,r2,e1,e2,e3,v1,v2,b1,b4,hn]
 have hst:=KI (rest:=rest) sl sr hd vl vr;by_cases hnm:(sub s l).name=(sub s r).name;rotate_left
 .rw [jo (λh=>hnm h.1)] at hst;have hnd:=kx hnm;rw [jM hst hu];simp only [je,w1,w2,g1,g2,g3,g4,j6,r1,r2,e1,e2,e3,v1,v2,hnd];rfl
 have hnd:=jR hnm;by_cases hal:(sub s l).args.length=(sub s r).args.length;rotate_left
 .rw [jo (λh=>hal h.2)] at hst;have hal':decide ((((sub s l).args.length:Nat):Int)=(((sub s r).args.length:Nat):Int))=false:=kx (by omega);rw [jM hst hu];simp only [je,w1,w2,g1,g2,g3,g4,j6,r1,r2,e1,e2,e3,v1,v2,hnd,hal'];rfl
 rw [jl ⟨hnm,hal⟩] at hst;have hnext:=ih _ _ res (zm hi hst).1 (zF hi hg hst) (kM hst hu);have hnext:=hnext.2.1;have hin:=jyc s W (off+1) hlen (sub s l) (sub s r) hal (Yr xl);rw [d2] at hin;rw [hnext] at hin;have hal':decide ((((sub s l).args.length:Nat):Int)=(((sub s r).args.length:Nat):Int))=true:=jR (by omega);simp only [je,w1,w2,g1,g2,g3,g4,j6,r1,r2,e1,e2,e3,v1,v2,hnd,hal',hn];exact hin
theorem un8 (k:Nat) (ih:∀(s:js) (es:J6) (res:Option js),Z4 s es->Hgt s 126 es->zX k s es=some res->US s es (yd res)) (s:js) (l r:T) (rest:J6) (hi:Z4 s ((l,r)::rest)) (hg:Hgt s 126 ((l,r)::rest)) (res:Option js) (hu:zX (k+1) s ((l,r)::rest)=some res) (W:J6) (hW:W=(l,r)::rest) (hlen:W.length<=1000):jfy (ZK s) (W.map ec) []=yd res:=by
 have hW0:W.drop 0=(l,r)::rest:=hW;obtain ⟨d1,d2,d3⟩:=KF hW0;obtain ⟨r1,r2⟩:=jcm d1;obtain ⟨al,ar,nl,nr⟩:=JM hi;have hv:=hi.1;have e1:=yF s hv l al (by omega);have e2:=yF s hv r ar (by omega);have g1:jz .gtr false (qh (W.map ec)) (vi 0)=some (vb true):=by
  rw [Yu,jK,jcd,jR (by omega)]
 have g2:Q4 W.length (vi 0)=some 0:=yj (i:=0) (by omega);have g3:pB (yU (W.map ec)) (yq (W.map ec) 0) none=some W.length:=by
  rw [qK,show yq (W.map ec) 0=W.length by rw [qZ,jK];rfl];exact yi (kD _)
 have g4:pB 0 W.length (some (vi 1))=some 1:=Js (n:=1) (by omega);have g0:(0:Int) < ((W.length:Nat):Int):=by omega
 have hn:zf (W.length) 1=W.length - (0+1):=by unfold zf;omega
 rw [jyP];cases sl:jD (sub s l)<;>rw [sl] at e1
 .have e1:G 194 [sb s,tm l]=some (.tup [.agg [sv [],.sl 2 []],vb false],[]):=e1;have hr:res=none:=jM (by unfold y7;rw [jl (Or.inl sl)]) hu;subst hr;obtain ⟨q,e2⟩:∃q:T × Bool,G 194 [sb s,tm r]=some (.tup [tm q.1,vb q.2],[]):=by
   cases h:jD (sub s r)<;>rw [h] at e2
   .exact ⟨(.mk [] [],false),e2⟩
   .exact ⟨(sub s r,true),e2⟩
  simp only [je,g0,g2,g3,g4,r1,r2,e1,e2];rfl
 have e1:G 194 [sb s,tm l]=some (.tup [tm (sub s l),vb true],[]):=e1;cases sr:jD (sub s r)<;>rw [sr] at e2
 .have e2:G 194 [sb s,tm r]=some (.tup [.agg [sv [],.sl 2 []],vb false],[]):=e2;have hr:res=none:=jM (by unfold y7;rw [jl (Or.inr sr)]) hu;subst hr;simp only [je,g0,g2,g3,g4,r1,r2,e1,e2];rfl
 have e2:G 194 [sb s,tm r]=some (.tup [tm (sub s r),vb true],[]):=e2;have xl:KO (sub s l):=KO.sub hv al;have xr:KO (sub s r):=KO.sub hv ar;have ml:=kO sl;have mr:=kO sr;have tl:=xl.tz (by omega);have tr:=xr.tz (by omega);have e3:=zw (sub s l) tl.wf (sub s r) tr.wf;have ll:=(j5 hv).1;cases hd:dq (sub s l) (sub s r)<;>rw [hd] at e3
 rotate_left
 .have hst:=KJ (rest:=rest) sl sr hd;have hnext:=ih _ _ res (zm hi hst).1 (zF hi hg hst) (kM hst hu);have hnext:=hnext.1 W (0+1) d2 (by omega) hlen;simp only [je,g0,g2,g3,g4,r1,r2,e1,e2,e3,hn];exact hnext
 have v1:=yJ (sub s l) (xl.imp id λh=>h.1);have v2:=yJ (sub s r) (xr.imp id λh=>h.1);have bindC:jp (sub s l).name=true\/jp (sub s r).name=true->(∃q:Bool,G 217 [.agg [sv (sub s l).name,jQ (sub s l).args,sv (sub s r).name,jQ (sub s r).args]]=some (.tup [sb [jy (sub s l) (sub s r)],vb q],[])/\(q=false->yd res=yd none)/\(q=true-> ∃q2:Bool,∃u:js,G 218 [sb s,sb [jy (sub s l) (sub s r)]]=some (.tup [sb u,vb q2],[])/\(q2=false->yd res=yd none)/\(q2=true->YJ (nA (0+1)) (nA (W.length - (0+1))) (ZK u) (W.map ec) []=yd res))):=by
  intro hvar;have hst:=KH (rest:=rest) sl sr hd hvar;refine ⟨_,Yi _ _ xl xr (by omega) (by omega) hvar,λhq=> ?_,λhq=> ?_⟩
  .rw [hq,jH,jo kh] at hst;rw [jM hst hu]
  .rw [hq,jI] at hst;have hvp:jN [jy (sub s l) (sub s r)]=true:=by
    rw [ju] at hq;exact hq.2
   have ec1:=Qv s [jy (sub s l) (sub s r)] hv hvp;cases hc:jN (zG s [jy (sub s l) (sub s r)])
   .rw [hc,jo kh] at hst ec1;exact ⟨false,[],ec1,λ_=>by rw [jM hst hu],λh=>by cases h⟩
   .rw [hc,jl rfl] at hst ec1;refine ⟨true,_,ec1,(λh=>by cases h),λ_=> ?_⟩;have hnext:=ih _ _ res (zm hi hst).1 (zF hi hg hst) (kM hst hu);exact hnext.1 W (0+1) d2 (by omega) hlen
 have close:jp (sub s l).name=true\/jp (sub s r).name=true->_:=bindC;clear bindC;cases vl:jp (sub s l).name<;>rw [vl] at v1
 rotate_left
 .obtain ⟨q,b1,b2,b3⟩:=close (Or.inl vl);cases q
  .rw [b2 rfl];simp only [je,g0,g2,g3,g4,r1,r2,e1,e2,e3,v1,v2,b1];rfl
  .obtain ⟨q2,u,b4,b5,b6⟩:=b3 rfl;cases q2
   .rw [b5 rfl];simp only [je,g0,g2,g3,g4,r1,r2,e1,e2,e3,v1,v2,b1,b4];rfl
   .rw [<-b6 rfl];simp only [je,g0,g2,g3,g4,r1,r2,e1,e2,e3,v1,v2,b1,b4,hn]
 cases vr:jp (sub s r).name<;>rw [vr] at v2
 rotate_left
 .obtain ⟨q,b1,b2,b3⟩:=close (Or.inr vr);cases q
  .rw [b2 rfl];simp only [je,g0,g2,g3,g4,r1,r2,e1,e2,e3,v1,v2,b1];rfl
  .obtain ⟨q2,u,b4,b5,b6⟩:=b3 rfl;cases q2
   .rw [b5 rfl];simp only [je,g0,g2,g3,g4,r1,r2,e1,e2,e3,v1,v2,b1,b4];rfl
   .rw [<-b6 rfl];simp only [je,g0,g2,g3,g4,r1,r2,e1,e2,e3,v1,v2,b1,b4,hn]
 have hst:=KI (rest:=rest) sl sr hd vl vr;by_cases hnm:(sub s l).name=(sub s r).name;rotate_left
 .rw [jo (λh=>hnm h.1)] at hst;have hnd:=kx hnm;rw [jM hst hu];simp only [je,g0,g2,g3,g4,r1,r2,e1,e2,e3,v1,v2,hnd];rfl
 have hnd:=jR hnm;by_cases hal:(sub s l).args.length=(sub s r).args.length;rotate_left
 .rw [jo (λh=>hal h.2)] at hst;have hal':decide ((((sub s l).args.length:Nat):Int)=(((sub s r).args.length:Nat):Int))=false:=kx (by omega);rw [jM hst hu];simp only [je,g0,g2,g3,g4,r1,r2,e1,e2,e3,v1,v2,hnd,hal'];rfl
 rw [jl ⟨hnm,hal⟩] at hst;have hnext:=ih _ _ res (zm hi hst).1 (zF hi hg hst) (kM hst hu);have hnext:=hnext.2.1;have hin:=jyc s W (0+1) hlen (sub s l) (sub s r) hal (Yr xl);rw [d2] at hin;rw [hnext] at hin;have hal':decide ((((sub s l).args.length:Nat):Int)=(((sub s r).args.length:Nat):Int))=true:=jR (by omega);simp only [je,g0,g2,g3,g4,r1,r2,e1,e2,e3,v1,v2,hnd,hal',hn];exact hin
theorem un1 (k:Nat) (ih:∀(s:js) (es:J6) (res:Option js),Z4 s es->Hgt s 126 es->zX k s es=some res->US s es (yd res)) (l r:T) (rest:J6) (hi:Z4 [] ((l,r)::rest)) (hg:Hgt [] 126 ((l,r)::rest)) (res:Option js) (hu:zX (k+1) [] ((l,r)::rest)=some res) (W:J6) (off:Nat) (hW:W.drop off=(l,r)::rest) (hlen:W.length<=1000):jh1 (nA off) (nA (W.length - off)) (W.map ec) [] []=yd res:=by
 obtain ⟨d1,d2,d3⟩:=KF hW;obtain ⟨r1,r2⟩:=jcm d1;obtain ⟨al,ar,nl,nr⟩:=JM hi;have hv:=hi.1;have e1:=yF [] hv l al (by omega);have e2:=yF [] hv r ar (by omega);have w1:yc (nA off)=off:=rfl;have w2:yc (nA (W.length - off))=W.length - off:=rfl;have g1:jz .gtr false (nA (W.length - off)) (vi 0)=some (vb true):=by
  show some (vb (decide ((0:Int) < ((W.length - off:Nat):Int))))=_;rw [jR (by omega)]
 have g2:Q4 (W.length - off) (vi 0)=some 0:=yj (i:=0) (by omega);have g3:pB (W.length - off) (yq (W.map ec) off) none=some (W.length - off):=by
  rw [show yq (W.map ec) off=W.length - off by rw [qZ,jK]];exact yi (kD _)
 have g4:pB 0 (W.length - off) (some (vi 1))=some 1:=Js (n:=1) (by omega);have hn:zf (W.length - off) 1=W.length - (off+1):=by unfold zf;omega
 rw [jyL];cases sl:jD (sub [] l)<;>rw [sl] at e1
 .have e1:G 194 [.agg [.sl 3 []],tm l]=some (.tup [.agg [sv [],.sl 2 []],vb false],[]):=e1;have hr:res=none:=jM (by unfold y7;rw [jl (Or.inl sl)]) hu;subst hr;obtain ⟨q,e2⟩:∃q:T × Bool,G 194 [.agg [.sl 3 []],tm r]=some (.tup [tm q.1,vb q.2],[]):=by
   cases h:jD (sub [] r)<;>rw [h] at e2
   .exact ⟨(.mk [] [],false),e2⟩
   .exact ⟨(sub [] r,true),e2⟩
  simp only [je,w1,w2,g1,g2,g3,g4,j6,r1,r2,e1,e2];rfl
 have e1:G 194 [.agg [.sl 3 []],tm l]=some (.tup [tm (sub [] l),vb true],[]):=e1;cases sr:jD (sub [] r)<;>rw [sr] at e2
 .have e2:G 194 [.agg [.sl 3 []],tm r]=some (.tup [.agg [sv [],.sl 2 []],vb false],[]):=e2;have hr:res=none:=jM (by unfold y7;rw [jl (Or.inr sr)]) hu;subst hr;simp only [je,w1,w2,g1,g2,g3,g4,j6,r1,r2,e1,e2];rfl
 have e2:G 194 [.agg [.sl 3 []],tm r]=some (.tup [tm (sub [] r),vb true],[]):=e2;have xl:KO (sub [] l):=KO.sub hv al;have xr:KO (sub [] r):=KO.sub hv ar;have ml:=kO sl;have mr:=kO sr;have tl:=xl.tz (by omega);have tr:=xr.tz (by omega);have e3:=zw (sub [] l) tl.wf (sub [] r) tr.wf;have ll:=(j5 hv).1;cases hd:dq (sub [] l) (sub [] r)<;>rw [hd] at e3
 rotate_left
 .have hst:=KJ (rest:=rest) sl sr hd;have hnext:=ih _ _ res (zm hi hst).1 (zF hi hg hst) (kM hst hu);have hnext:=(hnext.2.2 rfl).1 W (off+1) d2 (by omega) hlen;simp only [je,w1,w2,g1,g2,g3,g4,j6,r1,r2,e1,e2,e3,hn];exact hnext
 have v1:=yJ (sub [] l) (xl.imp id λh=>h.1);have v2:=yJ (sub [] r) (xr.imp id λh=>h.1);have bindC:jp (sub [] l).name=true\/jp (sub [] r).name=true->(∃q:Bool,G 217 [.agg [sv (sub [] l).name,jQ (sub [] l).args,sv (sub [] r).name,jQ (sub [] r).args]]=some (.tup [sb [jy (sub [] l) (sub [] r)],vb q],[])/\(q=false->yd res=yd none)/\(q=true-> ∃q2:Bool,∃u:js,G 218 [.agg [.sl 3 []],sb [jy (sub [] l) (sub [] r)]]=some (.tup [sb u,vb q2],[])/\(q2=false->yd res=yd none)/\(q2=true->YJ (nA (off+1)) (nA (W.length - (off+1))) (ZK u) (W.map ec) []=yd res))):=by
  intro hvar;have hst:=KH (rest:=rest) sl sr hd hvar;refine ⟨_,Yi _ _ xl xr (by omega) (by omega) hvar,λhq=> ?_,λhq=> ?_⟩
  .rw [hq,jH,jo kh] at hst;rw [jM hst hu]
  .rw [hq,jI] at hst;have hvp:jN [jy (sub [] l) (sub [] r)]=true:=by
    rw [ju] at hq;exact hq.2
   have ec1:=Qv [] [jy (sub [] l) (sub [] r)] hv hvp;cases hc:jN (zG [] [jy (sub [] l) (sub [] r)])
   .rw [hc,jo kh] at hst ec1;exact ⟨false,[],ec1,λ_=>by rw [jM hst hu],λh=>by cases h⟩
   .rw [hc,jl rfl] at hst ec1;refine ⟨true,_,ec1,(λh=>by cases h),λ_=> ?_⟩;have hnext:=ih _ _ res (zm hi hst).1 (zF hi hg hst) (kM hst hu);exact hnext.1 W (off+1) d2 (by omega) hlen
 have close:jp (sub [] l).name=true\/jp (sub [] r).name=true->_:=bindC;clear bindC;cases vl:jp (sub [] l).name<;>rw [vl] at v1
 rotate_left
 .obtain ⟨q,b1,b2,b3⟩:=close (Or.inl vl);cases q
  .rw [b2 rfl];simp only [je,w1,w2,g1,g2,g3,g4,j6,r1,r2,e1,e2,e3,v1,v2,b1];rfl
  .obtain ⟨q2,u,b4,b5,b6⟩:=b3 rfl;cases q2
   .rw [b5 rfl];simp only [je,w1,w2,g1,g2,g3,g4,j6,r1,r2,e1,e2,e3,v1,v2,b1,b4];rfl
   .rw [<-b6 rfl];simp only [je,w1,w2,g1,g2,g3,g4,j6,r1,r2,e1,e2,e3,v1,v2,b1,b4,hn]
 cases vr:jp (sub [] r).name<;>rw [vr] at v2
 rotate_left
 .obtain ⟨q,b1,b2,b3⟩:=close (Or.inr vr);cases q
  .rw [b2 rfl];simp only [je,w1,w2,g1,g2,g3,g4,j6,r1,r2,e1,e2,e3,v1,v2,b1];rfl
  .obtain ⟨q2,u,b4,b5,b6⟩:=b3 rfl;cases q2
   .rw [b5 rfl];simp only [je,w1,w2,g1,g2,g3,g4,j6,r1,r2,e1,e2,e3,v1,v2,b1,b4];rfl
   .rw [<-b6 rfl];simp only [je,w1,w2,g1,g2,g3,g4,j6,r1,r2,e1,e2,e3,v1,v2,b1,b4,hn]
 have hst:=KI (rest:=rest) sl sr hd vl vr;by_cases hnm:(sub [] l).name=(sub [] r).name;rotate_left
 .rw [jo (λh=>hnm h.1)] at hst;have hnd:=kx hnm;rw [jM hst hu];simp only [je,w1,w2,g1,g2,g3,g4,j6,r1,r2,e1,e2,e3,v1,v2,hnd];rfl
 have hnd:=jR hnm;by_cases hal:(sub [] l).args.length=(sub [] r).args.length;rotate_left
 .rw [jo (λh=>hal h.2)] at hst;have hal':decide ((((sub [] l).args.length:Nat):Int)=(((sub [] r).args.length:Nat):Int))=false:=kx (by omega);rw [jM hst hu];simp only [je,w1,w2,g1,g2,g3,g4,j6,r1,r2,e1,e2,e3,v1,v2,hnd,hal'];rfl
 rw [jl ⟨hnm,hal⟩] at hst;have hnext:=ih _ _ res (zm hi hst).1 (zF hi hg hst) (kM hst hu);have hnext:=(hnext.2.2 rfl).2;have hin:=jyb W (off+1) hlen (sub [] l) (sub [] r) hal (Yr xl);rw [d2] at hin;rw [hnext] at hin;have hal':decide ((((sub [] l).args.length:Nat):Int)=(((sub [] r).args.length:Nat):Int))=true:=jR (by omega);simp only [je,w1,w2,g1,g2,g3,g4,j6,r1,r2,e1,e2,e3,v1,v2,hnd,hal',hn];exact hin
theorem un6 (k:Nat) (ih:∀(s:js) (es:J6) (res:Option js),Z4 s es->Hgt s 126 es->zX k s es=some res->US s es (yd res)) (l r:T) (rest:J6) (hi:Z4 [] ((l,r)::rest)) (hg:Hgt [] 126 ((l,r)::rest)) (res:Option js) (hu:zX (k+1) [] ((l,r)::rest)=some res) (W:J6) (hW:W=(l,r)::rest) (hlen:W.length<=1000):jdq (W.map ec) [] []=yd res:=by
 have hW0:W.drop 0=(l,r)::rest:=hW;obtain ⟨d1,d2,d3⟩:=KF hW0;obtain ⟨r1,r2⟩:=jcm d1;obtain ⟨al,ar,nl,nr⟩:=JM hi;have hv:=hi.1;have e1:=yF [] hv l al (by omega);have e2:=yF [] hv r ar (by omega);have g1:jz .gtr false (qh (W.map ec)) (vi 0)=some (vb true):=by
  rw [Yu,jK,jcd,jR (by omega)]
 have g2:Q4 W.length (vi 0)=some 0:=yj (i:=0) (by omega);have g3:pB (yU (W.map ec)) (yq (W.map ec) 0) none=some W.length:=by
  rw [qK,show yq (W.map ec) 0=W.length by rw [qZ,jK];rfl];exact yi (kD _)
 have g4:pB 0 W.length (some (vi 1))=some 1:=Js (n:=1) (by omega);have g0:(0:Int) < ((W.length:Nat):Int):=by omega
 have hn:zf (W.length) 1=W.length - (0+1):=by unfold zf;omega
 rw [jsE];cases sl:jD (sub [] l)<;>rw [sl] at e1
 .have e1:G 194 [.agg [.sl 3 []],tm l]=some (.tup [.agg [sv [],.sl 2 []],vb false],[]):=e1;have hr:res=none:=jM (by unfold y7;rw [jl (Or.inl sl)]) hu;subst hr;obtain ⟨q,e2⟩:∃q:T × Bool,G 194 [.agg [.sl 3 []],tm r]=some (.tup [tm q.1,vb q.2],[]):=by
   cases h:jD (sub [] r)<;>rw [h] at e2
   .exact ⟨(.mk [] [],false),e2⟩
   .exact ⟨(sub [] r,true),e2⟩
  simp only [je,g0,g2,g3,g4,r1,r2,e1,e2];rfl
 have e1:G 194 [.agg [.sl 3 []],tm l]=some (.tup [tm (sub [] l),vb true],[]):=e1;cases sr:jD (sub [] r)<;>rw [sr] at e2
 .have e2:G 194 [.agg [.sl 3 []],tm r]=some (.tup [.agg [sv [],.sl 2 []],vb false],[]):=e2;have hr:res=none:=jM (by unfold y7;rw [jl (Or.inr sr)]) hu;subst hr;simp only [je,g0,g2,g3,g4,r1,r2,e1,e2];rfl
 have e2:G 194 [.agg [.sl 3 []],tm r]=some (.tup [tm (sub [] r),vb true],[]):=e2;have xl:KO (sub [] l):=KO.sub hv al;have xr:KO (sub [] r):=KO.sub hv ar;have ml:=kO sl;have mr:=kO sr;have tl:=xl.tz (by omega);have tr:=xr.tz (by omega);have e3:=zw (sub [] l) tl.wf (sub [] r) tr.wf;have ll:=(j5 hv).1;cases hd:dq (sub [] l) (sub [] r)<;>rw [hd] at e3
 rotate_left
 .have hst:=KJ (rest:=rest) sl sr hd;have hnext:=ih _ _ res (zm hi hst).1 (zF hi hg hst) (kM hst hu);have hnext:=(hnext.2.2 rfl).1 W (0+1) d2 (by omega) hlen;simp only [je,g0,g2,g3,g4,r1,r2,e1,e2,e3,hn];exact hnext
 have v1:=yJ (sub [] l) (xl.imp id λh=>h.1);have v2:=yJ (sub [] r) (xr.imp id λh=>h.1);have bindC:jp (sub [] l).name=true\/jp (sub [] r).name=true->(∃q:Bool,G 217 [.agg [sv (sub [] l).name,jQ (sub [] l).args,sv (sub [] r).name,jQ (sub [] r).args]]=some (.tup [sb [jy (sub [] l) (sub [] r)],vb q],[])/\(q=false->yd res=yd none)/\(q=true-> ∃q2:Bool,∃u:js,G 218 [.agg [.sl 3 []],sb [jy (sub [] l) (sub [] r)]]=some (.tup [sb u,vb q2],[])/\(q2=false->yd res=yd none)/\(q2=true->YJ (nA (0+1)) (nA (W.length - (0+1))) (ZK u) (W.map ec) []=yd res))):=by
  intro hvar;have hst:=KH (rest:=rest) sl sr hd hvar;refine ⟨_,Yi _ _ xl xr (by omega) (by omega) hvar,λhq=> ?_,λhq=> ?_⟩
  .rw [hq,jH,jo kh] at hst;rw [jM hst hu]
  .rw [hq,jI] at hst;have hvp:jN [jy (sub [] l) (sub [] r)]=true:=by
    rw [ju] at hq;exact hq.2
   have ec1:=Qv [] [jy (sub [] l) (sub [] r)] hv hvp;cases hc:jN (zG [] [jy (sub [] l) (sub [] r)])
   .rw [hc,jo kh] at hst ec1;exact ⟨false,[],ec1,λ_=>by rw [jM hst hu],λh=>by cases h⟩
   .rw [hc,jl rfl] at hst ec1;refine ⟨true,_,ec1,(λh=>by cases h),λ_=> ?_⟩;have hnext:=ih _ _ res (zm hi hst).1 (zF hi hg hst) (kM hst hu);exact hnext.1 W (0+1) d2 (by omega) hlen
 have close:jp (sub [] l).name=true\/jp (sub [] r).name=true->_:=bindC;clear bindC;cases vl:jp (sub [] l).name<;>rw [vl] at v1
 rotate_left
 .obtain ⟨q,b1,b2,b3⟩:=close (Or.inl vl);cases q
  .rw [b2 rfl];simp only [je,g0,g2,g3,g4,r1,r2,e1,e2,e3,v1,v2,b1];rfl
  .obtain ⟨q2,u,b4,b5,b6⟩:=b3 rfl;cases q2
   .rw [b5 rfl];simp only [je,g0,g2,g3,g4,r1,r2,e1,e2,e3,v1,v2,b1,b4];rfl
   .rw [<-b6 rfl];simp only [je,g0,g2,g3,g4,r1,r2,e1,e2,e3,v1,v2,b1,b4,hn]
 cases vr:jp (sub [] r).name<;>rw [vr] at v2
 rotate_left
 .obtain ⟨q,b1,b2,b3⟩:=close (Or.inr vr);cases q
  .rw [b2 rfl];simp only [je,g0,g2,g3,g4,r1,r2,e1,e2,e3,v1,v2,b1];rfl
  .obtain ⟨q2,u,b4,b5,b6⟩:=b3 rfl;cases q2
   .rw [b5 rfl];simp only [je,g0,g2,g3,g4,r1,r2,e1,e2,e3,v1,v2,b1,b4];rfl
   .rw [<-b6 rfl];simp only [je,g0,g2,g3,g4,r1,r2,e1,e2,e3,v1,v2,b1,b4,hn]
 have hst:=KI (rest:=rest) sl sr hd vl vr;by_cases hnm:(sub [] l).name=(sub [] r).name;rotate_left
 .rw [jo (λh=>hnm h.1)] at hst;have hnd:=kx hnm;rw [jM hst hu];simp only [je,g0,g2,g3,g4,r1,r2,e1,e2,e3,v1,v2,hnd];rfl
 have hnd:=jR hnm;by_cases hal:(sub [] l).args.length=(sub [] r).args.length;rotate_left
 .rw [jo (λh=>hal h.2)] at hst;have hal':decide ((((sub [] l).args.length:Nat):Int)=(((sub [] r).args.length:Nat):Int))=false:=kx (by omega);rw [jM hst hu];simp only [je,g0,g2,g3,g4,r1,r2,e1,e2,e3,v1,v2,hnd,hal'];rfl
 rw [jl ⟨hnm,hal⟩] at hst;have hnext:=ih _ _ res (zm hi hst).1 (zF hi hg hst) (kM hst hu);have hnext:=(hnext.2.2 rfl).2;have hin:=jyb W (0+1) hlen (sub [] l) (sub [] r) hal (Yr xl);rw [d2] at hin;rw [hnext] at hin;have hal':decide ((((sub [] l).args.length:Nat):Int)=(((sub [] r).args.length:Nat):Int))=true:=jR (by omega);simp only [je,g0,g2,g3,g4,r1,r2,e1,e2,e3,v1,v2,hnd,hal',hn];exact hin
theorem jEh (s:js):US s [] (yd (some s)):=by
 refine ⟨λW off hW h1 h2=> ?_,?_,λhs=> ?_⟩
 .have h3:=congrArg List.length hW;rw [qS,qO] at h3;have w2:yc (nA (W.length - off))=W.length - off:=rfl;have g1:jz .gtr false (nA (W.length - off)) (vi 0)=some (vb false):=by
   show some (vb (decide ((0:Int) < ((W.length - off:Nat):Int))))=_;rw [kx (by omega)]
  rw [jyM];simp only [je,w2,g1];rfl
 .rw [jyP];have g1:jz .gtr false (qh (List.map ec [])) (vi 0)=some (vb false):=rfl;simp only [je,g1];rfl
 .subst hs;refine ⟨λW off hW h1 h2=> ?_,?_⟩
  .have h3:=congrArg List.length hW;rw [qS,qO] at h3;have w2:yc (nA (W.length - off))=W.length - off:=rfl;have g1:jz .gtr false (nA (W.length - off)) (vi 0)=some (vb false):=by
    show some (vb (decide ((0:Int) < ((W.length - off:Nat):Int))))=_;rw [kx (by omega)]
   rw [jyL];simp only [je,w2,g1];rfl
  .rw [jsE];have g1:jz .gtr false (qh (List.map ec [])) (vi 0)=some (vb false):=rfl;simp only [je,g1];rfl
theorem jHG:∀(k:Nat) (s:js) (es:J6) (res:Option js),Z4 s es->Hgt s 126 es->zX k s es=some res->US s es (yd res):=by
 intro k;induction k with
 | zero=>
  intro s es res hi hg hu;cases es with
  | nil=>simp only [zX,kL] at hu;rw [<-hu];exact jEh s
  | cons p es=>simp [zX] at hu
 | succ k ih=>
  intro s es res hi hg hu;cases es with
  | nil=>simp only [zX,kL] at hu;rw [<-hu];exact jEh s
  | cons p rest=>
   obtain ⟨l,r⟩:=p;have hl:=hg.len;refine ⟨λW off hW _ hlen=>un2 k ih s l r rest hi hg res hu W off hW hlen,un8 k ih s l r rest hi hg res hu _ rfl (by omega),λhs=> ?_⟩;subst hs;exact ⟨λW off hW _ hlen=>un1 k ih l r rest hi hg res hu W off hW hlen,un6 k ih l r rest hi hg res hu _ rfl (by omega)⟩
theorem jKI (W:J6):jr4 (W.map ec) [] []=jdq (W.map ec) [] []:=by
 rw [jFn,jsE]
theorem jfd (a b:T) (ha:Exx a) (hb:Exx b):G 190 [tm a,tm b]=yd (Q0 a b):=by
 obtain ⟨k,hk⟩:=jcw ha hb;have h:=((jHG k [] [(a,b)] _ (juZ ha hb) (jG7 a b) hk).2.2 rfl).2;rw [<-jKI] at h;rw [jJg];simp only [je];exact h
theorem juo (s:js) (W:J6) (off:Nat) (hW:W.length<=1000) (x y:T) (hl:x.args.length=y.args.length) (h4:x.args.length<=4) :
  jmt (nA off) (nA (W.length - off)) (vb true) (vi 0) (ZK s) (sv x.name) (jQ x.args) (sv y.name) (jQ y.args) (W.map ec) [] [] []=jfx (ZK s) ((x.args.zip y.args++W.drop off).map ec) [] []:=by
 have h1:yc (nA off)=off:=rfl;have h2:yc (nA (W.length - off))=W.length - off:=rfl;have hend:jW (((x.args.zip y.args).map ec).length+((W.drop off).map ec).length) 80=true:=by
  rw [jK,jK,yG,qS];exact jhm (by omega)
 have hzl:((x.args.zip y.args).map ec).length=x.args.length:=by rw [jK,yG];omega
 have happ:kq ((x.args.zip y.args).map ec) ((W.drop off).map ec)=(x.args.zip y.args++W.drop off).map ec:=by rw [zz];rfl
 have step:∀i,(hi:i < x.args.length)->(hi2:i < y.args.length)->kq (((x.args.zip y.args).take i).map ec) [[sv x.args[i].name,jQ x.args[i].args,sv y.args[i].name,jQ y.args[i].args]]=((x.args.zip y.args).take (i+1)).map ec:=λi hi hi2=>jfg hi hi2;have key:=upto (P:=λi=>jr3 (nA off) (nA (W.length - off)) (vb true) (vi (i:Nat)) (ZK s) (sv x.name) (jQ x.args) (sv y.name) (jQ y.args) (W.map ec) (((x.args.zip y.args).take i).map ec) [] []=jfx (ZK s) ((x.args.zip y.args++W.drop off).map ec) [] []) (n:=x.args.length) ?_ ?_
 .have hend2:(x.args.zip y.args).take x.args.length=x.args.zip y.args:=ql (by rw [yG];omega)
  rw [jFm];by_cases h0:0 < x.args.length
  .have hi:=h0;have hi2:0 < y.args.length:=by omega
   have hlt:(0:Int) < ((x.args.length:Nat):Int):=by omega
   have ix:=jb (k:=2) (f:=jm) hi;have ix2:=jb (k:=2) (f:=jm) hi2;have ta:=step 0 hi hi2;simp only [Jv,ya,jP,Jg] at ta ix ix2;have hf:jW 1 80=true:=jhm (by omega);have hck:ck (0+1)=some (vi ((1:Nat):Int)):=j8 (n:=0+1) (by omega) (by omega);have key:=key 1 (by omega);rw [<-key];simp only [je,hlt,ix,ix2,jf,hf,ta,hck,h1,h2];generalize hB:zY _ _ _=B;have hB':B=some (.agg [sv x.args[0].name,jQ x.args[0].args,sv y.args[0].name,jQ y.args[0].args]):=by rw [<-hB];kernel_rfl
   rw [hB'];simp only [je,hf,ta,hck,h1,h2]
  .have hlt:¬(0:Int) < ((x.args.length:Nat):Int):=by omega
   have he:x.args = []:=jbd (by omega);have hz:x.args.zip y.args = []:=by rw [he];rfl
   rw [hz] at hend happ ⊢;have hend:jW ((W.drop off).map ec).length 80=true:=by simpa using hend
   have happ:kq [] ((W.drop off).map ec)=(W.drop off).map ec:=rfl;simp only [je,hlt,h1,h2,jcy,KN];rw [jK] at hend;simp only [je,hend,happ]
 .have hend2:(x.args.zip y.args).take x.args.length=x.args.zip y.args:=ql (by rw [yG];omega)
  rw [hend2,jyE];have hlt:¬((x.args.length:Nat):Int) < ((x.args.length:Nat):Int):=by omega
  rw [hzl,jK] at hend;simp only [je,hlt,h1,h2,jcy,happ];rw [yG,ja9 (by omega)];simp only [je,hend]
 .intro i hi ih;have hi2:i < y.args.length:=by omega
  have hlt:((i:Nat):Int) < ((x.args.length:Nat):Int):=by omega
  have ta:=step i hi hi2;have li:(((x.args.zip y.args).take i).map ec).length=i:=take_len (by rw [yG];omega);have hf:jW (i+1) 80=true:=jhm (by omega);have hck:ck ((i:Int)+1)=some (vi ((i+1:Nat):Int)):=j8 (by omega) (by omega);generalize ((x.args.zip y.args).take i).map ec=R at *;rw [jyE,<-ih];simp only [je,hlt,jb hi,jb hi2,jf];generalize hB:zY _ _ _=B;have hB':B=some (.agg [sv x.args[i].name,jQ x.args[i].args,sv y.args[i].name,jQ y.args[i].args]):=by rw [<-hB];kernel_rfl
  rw [hB'];simp only [je,li,hf,ta,hck,h1,h2]
theorem jun (W:J6) (off:Nat) (hW:W.length<=1000) (x y:T) (hl:x.args.length=y.args.length) (h4:x.args.length<=4) :
  jms (nA off) (nA (W.length - off)) (vb true) (vi 0) (sv x.name) (jQ x.args) (sv y.name) (jQ y.args) (W.map ec) [] [] [] []=jdp ((x.args.zip y.args++W.drop off).map ec) [] [] []:=by
 have h1:yc (nA off)=off:=rfl;have h2:yc (nA (W.length - off))=W.length - off:=rfl;have hend:jW (((x.args.zip y.args).map ec).length+((W.drop off).map ec).length) 80=true:=by
  rw [jK,jK,yG,qS];exact jhm (by omega)
 have hzl:((x.args.zip y.args).map ec).length=x.args.length:=by rw [jK,yG];omega
 have happ:kq ((x.args.zip y.args).map ec) ((W.drop off).map ec)=(x.args.zip y.args++W.drop off).map ec:=by rw [zz];rfl
 have step:∀i,(hi:i < x.args.length)->(hi2:i < y.args.length)->kq (((x.args.zip y.args).take i).map ec) [[sv x.args[i].name,jQ x.args[i].args,sv y.args[i].name,jQ y.args[i].args]]=((x.args.zip y.args).take (i+1)).map ec:=λi hi hi2=>jfg hi hi2;have key:=upto (P:=λi=>jr2 (nA off) (nA (W.length - off)) (vb true) (vi (i:Nat)) (sv x.name) (jQ x.args) (sv y.name) (jQ y.args) (W.map ec) (((x.args.zip y.args).take i).map ec) [] [] []=jdp ((x.args.zip y.args++W.drop off).map ec) [] [] []) (n:=x.args.length) ?_ ?_
 .have hend2:(x.args.zip y.args).take x.args.length=x.args.zip y.args:=ql (by rw [yG];omega)
  rw [jFl];by_cases h0:0 < x.args.length
  .have hi:=h0;have hi2:0 < y.args.length:=by omega
   have hlt:(0:Int) < ((x.args.length:Nat):Int):=by omega
   have ix:=jb (k:=2) (f:=jm) hi;have ix2:=jb (k:=2) (f:=jm) hi2;have ta:=step 0 hi hi2;simp only [Jv,ya,jP,Jg] at ta ix ix2;have hf:jW 1 80=true:=jhm (by omega);have hck:ck (0+1)=some (vi ((1:Nat):Int)):=j8 (n:=0+1) (by omega) (by omega);have key:=key 1 (by omega);rw [<-key];simp only [je,hlt,ix,ix2,jf,hf,ta,hck,h1,h2];generalize hB:zY _ _ _=B;have hB':B=some (.agg [sv x.args[0].name,jQ x.args[0].args,sv y.args[0].name,jQ y.args[0].args]):=by rw [<-hB];kernel_rfl
   rw [hB'];simp only [je,hf,ta,hck,h1,h2]
  .have hlt:¬(0:Int) < ((x.args.length:Nat):Int):=by omega
   have he:x.args = []:=jbd (by omega);have hz:x.args.zip y.args = []:=by rw [he];rfl
   rw [hz] at hend happ ⊢;have hend:jW ((W.drop off).map ec).length 80=true:=by simpa using hend
   have happ:kq [] ((W.drop off).map ec)=(W.drop off).map ec:=rfl;simp only [je,hlt,h1,h2,jcy,KN];rw [jK] at hend;simp only [je,hend,happ]
 .have hend2:(x.args.zip y.args).take x.args.length=x.args.zip y.args:=ql (by rw [yG];omega)
  rw [hend2,jyD];have hlt:¬((x.args.length:Nat):Int) < ((x.args.length:Nat):Int):=by omega
  rw [hzl,jK] at hend;simp only [je,hlt,h1,h2,jcy,happ];rw [yG,ja9 (by omega)];simp only [je,hend]
 .intro i hi ih;have hi2:i < y.args.length:=by omega
  have hlt:((i:Nat):Int) < ((x.args.length:Nat):Int):=by omega
  have ta:=step i hi hi2;have li:(((x.args.zip y.args).take i).map ec).length=i:=take_len (by rw [yG];omega);have hf:jW (i+1) 80=true:=jhm (by omega);have hck:ck ((i:Int)+1)=some (vi ((i+1:Nat):Int)):=j8 (by omega) (by omega);generalize ((x.args.zip y.args).take i).map ec=R at *;rw [jyD,<-ih];simp only [je,hlt,jb hi,jb hi2,jf];generalize hB:zY _ _ _=B;have hB':B=some (.agg [sv x.args[i].name,jQ x.args[i].args,sv y.args[i].name,jQ y.args[i].args]):=by rw [<-hB];kernel_rfl
  rw [hB'];simp only [je,li,hf,ta,hck,h1,h2]
def USS (s:js) (es:J6) (o:Option Out):Prop:=
 (∀(W:J6) (off:Nat),W.drop off=es->off<=W.length->W.length<=1000->YI (nA off) (nA (W.length - off)) (ZK s) (W.map ec) [] []=o)/\jfx (ZK s) (es.map ec) [] []=o/\
 (s = []->(∀(W:J6) (off:Nat),W.drop off=es->off<=W.length->W.length<=1000->jhY (nA off) (nA (W.length - off)) (W.map ec) [] [] []=o)/\jdp (es.map ec) [] [] []=o)
theorem jKK (k:Nat) (ih:∀(s:js) (es:J6) (res:Option js),Z4 s es->Hgt s 126 es->zX k s es=some res->USS s es (yd res)) (s:js) (l r:T) (rest:J6) (hi:Z4 s ((l,r)::rest)) (hg:Hgt s 126 ((l,r)::rest)) (res:Option js) (hu:zX (k+1) s ((l,r)::rest)=some res) (W:J6) (off:Nat) (hW:W.drop off=(l,r)::rest) (hlen:W.length<=1000):YI (nA off) (nA (W.length - off)) (ZK s) (W.map ec) [] []=yd res:=by
 obtain ⟨d1,d2,d3⟩:=KF hW;obtain ⟨r1,r2⟩:=jcm d1;obtain ⟨al,ar,nl,nr⟩:=JM hi;have hv:=hi.1;have e1:=qQ s hv l al (by omega);have e2:=qQ s hv r ar (by omega);have w1:yc (nA off)=off:=rfl;have w2:yc (nA (W.length - off))=W.length - off:=rfl;have g1:jz .gtr false (nA (W.length - off)) (vi 0)=some (vb true):=by
  show some (vb (decide ((0:Int) < ((W.length - off:Nat):Int))))=_;rw [jR (by omega)]
 have g2:Q4 (W.length - off) (vi 0)=some 0:=yj (i:=0) (by omega);have g3:pB (W.length - off) (yq (W.map ec) off) none=some (W.length - off):=by
  rw [show yq (W.map ec) off=W.length - off by rw [qZ,jK]];exact yi (kD _)
 have g4:pB 0 (W.length - off) (some (vi 1))=some 1:=Js (n:=1) (by omega);have hn:zf (W.length - off) 1=W.length - (off+1):=by unfold zf;omega
 rw [jyC];cases sl:jD (sub s l)<;>rw [sl] at e1
 .have e1:G 206 [sb s,tm l]=some (.tup [.agg [sv [],.sl 2 []],vb false],[]):=e1;have hr:res=none:=jM (by unfold y7;rw [jl (Or.inl sl)]) hu;subst hr;obtain ⟨q,e2⟩:∃q:T × Bool,G 206 [sb s,tm r]=some (.tup [tm q.1,vb q.2],[]):=by
   cases h:jD (sub s r)<;>rw [h] at e2
   .exact ⟨(.mk [] [],false),e2⟩
   .exact ⟨(sub s r,true),e2⟩
  simp only [je,w1,w2,g1,g2,g3,g4,j6,r1,r2,e1,e2];rfl
 have e1:G 206 [sb s,tm l]=some (.tup [tm (sub s l),vb true],[]):=e1;cases sr:jD (sub s r)<;>rw [sr] at e2
 .have e2:G 206 [sb s,tm r]=some (.tup [.agg [sv [],.sl 2 []],vb false],[]):=e2;have hr:res=none:=jM (by unfold y7;rw [jl (Or.inr sr)]) hu;subst hr;simp only [je,w1,w2,g1,g2,g3,g4,j6,r1,r2,e1,e2];rfl
 have e2:G 206 [sb s,tm r]=some (.tup [tm (sub s r),vb true],[]):=e2;have xl:KO (sub s l):=KO.sub hv al;have xr:KO (sub s r):=KO.sub hv ar;have ml:=kO sl;have mr:=kO sr;have tl:=xl.tz (by omega);have tr:=xr.tz (by omega);have e3:=qo (sub s l) tl.wf (sub s r) tr.wf;have ll:=(j5 hv).1;cases hd:dq (sub s l) (sub s r)<;>rw [hd] at e3
 rotate_left
 .have hst:=KJ (rest:=rest) sl sr hd;have hnext:=ih _ _ res (zm hi hst).1 (zF hi hg hst) (kM hst hu);have hnext:=hnext.1 W (off+1) d2 (by omega) hlen;simp only [je,w1,w2,g1,g2,g3,g4,j6,r1,r2,e1,e2,e3,hn];exact hnext
 have v1:=zE (sub s l).name ((kH _).1 tl.wf).1;have v2:=zE (sub s r).name ((kH _).1 tr.wf).1;have bindC:jp (sub s l).name=true\/jp (sub s r).name=true-> ∃q2:Bool,∃u:js,G 207 [sb s,sv (jy (sub s l) (sub s r)).1,tm (jy (sub s l) (sub s r)).2]=some (.tup [sb u,vb q2],[])/\(q2=false->yd res=yd none)/\(q2=true->YI (nA (off+1)) (nA (W.length - (off+1))) (ZK u) (W.map ec) [] []=yd res):=by
  intro hvar;have hst:=KH (rest:=rest) sl sr hd hvar;obtain ⟨bv,hor⟩:=jbP hvar;have bz:Tz (jy (sub s l) (sub s r)).2:=hor.elim (λh=>by rw [h.2];exact tl) λh=>by rw [h.2];exact tr
  have bk:(jy (sub s l) (sub s r)).1∈kT (jy (sub s l) (sub s r)).2\/(jy (sub s l) (sub s r)).2.name≠(jy (sub s l) (sub s r)).1:=by
   by_cases hnm:(jy (sub s l) (sub s r)).2.name=(jy (sub s l) (sub s r)).1
   .left;rw [vsv (by rw [hnm];exact bv),hnm];simp
   .exact Or.inr hnm
  obtain ⟨z,eb⟩:=jcJ s hv _ _ bv bz bk;rw [<-jkj] at eb;cases hc:(!decide ((jy (sub s l) (sub s r)).1∈kT (jy (sub s l) (sub s r)).2) && jN [jy (sub s l) (sub s r)]) && jN (zG s [jy (sub s l) (sub s r)])
  .rw [hc,jo kh] at hst;have eb:=eb.trans (by rw [show ((jy (sub s l) (sub s r)).1,(jy (sub s l) (sub s r)).2)=jy (sub s l) (sub s r) from rfl,hc,jo kh]);exact ⟨false,z,eb,λ_=>by rw [jM hst hu],λh=>by cases h⟩
  .rw [hc,jl rfl] at hst;have eb:=eb.trans (by rw [show ((jy (sub s l) (sub s r)).1,(jy (sub s l) (sub s r)).2)=jy (sub s l) (sub s r) from rfl,hc,jl rfl]);refine ⟨true,_,eb,(λh=>by cases h),λ_=> ?_⟩;have hnext:=ih _ _ res (zm hi hst).1 (zF hi hg hst) (kM hst hu);exact hnext.1 W (off+1) d2 (by omega) hlen
 cases vl:jp (sub s l).name<;>rw [vl] at v1
 rotate_left
 .cases vr:jp (sub s r).name<;>rw [vr] at v2
  .obtain ⟨q2,u,b1,b2,b3⟩:=bindC (Or.inl vl);have hbd:jy (sub s l) (sub s r)=((sub s l).name,sub s r):=jo (by rw [vl,vr];simp);rw [hbd] at b1;cases q2
   .rw [b2 rfl];simp only [je,w1,w2,g1,g2,g3,g4,j6,r1,r2,e1,e2,e3,v1,v2,b1];rfl
   .rw [<-b3 rfl];simp only [je,w1,w2,g1,g2,g3,g4,j6,r1,r2,e1,e2,e3,v1,v2,b1,hn]
  .cases hc:yQ (sub s l).name (sub s r).name
   .obtain ⟨q2,u,b1,b2,b3⟩:=bindC (Or.inl vl);have hbd:jy (sub s l) (sub s r)=((sub s l).name,sub s r):=jo (by rw [vl,vr,hc];simp);rw [hbd] at b1;cases q2
    .rw [b2 rfl];simp only [je,w1,w2,g1,g2,g3,g4,j6,r1,r2,e1,e2,e3,v1,v2,hc,b1];rfl
    .rw [<-b3 rfl];simp only [je,w1,w2,g1,g2,g3,g4,j6,r1,r2,e1,e2,e3,v1,v2,hc,b1,hn]
   .obtain ⟨q2,u,b1,b2,b3⟩:=bindC (Or.inl vl);have hbd:jy (sub s l) (sub s r)=((sub s r).name,sub s l):=jl (Or.inr ⟨vr,hc⟩);rw [hbd] at b1;cases q2
    .rw [b2 rfl];simp only [je,w1,w2,g1,g2,g3,g4,j6,r1,r2,e1,e2,e3,v1,v2,hc,b1];rfl
    .rw [<-b3 rfl];simp only [je,w1,w2,g1,g2,g3,g4,j6,r1,r2,e1,e2,e3,v1,v2,hc,b1,hn]
 cases vr:jp (sub s r).name<;>rw [vr] at v2
 rotate_left
 .obtain ⟨q2,u,b1,b2,b3⟩:=bindC (Or.inr vr);have hbd:jy (sub s l) (sub s r)=((sub s r).name,sub s l):=jl (Or.inl vl);rw [hbd] at b1;cases q2
  .rw [b2 rfl];simp only [je,w1,w2,g1,g2,g3,g4,j6,r1,r2,e1,e2,e3,v1,v2,b1];rfl
  .rw [<-b3 rfl];simp only [je,w1,w2,g1,g2,g3,g4,j6,r1,r2,e1,e2,e3,v1,v2,b1,hn]
 have hst:=KI (rest:=rest) sl sr hd vl vr;by_cases hnm:(sub s l).name=(sub s r).name;rotate_left
 .rw [jo (λh=>hnm h.1)] at hst;have hnd:=kx hnm;rw [jM hst hu];simp only [je,w1,w2,g1,g2,g3,g4,j6,r1,r2,e1,e2,e3,v1,v2,hnd];rfl
 have hnd:=jR hnm;by_cases hal:(sub s l).args.length=(sub s r).args.length;rotate_left
 .rw [jo (λh=>hal h.2)] at hst;have hal':decide ((((sub s l).args.length:Nat):Int)=(((sub s r).args.length:Nat):Int))=false:=kx (by omega);rw [jM hst hu];simp only [je,w1,w2,g1,g2,g3,g4,j6,r1,r2,e1,e2,e3,v1,v2,hnd,hal'];rfl
 rw [jl ⟨hnm,hal⟩] at hst;have hnext:=ih _ _ res (zm hi hst).1 (zF hi hg hst) (kM hst hu);have hnext:=hnext.2.1;have hin:=juo s W (off+1) hlen (sub s l) (sub s r) hal (Yr xl);rw [d2] at hin;rw [hnext] at hin;have hal':decide ((((sub s l).args.length:Nat):Int)=(((sub s r).args.length:Nat):Int))=true:=jR (by omega);simp only [je,w1,w2,g1,g2,g3,g4,j6,r1,r2,e1,e2,e3,v1,v2,hnd,hal',hn];exact hin
theorem jKM (k:Nat) (ih:∀(s:js) (es:J6) (res:Option js),Z4 s es->Hgt s 126 es->zX k s es=some res->USS s es (yd res)) (s:js) (l r:T) (rest:J6) (hi:Z4 s ((l,r)::rest)) (hg:Hgt s 126 ((l,r)::rest)) (res:Option js) (hu:zX (k+1) s ((l,r)::rest)=some res) (W:J6) (hW:W=(l,r)::rest) (hlen:W.length<=1000):jfx (ZK s) (W.map ec) [] []=yd res:=by
 have hW0:W.drop 0=(l,r)::rest:=hW;obtain ⟨d1,d2,d3⟩:=KF hW0;obtain ⟨r1,r2⟩:=jcm d1;obtain ⟨al,ar,nl,nr⟩:=JM hi;have hv:=hi.1;have e1:=qQ s hv l al (by omega);have e2:=qQ s hv r ar (by omega);have g1:jz .gtr false (qh (W.map ec)) (vi 0)=some (vb true):=by
  rw [Yu,jK,jcd,jR (by omega)]
 have g2:Q4 W.length (vi 0)=some 0:=yj (i:=0) (by omega);have g3:pB (yU (W.map ec)) (yq (W.map ec) 0) none=some W.length:=by
  rw [qK,show yq (W.map ec) 0=W.length by rw [qZ,jK];rfl];exact yi (kD _)
 have g4:pB 0 W.length (some (vi 1))=some 1:=Js (n:=1) (by omega);have g0:(0:Int) < ((W.length:Nat):Int):=by omega
 have hn:zf (W.length) 1=W.length - (0+1):=by unfold zf;omega
 rw [jyF];cases sl:jD (sub s l)<;>rw [sl] at e1
 .have e1:G 206 [sb s,tm l]=some (.tup [.agg [sv [],.sl 2 []],vb false],[]):=e1;have hr:res=none:=jM (by unfold y7;rw [jl (Or.inl sl)]) hu;subst hr;obtain ⟨q,e2⟩:∃q:T × Bool,G 206 [sb s,tm r]=some (.tup [tm q.1,vb q.2],[]):=by
   cases h:jD (sub s r)<;>rw [h] at e2
   .exact ⟨(.mk [] [],false),e2⟩
   .exact ⟨(sub s r,true),e2⟩
  simp only [je,g0,g2,g3,g4,r1,r2,e1,e2];rfl
 have e1:G 206 [sb s,tm l]=some (.tup [tm (sub s l),vb true],[]):=e1;cases sr:jD (sub s r)<;>rw [sr] at e2
 .have e2:G 206 [sb s,tm r]=some (.tup [.agg [sv [],.sl 2 []],vb false],[]):=e2;have hr:res=none:=jM (by unfold y7;rw [jl (Or.inr sr)]) hu;subst hr;simp only [je,g0,g2,g3,g4,r1,r2,e1,e2];rfl
 have e2:G 206 [sb s,tm r]=some (.tup [tm (sub s r),vb true],[]):=e2;have xl:KO (sub s l):=KO.sub hv al;have xr:KO (sub s r):=KO.sub hv ar;have ml:=kO sl;have mr:=kO sr;have tl:=xl.tz (by omega);have tr:=xr.tz (by omega);have e3:=qo (sub s l) tl.wf (sub s r) tr.wf;have ll:=(j5 hv).1;cases hd:dq (sub s l) (sub s r)<;>rw [hd] at e3
 rotate_left
 .have hst:=KJ (rest:=rest) sl sr hd;have hnext:=ih _ _ res (zm hi hst).1 (zF hi hg hst) (kM hst hu);have hnext:=hnext.1 W (0+1) d2 (by omega) hlen;simp only [je,g0,g2,g3,g4,r1,r2,e1,e2,e3,hn];exact hnext
 have v1:=zE (sub s l).name ((kH _).1 tl.wf).1;have v2:=zE (sub s r).name ((kH _).1 tr.wf).1;have bindC:jp (sub s l).name=true\/jp (sub s r).name=true-> ∃q2:Bool,∃u:js,G 207 [sb s,sv (jy (sub s l) (sub s r)).1,tm (jy (sub s l) (sub s r)).2]=some (.tup [sb u,vb q2],[])/\(q2=false->yd res=yd none)/\(q2=true->YI (nA (0+1)) (nA (W.length - (0+1))) (ZK u) (W.map ec) [] []=yd res):=by
  intro hvar;have hst:=KH (rest:=rest) sl sr hd hvar;obtain ⟨bv,hor⟩:=jbP hvar;have bz:Tz (jy (sub s l) (sub s r)).2:=hor.elim (λh=>by rw [h.2];exact tl) λh=>by rw [h.2];exact tr
  have bk:(jy (sub s l) (sub s r)).1∈kT (jy (sub s l) (sub s r)).2\/(jy (sub s l) (sub s r)).2.name≠(jy (sub s l) (sub s r)).1:=by
   by_cases hnm:(jy (sub s l) (sub s r)).2.name=(jy (sub s l) (sub s r)).1
   .left;rw [vsv (by rw [hnm];exact bv),hnm];simp
   .exact Or.inr hnm
  obtain ⟨z,eb⟩:=jcJ s hv _ _ bv bz bk;rw [<-jkj] at eb;cases hc:(!decide ((jy (sub s l) (sub s r)).1∈kT (jy (sub s l) (sub s r)).2) && jN [jy (sub s l) (sub s r)]) && jN (zG s [jy (sub s l) (sub s r)])
  .rw [hc,jo kh] at hst;have eb:=eb.trans (by rw [show ((jy (sub s l) (sub s r)).1,(jy (sub s l) (sub s r)).2)=jy (sub s l) (sub s r) from rfl,hc,jo kh]);exact ⟨false,z,eb,λ_=>by rw [jM hst hu],λh=>by cases h⟩
  .rw [hc,jl rfl] at hst;have eb:=eb.trans (by rw [show ((jy (sub s l) (sub s r)).1,(jy (sub s l) (sub s r)).2)=jy (sub s l) (sub s r) from rfl,hc,jl rfl]);refine ⟨true,_,eb,(λh=>by cases h),λ_=> ?_⟩;have hnext:=ih _ _ res (zm hi hst).1 (zF hi hg hst) (kM hst hu);exact hnext.1 W (0+1) d2 (by omega) hlen
 cases vl:jp (sub s l).name<;>rw [vl] at v1
 rotate_left
 .cases vr:jp (sub s r).name<;>rw [vr] at v2
  .obtain ⟨q2,u,b1,b2,b3⟩:=bindC (Or.inl vl);have hbd:jy (sub s l) (sub s r)=((sub s l).name,sub s r):=jo (by rw [vl,vr];simp);rw [hbd] at b1;cases q2
   .rw [b2 rfl];simp only [je,g0,g2,g3,g4,r1,r2,e1,e2,e3,v1,v2,b1];rfl
   .rw [<-b3 rfl];simp only [je,g0,g2,g3,g4,r1,r2,e1,e2,e3,v1,v2,b1,hn]
  .cases hc:yQ (sub s l).name (sub s r).name
   .obtain ⟨q2,u,b1,b2,b3⟩:=bindC (Or.inl vl);have hbd:jy (sub s l) (sub s r)=((sub s l).name,sub s r):=jo (by rw [vl,vr,hc];simp);rw [hbd] at b1;cases q2
    .rw [b2 rfl];simp only [je,g0,g2,g3,g4,r1,r2,e1,e2,e3,v1,v2,hc,b1];rfl
    .rw [<-b3 rfl];simp only [je,g0,g2,g3,g4,r1,r2,e1,e2,e3,v1,v2,hc,b1,hn]
   .obtain ⟨q2,u,b1,b2,b3⟩:=bindC (Or.inl vl);have hbd:jy (sub s l) (sub s r)=((sub s r).name,sub s l):=jl (Or.inr ⟨vr,hc⟩);rw [hbd] at b1;cases q2
    .rw [b2 rfl];simp only [je,g0,g2,g3,g4,r1,r2,e1,e2,e3,v1,v2,hc,b1];rfl
    .rw [<-b3 rfl];simp only [je,g0,g2,g3,g4,r1,r2,e1,e2,e3,v1,v2,hc,b1,hn]
 cases vr:jp (sub s r).name<;>rw [vr] at v2
 rotate_left
 .obtain ⟨q2,u,b1,b2,b3⟩:=bindC (Or.inr vr);have hbd:jy (sub s l) (sub s r)=((sub s r).name,sub s l):=jl (Or.inl vl);rw [hbd] at b1;cases q2
  .rw [b2 rfl];simp only [je,g0,g2,g3,g4,r1,r2,e1,e2,e3,v1,v2,b1];rfl
  .rw [<-b3 rfl];simp only [je,g0,g2,g3,g4,r1,r2,e1,e2,e3,v1,v2,b1,hn]
 have hst:=KI (rest:=rest) sl sr hd vl vr;by_cases hnm:(sub s l).name=(sub s r).name;rotate_left
 .rw [jo (λh=>hnm h.1)] at hst;have hnd:=kx hnm;rw [jM hst hu];simp only [je,g0,g2,g3,g4,r1,r2,e1,e2,e3,v1,v2,hnd];rfl
 have hnd:=jR hnm;by_cases hal:(sub s l).args.length=(sub s r).args.length;rotate_left
 .rw [jo (λh=>hal h.2)] at hst;have hal':decide ((((sub s l).args.length:Nat):Int)=(((sub s r).args.length:Nat):Int))=false:=kx (by omega);rw [jM hst hu];simp only [je,g0,g2,g3,g4,r1,r2,e1,e2,e3,v1,v2,hnd,hal'];rfl
 rw [jl ⟨hnm,hal⟩] at hst;have hnext:=ih _ _ res (zm hi hst).1 (zF hi hg hst) (kM hst hu);have hnext:=hnext.2.1;have hin:=juo s W (0+1) hlen (sub s l) (sub s r) hal (Yr xl);rw [d2] at hin;rw [hnext] at hin;have hal':decide ((((sub s l).args.length:Nat):Int)=(((sub s r).args.length:Nat):Int))=true:=jR (by omega);simp only [je,g0,g2,g3,g4,r1,r2,e1,e2,e3,v1,v2,hnd,hal',hn];exact hin
theorem jKJ (k:Nat) (ih:∀(s:js) (es:J6) (res:Option js),Z4 s es->Hgt s 126 es->zX k s es=some res->USS s es (yd res)) (l r:T) (rest:J6) (hi:Z4 [] ((l,r)::rest)) (hg:Hgt [] 126 ((l,r)::rest)) (res:Option js) (hu:zX (k+1) [] ((l,r)::rest)=some res) (W:J6) (off:Nat) (hW:W.drop off=(l,r)::rest) (hlen:W.length<=1000):jhY (nA off) (nA (W.length - off)) (W.map ec) [] [] []=yd res:=by
 obtain ⟨d1,d2,d3⟩:=KF hW;obtain ⟨r1,r2⟩:=jcm d1;obtain ⟨al,ar,nl,nr⟩:=JM hi;have hv:=hi.1;have e1:=qQ [] hv l al (by omega);have e2:=qQ [] hv r ar (by omega);have w1:yc (nA off)=off:=rfl;have w2:yc (nA (W.length - off))=W.length - off:=rfl;have g1:jz .gtr false (nA (W.length - off)) (vi 0)=some (vb true):=by
  show some (vb (decide ((0:Int) < ((W.length - off:Nat):Int))))=_;rw [jR (by omega)]
 have g2:Q4 (W.length - off) (vi 0)=some 0:=yj (i:=0) (by omega);have g3:pB (W.length - off) (yq (W.map ec) off) none=some (W.length - off):=by
  rw [show yq (W.map ec) off=W.length - off by rw [qZ,jK]];exact yi (kD _)
 have g4:pB 0 (W.length - off) (some (vi 1))=some 1:=Js (n:=1) (by omega);have hn:zf (W.length - off) 1=W.length - (off+1):=by unfold zf;omega
 rw [jyB];cases sl:jD (sub [] l)<;>rw [sl] at e1
 .have e1:G 206 [.agg [.sl 3 []],tm l]=some (.tup [.agg [sv [],.sl 2 []],vb false],[]):=e1;have hr:res=none:=jM (by unfold y7;rw [jl (Or.inl sl)]) hu;subst hr;obtain ⟨q,e2⟩:∃q:T × Bool,G 206 [.agg [.sl 3 []],tm r]=some (.tup [tm q.1,vb q.2],[]):=by
   cases h:jD (sub [] r)<;>rw [h] at e2
   .exact ⟨(.mk [] [],false),e2⟩
   .exact ⟨(sub [] r,true),e2⟩
  simp only [je,w1,w2,g1,g2,g3,g4,j6,r1,r2,e1,e2];rfl
 have e1:G 206 [.agg [.sl 3 []],tm l]=some (.tup [tm (sub [] l),vb true],[]):=e1;cases sr:jD (sub [] r)<;>rw [sr] at e2
 .have e2:G 206 [.agg [.sl 3 []],tm r]=some (.tup [.agg [sv [],.sl 2 []],vb false],[]):=e2;have hr:res=none:=jM (by unfold y7;rw [jl (Or.inr sr)]) hu;subst hr;simp only [je,w1,w2,g1,g2,g3,g4,j6,r1,r2,e1,e2];rfl
 have e2:G 206 [.agg [.sl 3 []],tm r]=some (.tup [tm (sub [] r),vb true],[]):=e2;have xl:KO (sub [] l):=KO.sub hv al;have xr:KO (sub [] r):=KO.sub hv ar;have ml:=kO sl;have mr:=kO sr;have tl:=xl.tz (by omega);have tr:=xr.tz (by omega);have e3:=qo (sub [] l) tl.wf (sub [] r) tr.wf;have ll:=(j5 hv).1;cases hd:dq (sub [] l) (sub [] r)<;>rw [hd] at e3
 rotate_left
 .have hst:=KJ (rest:=rest) sl sr hd;have hnext:=ih _ _ res (zm hi hst).1 (zF hi hg hst) (kM hst hu);have hnext:=(hnext.2.2 rfl).1 W (off+1) d2 (by omega) hlen;simp only [je,w1,w2,g1,g2,g3,g4,j6,r1,r2,e1,e2,e3,hn];exact hnext
 have v1:=zE (sub [] l).name ((kH _).1 tl.wf).1;have v2:=zE (sub [] r).name ((kH _).1 tr.wf).1;have bindC:jp (sub [] l).name=true\/jp (sub [] r).name=true-> ∃q2:Bool,∃u:js,G 207 [.agg [.sl 3 []],sv (jy (sub [] l) (sub [] r)).1,tm (jy (sub [] l) (sub [] r)).2]=some (.tup [sb u,vb q2],[])/\(q2=false->yd res=yd none)/\(q2=true->YI (nA (off+1)) (nA (W.length - (off+1))) (ZK u) (W.map ec) [] []=yd res):=by
  intro hvar;have hst:=KH (rest:=rest) sl sr hd hvar;obtain ⟨bv,hor⟩:=jbP hvar;have bz:Tz (jy (sub [] l) (sub [] r)).2:=hor.elim (λh=>by rw [h.2];exact tl) λh=>by rw [h.2];exact tr
  have bk:(jy (sub [] l) (sub [] r)).1∈kT (jy (sub [] l) (sub [] r)).2\/(jy (sub [] l) (sub [] r)).2.name≠(jy (sub [] l) (sub [] r)).1:=by
   by_cases hnm:(jy (sub [] l) (sub [] r)).2.name=(jy (sub [] l) (sub [] r)).1
   .left;rw [vsv (by rw [hnm];exact bv),hnm];simp
   .exact Or.inr hnm
  obtain ⟨z,eb⟩:=jcJ [] hv _ _ bv bz bk;rw [<-jkj] at eb;cases hc:(!decide ((jy (sub [] l) (sub [] r)).1∈kT (jy (sub [] l) (sub [] r)).2) && jN [jy (sub [] l) (sub [] r)]) && jN (zG [] [jy (sub [] l) (sub [] r)])
  .rw [hc,jo kh] at hst;have eb:=eb.trans (by rw [show ((jy (sub [] l) (sub [] r)).1,(jy (sub [] l) (sub [] r)).2)=jy (sub [] l) (sub [] r) from rfl,hc,jo kh]);exact ⟨false,z,eb,λ_=>by rw [jM hst hu],λh=>by cases h⟩
  .rw [hc,jl rfl] at hst;have eb:=eb.trans (by rw [show ((jy (sub [] l) (sub [] r)).1,(jy (sub [] l) (sub [] r)).2)=jy (sub [] l) (sub [] r) from rfl,hc,jl rfl]);refine ⟨true,_,eb,(λh=>by cases h),λ_=> ?_⟩;have hnext:=ih _ _ res (zm hi hst).1 (zF hi hg hst) (kM hst hu);exact hnext.1 W (off+1) d2 (by omega) hlen
 cases vl:jp (sub [] l).name<;>rw [vl] at v1
 rotate_left
 .cases vr:jp (sub [] r).name<;>rw [vr] at v2
  .obtain ⟨q2,u,b1,b2,b3⟩:=bindC (Or.inl vl);have hbd:jy (sub [] l) (sub [] r)=((sub [] l).name,sub [] r):=jo (by rw [vl,vr];simp);rw [hbd] at b1;cases q2
   .rw [b2 rfl];simp only [je,w1,w2,g1,g2,g3,g4,j6,r1,r2,e1,e2,e3,v1,v2,b1];rfl
   .rw [<-b3 rfl];simp only [je,w1,w2,g1,g2,g3,g4,j6,r1,r2,e1,e2,e3,v1,v2,b1,hn]
  .cases hc:yQ (sub [] l).name (sub [] r).name
   .obtain ⟨q2,u,b1,b2,b3⟩:=bindC (Or.inl vl);have hbd:jy (sub [] l) (sub [] r)=((sub [] l).name,sub [] r):=jo (by rw [vl,vr,hc];simp);rw [hbd] at b1;cases q2
    .rw [b2 rfl];simp only [je,w1,w2,g1,g2,g3,g4,j6,r1,r2,e1,e2,e3,v1,v2,hc,b1];rfl
    .rw [<-b3 rfl];simp only [je,w1,w2,g1,g2,g3,g4,j6,r1,r2,e1,e2,e3,v1,v2,hc,b1,hn]
   .obtain ⟨q2,u,b1,b2,b3⟩:=bindC (Or.inl vl);have hbd:jy (sub [] l) (sub [] r)=((sub [] r).name,sub [] l):=jl (Or.inr ⟨vr,hc⟩);rw [hbd] at b1;cases q2
    .rw [b2 rfl];simp only [je,w1,w2,g1,g2,g3,g4,j6,r1,r2,e1,e2,e3,v1,v2,hc,b1];rfl
    .rw [<-b3 rfl];simp only [je,w1,w2,g1,g2,g3,g4,j6,r1,r2,e1,e2,e3,v1,v2,hc,b1,hn]
 cases vr:jp (sub [] r).name<;>rw [vr] at v2
 rotate_left
 .obtain ⟨q2,u,b1,b2,b3⟩:=bindC (Or.inr vr);have hbd:jy (sub [] l) (sub [] r)=((sub [] r).name,sub [] l):=jl (Or.inl vl);rw [hbd] at b1;cases q2
  .rw [b2 rfl];simp only [je,w1,w2,g1,g2,g3,g4,j6,r1,r2,e1,e2,e3,v1,v2,b1];rfl
  .rw [<-b3 rfl];simp only [je,w1,w2,g1,g2,g3,g4,j6,r1,r2,e1,e2,e3,v1,v2,b1,hn]
 have hst:=KI (rest:=rest) sl sr hd vl vr;by_cases hnm:(sub [] l).name=(sub [] r).name;rotate_left
 .rw [jo (λh=>hnm h.1)] at hst;have hnd:=kx hnm;rw [jM hst hu];simp only [je,w1,w2,g1,g2,g3,g4,j6,r1,r2,e1,e2,e3,v1,v2,hnd];rfl
 have hnd:=jR hnm;by_cases hal:(sub [] l).args.length=(sub [] r).args.length;rotate_left
 .rw [jo (λh=>hal h.2)] at hst;have hal':decide ((((sub [] l).args.length:Nat):Int)=(((sub [] r).args.length:Nat):Int))=false:=kx (by omega);rw [jM hst hu];simp only [je,w1,w2,g1,g2,g3,g4,j6,r1,r2,e1,e2,e3,v1,v2,hnd,hal'];rfl
 rw [jl ⟨hnm,hal⟩] at hst;have hnext:=ih _ _ res (zm hi hst).1 (zF hi hg hst) (kM hst hu);have hnext:=(hnext.2.2 rfl).2;have hin:=jun W (off+1) hlen (sub [] l) (sub [] r) hal (Yr xl);rw [d2] at hin;rw [hnext] at hin;have hal':decide ((((sub [] l).args.length:Nat):Int)=(((sub [] r).args.length:Nat):Int))=true:=jR (by omega);simp only [je,w1,w2,g1,g2,g3,g4,j6,r1,r2,e1,e2,e3,v1,v2,hnd,hal',hn];exact hin
theorem jKL (k:Nat) (ih:∀(s:js) (es:J6) (res:Option js),Z4 s es->Hgt s 126 es->zX k s es=some res->USS s es (yd res)) (l r:T) (rest:J6) (hi:Z4 [] ((l,r)::rest)) (hg:Hgt [] 126 ((l,r)::rest)) (res:Option js) (hu:zX (k+1) [] ((l,r)::rest)=some res) (W:J6) (hW:W=(l,r)::rest) (hlen:W.length<=1000):jdp (W.map ec) [] [] []=yd res:=by
 have hW0:W.drop 0=(l,r)::rest:=hW;obtain ⟨d1,d2,d3⟩:=KF hW0;obtain ⟨r1,r2⟩:=jcm d1;obtain ⟨al,ar,nl,nr⟩:=JM hi;have hv:=hi.1;have e1:=qQ [] hv l al (by omega);have e2:=qQ [] hv r ar (by omega);have g1:jz .gtr false (qh (W.map ec)) (vi 0)=some (vb true):=by
  rw [Yu,jK,jcd,jR (by omega)]
 have g2:Q4 W.length (vi 0)=some 0:=yj (i:=0) (by omega);have g3:pB (yU (W.map ec)) (yq (W.map ec) 0) none=some W.length:=by
  rw [qK,show yq (W.map ec) 0=W.length by rw [qZ,jK];rfl];exact yi (kD _)
 have g4:pB 0 W.length (some (vi 1))=some 1:=Js (n:=1) (by omega);have g0:(0:Int) < ((W.length:Nat):Int):=by omega
 have hn:zf (W.length) 1=W.length - (0+1):=by unfold zf;omega
 rw [jsD];cases sl:jD (sub [] l)<;>rw [sl] at e1
 .have e1:G 206 [.agg [.sl 3 []],tm l]=some (.tup [.agg [sv [],.sl 2 []],vb false],[]):=e1;have hr:res=none:=jM (by unfold y7;rw [jl (Or.inl sl)]) hu;subst hr;obtain ⟨q,e2⟩:∃q:T × Bool,G 206 [.agg [.sl 3 []],tm r]=some (.tup [tm q.1,vb q.2],[]):=by
   cases h:jD (sub [] r)<;>rw [h] at e2
   .exact ⟨(.mk [] [],false),e2⟩
   .exact ⟨(sub [] r,true),e2⟩
  simp only [je,g0,g2,g3,g4,r1,r2,e1,e2];rfl
 have e1:G 206 [.agg [.sl 3 []],tm l]=some (.tup [tm (sub [] l),vb true],[]):=e1;cases sr:jD (sub [] r)<;>rw [sr] at e2
 .have e2:G 206 [.agg [.sl 3 []],tm r]=some (.tup [.agg [sv [],.sl 2 []],vb false],[]):=e2;have hr:res=none:=jM (by unfold y7;rw [jl (Or.inr sr)]) hu;subst hr;simp only [je,g0,g2,g3,g4,r1,r2,e1,e2];rfl
 have e2:G 206 [.agg [.sl 3 []],tm r]=some (.tup [tm (sub [] r),vb true],[]):=e2;have xl:KO (sub [] l):=KO.sub hv al;have xr:KO (sub [] r):=KO.sub hv ar;have ml:=kO sl;have mr:=kO sr;have tl:=xl.tz (by omega);have tr:=xr.tz (by omega);have e3:=qo (sub [] l) tl.wf (sub [] r) tr.wf;have ll:=(j5 hv).1;cases hd:dq (sub [] l) (sub [] r)<;>rw [hd] at e3
 rotate_left
 .have hst:=KJ (rest:=rest) sl sr hd;have hnext:=ih _ _ res (zm hi hst).1 (zF hi hg hst) (kM hst hu);have hnext:=(hnext.2.2 rfl).1 W (0+1) d2 (by omega) hlen;simp only [je,g0,g2,g3,g4,r1,r2,e1,e2,e3,hn];exact hnext
 have v1:=zE (sub [] l).name ((kH _).1 tl.wf).1;have v2:=zE (sub [] r).name ((kH _).1 tr.wf).1;have bindC:jp (sub [] l).name=true\/jp (sub [] r).name=true-> ∃q2:Bool,∃u:js,G 207 [.agg [.sl 3 []],sv (jy (sub [] l) (sub [] r)).1,tm (jy (sub [] l) (sub [] r)).2]=some (.tup [sb u,vb q2],[])/\(q2=false->yd res=yd none)/\(q2=true->YI (nA (0+1)) (nA (W.length - (0+1))) (ZK u) (W.map ec) [] []=yd res):=by
  intro hvar;have hst:=KH (rest:=rest) sl sr hd hvar;obtain ⟨bv,hor⟩:=jbP hvar;have bz:Tz (jy (sub [] l) (sub [] r)).2:=hor.elim (λh=>by rw [h.2];exact tl) λh=>by rw [h.2];exact tr
  have bk:(jy (sub [] l) (sub [] r)).1∈kT (jy (sub [] l) (sub [] r)).2\/(jy (sub [] l) (sub [] r)).2.name≠(jy (sub [] l) (sub [] r)).1:=by
   by_cases hnm:(jy (sub [] l) (sub [] r)).2.name=(jy (sub [] l) (sub [] r)).1
   .left;rw [vsv (by rw [hnm];exact bv),hnm];simp
   .exact Or.inr hnm
  obtain ⟨z,eb⟩:=jcJ [] hv _ _ bv bz bk;rw [<-jkj] at eb;cases hc:(!decide ((jy (sub [] l) (sub [] r)).1∈kT (jy (sub [] l) (sub [] r)).2) && jN [jy (sub [] l) (sub [] r)]) && jN (zG [] [jy (sub [] l) (sub [] r)])
  .rw [hc,jo kh] at hst;have eb:=eb.trans (by rw [show ((jy (sub [] l) (sub [] r)).1,(jy (sub [] l) (sub [] r)).2)=jy (sub [] l) (sub [] r) from rfl,hc,jo kh]);exact ⟨false,z,eb,λ_=>by rw [jM hst hu],λh=>by cases h⟩
  .rw [hc,jl rfl] at hst;have eb:=eb.trans (by rw [show ((jy (sub [] l) (sub [] r)).1,(jy (sub [] l) (sub [] r)).2)=jy (sub [] l) (sub [] r) from rfl,hc,jl rfl]);refine ⟨true,_,eb,(λh=>by cases h),λ_=> ?_⟩;have hnext:=ih _ _ res (zm hi hst).1 (zF hi hg hst) (kM hst hu);exact hnext.1 W (0+1) d2 (by omega) hlen
 cases vl:jp (sub [] l).name<;>rw [vl] at v1
 rotate_left
 .cases vr:jp (sub [] r).name<;>rw [vr] at v2
  .obtain ⟨q2,u,b1,b2,b3⟩:=bindC (Or.inl vl);have hbd:jy (sub [] l) (sub [] r)=((sub [] l).name,sub [] r):=jo (by rw [vl,vr];simp);rw [hbd] at b1;cases q2
   .rw [b2 rfl];simp only [je,g0,g2,g3,g4,r1,r2,e1,e2,e3,v1,v2,b1];rfl
   .rw [<-b3 rfl];simp only [je,g0,g2,g3,g4,r1,r2,e1,e2,e3,v1,v2,b1,hn]
  .cases hc:yQ (sub [] l).name (sub [] r).name
   .obtain ⟨q2,u,b1,b2,b3⟩:=bindC (Or.inl vl);have hbd:jy (sub [] l) (sub [] r)=((sub [] l).name,sub [] r):=jo (by rw [vl,vr,hc];simp);rw [hbd] at b1;cases q2
    .rw [b2 rfl];simp only [je,g0,g2,g3,g4,r1,r2,e1,e2,e3,v1,v2,hc,b1];rfl
    .rw [<-b3 rfl];simp only [je,g0,g2,g3,g4,r1,r2,e1,e2,e3,v1,v2,hc,b1,hn]
   .obtain ⟨q2,u,b1,b2,b3⟩:=bindC (Or.inl vl);have hbd:jy (sub [] l) (sub [] r)=((sub [] r).name,sub [] l):=jl (Or.inr ⟨vr,hc⟩);rw [hbd] at b1;cases q2
    .rw [b2 rfl];simp only [je,g0,g2,g3,g4,r1,r2,e1,e2,e3,v1,v2,hc,b1];rfl
    .rw [<-b3 rfl];simp only [je,g0,g2,g3,g4,r1,r2,e1,e2,e3,v1,v2,hc,b1,hn]
 cases vr:jp (sub [] r).name<;>rw [vr] at v2
 rotate_left
 .obtain ⟨q2,u,b1,b2,b3⟩:=bindC (Or.inr vr);have hbd:jy (sub [] l) (sub [] r)=((sub [] r).name,sub [] l):=jl (Or.inl vl);rw [hbd] at b1;cases q2
  .rw [b2 rfl];simp only [je,g0,g2,g3,g4,r1,r2,e1,e2,e3,v1,v2,b1];rfl
  .rw [<-b3 rfl];simp only [je,g0,g2,g3,g4,r1,r2,e1,e2,e3,v1,v2,b1,hn]
 have hst:=KI (rest:=rest) sl sr hd vl vr;by_cases hnm:(sub [] l).name=(sub [] r).name;rotate_left
 .rw [jo (λh=>hnm h.1)] at hst;have hnd:=kx hnm;rw [jM hst hu];simp only [je,g0,g2,g3,g4,r1,r2,e1,e2,e3,v1,v2,hnd];rfl
 have hnd:=jR hnm;by_cases hal:(sub [] l).args.length=(sub [] r).args.length;rotate_left
 .rw [jo (λh=>hal h.2)] at hst;have hal':decide ((((sub [] l).args.length:Nat):Int)=(((sub [] r).args.length:Nat):Int))=false:=kx (by omega);rw [jM hst hu];simp only [je,g0,g2,g3,g4,r1,r2,e1,e2,e3,v1,v2,hnd,hal'];rfl
 rw [jl ⟨hnm,hal⟩] at hst;have hnext:=ih _ _ res (zm hi hst).1 (zF hi hg hst) (kM hst hu);have hnext:=(hnext.2.2 rfl).2;have hin:=jun W (0+1) hlen (sub [] l) (sub [] r) hal (Yr xl);rw [d2] at hin;rw [hnext] at hin;have hal':decide ((((sub [] l).args.length:Nat):Int)=(((sub [] r).args.length:Nat):Int))=true:=jR (by omega);simp only [je,g0,g2,g3,g4,r1,r2,e1,e2,e3,v1,v2,hnd,hal',hn];exact hin
theorem jAP (s:js):USS s [] (yd (some s)):=by
 refine ⟨λW off hW h1 h2=> ?_,?_,λhs=> ?_⟩
 .have h3:=congrArg List.length hW;rw [qS,qO] at h3;have w2:yc (nA (W.length - off))=W.length - off:=rfl;have g1:jz .gtr false (nA (W.length - off)) (vi 0)=some (vb false):=by
   show some (vb (decide ((0:Int) < ((W.length - off:Nat):Int))))=_;rw [kx (by omega)]
  rw [jyC];simp only [je,w2,g1];rfl
 .rw [jyF];have g1:jz .gtr false (qh (List.map ec [])) (vi 0)=some (vb false):=rfl;simp only [je,g1];rfl
 .subst hs;refine ⟨λW off hW h1 h2=> ?_,?_⟩
  .have h3:=congrArg List.length hW;rw [qS,qO] at h3;have w2:yc (nA (W.length - off))=W.length - off:=rfl;have g1:jz .gtr false (nA (W.length - off)) (vi 0)=some (vb false):=by
    show some (vb (decide ((0:Int) < ((W.length - off:Nat):Int))))=_;rw [kx (by omega)]
   rw [jyB];simp only [je,w2,g1];rfl
  .rw [jsD];have g1:jz .gtr false (qh (List.map ec [])) (vi 0)=some (vb false):=rfl;simp only [je,g1];rfl
theorem jF4:∀(k:Nat) (s:js) (es:J6) (res:Option js),Z4 s es->Hgt s 126 es->zX k s es=some res->USS s es (yd res):=by
 intro k;induction k with
 | zero=>
  intro s es res hi hg hu;cases es with
  | nil=>simp only [zX,kL] at hu;rw [<-hu];exact jAP s
  | cons p es=>simp [zX] at hu
 | succ k ih=>
  intro s es res hi hg hu;cases es with
  | nil=>simp only [zX,kL] at hu;rw [<-hu];exact jAP s
  | cons p rest=>
   obtain ⟨l,r⟩:=p;have hl:=hg.len;refine ⟨λW off hW _ hlen=>jKK k ih s l r rest hi hg res hu W off hW hlen,jKM k ih s l r rest hi hg res hu _ rfl (by omega),λhs=> ?_⟩;subst hs;exact ⟨λW off hW _ hlen=>jKJ k ih l r rest hi hg res hu W off hW hlen,jKL k ih l r rest hi hg res hu _ rfl (by omega)⟩
theorem jHH (W:J6):jr1 (W.map ec) [] [] []=jdp (W.map ec) [] [] []:=by
 rw [jFk,jsD]
theorem jaO (a b:T) (ha:Exx a) (hb:Exx b):G 178 [tm a,tm b]=yd (Q0 a b):=by
 obtain ⟨k,hk⟩:=jcw ha hb;have h:=((jF4 k [] [(a,b)] _ (juZ ha hb) (jG7 a b) hk).2.2 rfl).2;rw [<-jHH] at h;rw [jI7];simp only [je];exact h
open Go Go.RowKit Go.ChangeShapes Go.Deep Go.Proofs.YtbidbdhamhbebaaGreatDoor.Abs
section
variable {P:Program} {t:Nat} {H:Type} {enc:TypeId × Value->H} {w:World} {base:Nat} {spare:Nat->Bool} {held:Bool} {fuel:Nat} {cs:List Value} {x:DataW H × List MemPlace}
theorem jjS {α β γ δ:Type} {g0:α->List A} {g1:β->List A} {g2:γ->List A} {g3:δ->List A} {p0:α->Prop} {p1:β->Prop} {p2:γ->Prop} {p3:δ->Prop} {f0 f1 f2 f3:Field} {k0 k1 k2 k3:Nat} (ht:P.underlying t=some (.struct #[f0,f1,f2,f3]))
  (o0:f0.offset=0) (o1:f1.offset=k0) (o2:f2.offset=k0+k1) (o3:f3.offset=k0+k1+k2) (c0:P.cellsOf f0.type=k0) (c1:P.cellsOf f1.type=k1) (c2:P.cellsOf f2.type=k2) (c3:P.cellsOf f3.type=k3) (c:P.cellsOf t=k0+k1+k2+k3)
  (h0:∀n cs x,n < fuel->DataW.trod enc P w base spare held n f0.type cs=some x-> ∃a,p0 a/\jG w (λ_=>False) (g0 a) cs/\jA cs)
  (h1:∀n cs x,n < fuel->DataW.trod enc P w base spare held n f1.type cs=some x-> ∃a,p1 a/\jG w (λ_=>False) (g1 a) cs/\jA cs)
  (h2:∀n cs x,n < fuel->DataW.trod enc P w base spare held n f2.type cs=some x-> ∃a,p2 a/\jG w (λ_=>False) (g2 a) cs/\jA cs)
  (h3:∀n cs x,n < fuel->DataW.trod enc P w base spare held n f3.type cs=some x-> ∃a,p3 a/\jG w (λ_=>False) (g3 a) cs/\jA cs)
  (h:DataW.trod enc P w base spare held fuel t cs=some x):∃a b d e,p0 a/\p1 b/\p2 d/\p3 e/\jG w (λ_=>False) (g0 a++g1 b++g2 d++g3 e) cs/\jA cs:=by
 obtain ⟨xs,n,hfn,rfl,hl,hlen,hf⟩:=DataW.trod_struct ht h;have e0:=hf 0 f0 rfl;have e1:=hf 1 f1 rfl;have e2:=hf 2 f2 rfl;have e3:=hf 3 f3 rfl;rw [o0,c0] at e0;rw [o1,c1] at e1;rw [o2,c2] at e2;rw [o3,c3] at e3;have hlen:xs.length=4:=hlen;have hx0:xs[0]? = some xs[0]:=zk (by omega);have hx1:xs[1]? = some xs[1]:=zk (by omega);have hx2:xs[2]? = some xs[2]:=zk (by omega);have hx3:xs[3]? = some xs[3]:=zk (by omega);rw [hx0] at e0;rw [hx1] at e1;rw [hx2] at e2;rw [hx3] at e3;obtain ⟨a,q1,q2,q3⟩:=h0 n _ _ (by omega) e0;obtain ⟨b,r1,r2,r3⟩:=h1 n _ _ (by omega) e1;obtain ⟨d,s1,s2,s3⟩:=h2 n _ _ (by omega) e2;obtain ⟨f,u1,u2,u3⟩:=h3 n _ _ (by omega) e3;have e:cs=(cs.drop 0).take k0++(cs.drop k0).take k1++(cs.drop (k0+k1)).take k2++(cs.drop (k0+k1+k2)).take k3:=by
  rw [ql (l:=cs.drop (k0+k1+k2)) (by simp;omega),kj,zH,<-jdX (i:=k2),Ql,zH,<-jdX,Ql,Ql]
 rw [e];exact ⟨a,b,d,f,q1,r1,s1,u1,zy (zy (zy q2 r2) s2) u2,jA.append (jA.append (jA.append q3 r3) s3) u3⟩
end
abbrev clc (c:kR):List A:=[.sl 3 (c.map jL)]
structure Stp where
 rule:Int
 par:List Int
 whr:List Int
 cls:kR
abbrev stc (s:Stp):List A:=[vi s.rule,ints s.par,ints s.whr,.sl 3 (s.cls.map jL)]
abbrev stm (s:Stp):A:= .agg [vi s.rule,ints s.par,ints s.whr,.sl 3 (s.cls.map jL)]
structure Prf where
 ax:List kR
 st:List Stp
abbrev cls (l:List kR):A:= .sl 1 (l.map clc)
abbrev Jd (l:List Stp):A:= .sl 4 (l.map stc)
abbrev prc (p:Prf):List A:=[cls p.ax,Jd p.st]
abbrev prm (p:Prf):A:= .agg [cls p.ax,Jd p.st]
structure Sch where
 prf:Prf
 act:List Int
 pas:List Int
 lost:Bool
abbrev scc (s:Sch):List A:=[cls s.prf.ax,Jd s.prf.st,ints s.act,ints s.pas,vb s.lost]
abbrev scm (s:Sch):A:= .agg [cls s.prf.ax,Jd s.prf.st,ints s.act,ints s.pas,vb s.lost]
def iwf (l:List Int):Prop:=(∀x∈l,I64 x)/\l.length<=9223372036854775807
def cwf (c:kR):Prop:=(∀l∈c,J3 l.2)/\c.length<=9223372036854775807
def swf (s:Stp):Prop:=I64 s.rule/\iwf s.par/\iwf s.whr/\cwf s.cls
def pwf (p:Prf):Prop:=((∀c∈p.ax,cwf c)/\p.ax.length<=9223372036854775807)/\((∀s∈p.st,swf s)/\p.st.length<=9223372036854775807)
def jrc (s:Sch):Prop:=pwf s.prf/\iwf s.act/\iwf s.pas
theorem jFO:Rdr Tryz.prog 69 jL (λl:Lt=>J3 l.2):=λ_ _ _ _ _ _ fuel cs x h=>by
 obtain ⟨a,b,h1,h2,h3,h4⟩:=jjR (k0:=1) (k1:=2) Tryz.underlying69 rfl rfl (by kernel_rfl) (by kernel_rfl) (by kernel_rfl)
  (λ_ _ _ _ h=>juJ _ _ _ _ _ _ _ _ _ h) (λ_ _ _ _ h=>jCC _ _ _ _ _ _ _ _ _ h) h
 rw [zq] at h3;exact ⟨(a,b),h2,h3,h4⟩
theorem jCA:Rdr Tryz.prog 29 (λc:kR=>[A.sl 3 (c.map jL)]) cwf:=
 Rdr.slice Tryz.underlying29 (by kernel_rfl) (by decide) (λ_=>rfl) jFO
theorem jgb:Rdr Tryz.prog 31 clc cwf:=λ_ _ _ _ _ _ fuel cs x h=>by
 obtain ⟨a,h1,h2,h3⟩:=jtm (k0:=1) Tryz.underlying31 rfl (by kernel_rfl) (by kernel_rfl)
  (λ_ _ _ _ h=>jCA _ _ _ _ _ _ _ _ _ h) h
 exact ⟨a,h1,h2,h3⟩
theorem js7:Rdr Tryz.prog 22 (λl:List kR=>[cls l]) (λl=>(∀c∈l,cwf c)/\l.length<=9223372036854775807):=
 Rdr.slice Tryz.underlying22 (by kernel_rfl) (by decide) (λ_=>rfl) jgb
theorem jCB:Rdr Tryz.prog 95 stc swf:=λ_ _ _ _ _ _ fuel cs x h=>by
 obtain ⟨a,b,d,e,h1,h2,h3,h4,h5,h6⟩:=jjS (k0:=1) (k1:=1) (k2:=1) (k3:=1) Tryz.underlying95 rfl rfl rfl rfl (by kernel_rfl) (by kernel_rfl) (by kernel_rfl) (by kernel_rfl) (by kernel_rfl)
  (λ_ _ _ _ h=>jAd _ _ _ _ _ _ _ _ _ h) (λ_ _ _ _ h=>jhE _ _ _ _ _ _ _ _ _ h) (λ_ _ _ _ h=>jhE _ _ _ _ _ _ _ _ _ h) (λ_ _ _ _ h=>jgb _ _ _ _ _ _ _ _ _ h) h
 exact ⟨⟨a,b,d,e⟩,⟨h1,h2,h3,h4⟩,h5,h6⟩
theorem jAf:Rdr Tryz.prog 23 (λl:List Stp=>[Jd l]) (λl=>(∀s∈l,swf s)/\l.length<=9223372036854775807):=
 Rdr.slice Tryz.underlying23 (by kernel_rfl) (by decide) (λ_=>rfl) jCB
theorem jAe:Rdr Tryz.prog 25 prc pwf:=λ_ _ _ _ _ _ fuel cs x h=>by
 obtain ⟨a,b,h1,h2,h3,h4⟩:=jjR (k0:=1) (k1:=1) Tryz.underlying25 rfl rfl (by kernel_rfl) (by kernel_rfl) (by kernel_rfl)
  (λ_ _ _ _ h=>js7 _ _ _ _ _ _ _ _ _ h) (λ_ _ _ _ h=>jAf _ _ _ _ _ _ _ _ _ h) h
 exact ⟨⟨a,b⟩,⟨h1,h2⟩,h3,h4⟩
theorem jwk:Rdr Tryz.prog 28 scc jrc:=λ_ _ _ _ _ _ fuel cs x h=>by
 obtain ⟨a,b,d,e,h1,h2,h3,h4,h5,h6⟩:=jjS (k0:=2) (k1:=1) (k2:=1) (k3:=1) Tryz.underlying28 rfl rfl rfl rfl (by kernel_rfl) (by kernel_rfl) (by kernel_rfl) (by kernel_rfl) (by kernel_rfl)
  (λ_ _ _ _ h=>jAe _ _ _ _ _ _ _ _ _ h) (λ_ _ _ _ h=>jhE _ _ _ _ _ _ _ _ _ h) (λ_ _ _ _ h=>jhE _ _ _ _ _ _ _ _ _ h) (λ_ _ _ _ h=>juJ _ _ _ _ _ _ _ _ _ h) h
 exact ⟨⟨a,b,d,e⟩,⟨h1,h2,h3⟩,h5,h6⟩
end Go.Proofs.YtbidbdhamhbebaaGreatDoor
