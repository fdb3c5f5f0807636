/- Pe -/
import Derived.Test.YtbgikpffkgjecaaGreatDoorPd
import Derived.Test.YtbgikpffkgjecaaGreatDoorPq
namespace Go.Proofs.YtbgikpffkgjecaaGreatDoor
open Go Go.RowKit Go.Proofs.YtbgikpffkgjecaaGreatDoor.Abs
set_option linter.unusedSimpArgs false
set_option linter.unusedVariables false
set_option maxHeartbeats 1000000
theorem jn8 (x y:List UInt8):(yX x y || decide (x=y))=!yX y x:=by
 rw [Y2,Y2];by_cases h1:x < y
 ·rw [jQ h1,kA (λh2=>jgq _ (jgp h1 h2))];rfl
 ·by_cases h2:x=y
  ·subst h2;rw [kA h1,jQ rfl];rfl
  ·rw [kA h1,kA h2,jQ (jAf h1 h2)];rfl
theorem jwP (b:Bool) (x y:List UInt8):ju .leq b (sv x) (sv y)=some (vb (!yX y x)):=by rw [<-jn8];rfl
theorem jwO (b:Bool) (x y:List UInt8):ju .geq b (sv x) (sv y)=some (vb (!yX x y)):=rfl
def jda:Option (List UInt8)->jw->Bool
 | _,[]=>true
 | none,q::r=>jp q.1 && (zl q.2 && (!decide (q.2.name=q.1) && jda (some q.1) r))
 | some m,q::r=>yX m q.1 && (jp q.1 && (zl q.2 && (!decide (q.2.name=q.1) && jda (some q.1) r)))
def okB (q:List UInt8 × T):Bool:=jp q.1 && (zl q.2 && !decide (q.2.name=q.1))
theorem jl3:∀(s:jw) (m:List UInt8) (t:T),jda (some m) s=(jo4 ((m,t)::s) && s.all okB)
 | [],m,t=>rfl
 | q::r,m,t=>by
  rw [jda,jl3 r q.1 q.2,jo4,yU,okB];cases yX m q.1<;>cases jp q.1<;>cases zl q.2<;>cases decide (q.2.name=q.1)<;>simp
theorem jl2 (s:jw):(jda none s && decide (s.length<=12))=jL s:=by
 have hd:∀q:List UInt8 × T,dq q.2.name q.1=decide (q.2.name=q.1):=λq=>by
  by_cases h:q.2.name=q.1
  ·rw [qz.2 h,jQ h]
  ·rw [jiu.2 h,kA h]
 have ha:s.all (λq=>jp q.1 && (zl q.2 && !dq q.2.name q.1))=s.all okB:=by
  unfold okB;congr 1;funext q;rw [hd]
 unfold jL;rw [ha];cases s with
 | nil=>rfl
 | cons q r=>
  rw [jda,jl3 r q.1 q.2,yU];unfold okB;cases jp q.1<;>cases zl q.2<;>cases decide (q.2.name=q.1)<;>simp [Bool.and_comm]
def SzB (s:jw):Prop:=s.length<=1000000/\ ∀q∈s,q.1.length<=1000000/\Tz q.2
theorem SzB.sz {s:jw} (h:SzB s):Sz 1048576 s:=⟨by have:=h.1;omega,λq hq=>⟨by have:=(h.2 q hq).1;omega,(h.2 q hq).2⟩⟩
theorem yT {s:jw} (h:jL s=true):SzB s:=by
 obtain ⟨h1,_,h3⟩:=j6 h;refine ⟨by omega,λq hq=>⟨?_,?_⟩⟩
 ·have:=jfn (h3 q hq).1;omega
 ·have:=jdT q.2 (jc3 (h3 q hq).2.1);have:=Yq h q hq;unfold Tz;omega
theorem Z6 (q:List UInt8 × T):ky 3 (.elt (bc q) 0)=some (.agg [sv q.1,sv q.2.name,jH q.2.args]):=rfl
theorem jl7 (s:jw) (hs:SzB s):G 210 [sb s]=some (vb (jL s),[]):=by
 have hl:=hs.1;have key:=upto (P:=λi=>∀p:Option (List UInt8),(p=none↔i=0)->(∀m,p=some m-> ∃h:i - 1 < s.length,s[i - 1].1=m)->jmT (K8 s) (vi (s.length:Nat)) (vi (i:Nat)) (K8 s)=some (vb (jda p (s.drop i) && decide (s.length<=12)),[])) (n:=s.length) ?_ ?_ 0 (ko _) none (by simp) (λm h=>by cases h)
 ·simp only [kU,kD] at key;rw [jl2] at key;rw [jLq];simp only [jd,key]
 ·intro p _ _;have e:decide (((s.length:Nat):Int)<=12)=decide (s.length<=12):=by congr 1;exact propext (by omega)
  have:jda p []=true:=by cases p<;>rfl
  rw [jzQ,kg,this,jR,<-e];simp only [jd]
 ·intro i hi ih p hp hq;have hlt:(i:Int) < ((s.length:Nat):Int):=by omega
  have h5:=js hi (by show s.length<=9223372036854775807;omega)
  have hm:=hs.2 _ (jC hi);have e1:=jdl s[i].1 (by show s[i].1.length<=9223372036854775807;omega);have e2:=jbS s[i].2 hm.2.wf hm.2;have ih:=ih (some s[i].1) (by simp) (λm h=>by cases h;exact ⟨by simpa using hi,rfl⟩);rw [jzQ,ji hi];have e3:decide (s[i].2.name=s[i].1)=decide (s[i].2.name=s[i].1):=rfl;generalize hn:decide (s[i].2.name=s[i].1)=nn at *;have e4:ju .eql false (sv s[i].2.name) (sv s[i].1)=some (vb nn):=by rw [jf3,hn]
  generalize hv:jda (some s[i].1) (s.drop (i+1))=vv at *;cases p with
  | none=>
   have h0:¬(0:Int) < (i:Int):=by have:=hp.1 rfl;omega
   rw [jda,hn,hv];cases hb:jp s[i].1<;>rw [hb] at e1
   ·simp only [jd,hlt,ja hi,Z6,e1,jK]
   cases hk:zl s[i].2<;>rw [hk] at e2
   ·simp only [jd,hlt,ja hi,Z6,e1,e2,h0,jK,jR]
   cases nn
   ·simp only [jd,hlt,ja hi,Z6,e1,e2,h0,e4,h5,ih,jR]
   ·simp only [jd,hlt,ja hi,Z6,e1,e2,h0,e4,jK,jR]
  | some m=>
   obtain ⟨hq1,rfl⟩:=hq m rfl;have h0:(0:Int) < (i:Int):=by
    have:¬i=0:=λh=>by have:=hp.2 h;cases this
    omega
   have c1:ck ((i:Int) - 1)=some (vi ((i - 1:Nat):Int)):=by rw [show (i:Int) - 1=((i - 1:Nat):Int) by omega];exact jE (by omega) (by omega)
   have e5:=jwP false s[i].1 s[i - 1].1;rw [jda,hn,hv];cases hb:jp s[i].1<;>rw [hb] at e1
   ·rw [jK,zr];simp only [jd,hlt,ja hi,Z6,e1,jK]
   cases hc:yX s[i - 1].1 s[i].1<;>rw [hc] at e5
   ·simp only [jd,hlt,ja hi,ja hq1,Z6,qC,yA,e1,h0,c1,e5,jK]
   cases hk:zl s[i].2<;>rw [hk] at e2
   ·simp only [jd,hlt,ja hi,ja hq1,Z6,qC,yA,e1,h0,c1,e5,e2,jK,jR]
   cases nn
   ·simp only [jd,hlt,ja hi,ja hq1,Z6,qC,yA,e1,h0,c1,e5,e2,e4,h5,ih,jR]
   ·simp only [jd,hlt,ja hi,ja hq1,Z6,qC,yA,e1,h0,c1,e5,e2,e4,jK,jR]
theorem jc2 (s:jw) (hs:SzB s):G 229 [sb s]=some (vb (jL s),[]):=by
 have hl:=hs.1;have key:=upto (P:=λi=>∀p:Option (List UInt8),(p=none↔i=0)->(∀m,p=some m-> ∃h:i - 1 < s.length,s[i - 1].1=m)->jmW (vi (i:Nat)) (K8 s)=some (vb (jda p (s.drop i) && decide (s.length<=12)),[])) (n:=s.length) ?_ ?_ 0 (ko _) none (by simp) (λm h=>by cases h)
 ·simp only [kU,kD] at key;rw [jl2] at key;rw [jLB];simp only [jd,key]
 ·intro p _ _;have e:decide (((s.length:Nat):Int)<=12)=decide (s.length<=12):=by congr 1;exact propext (by omega)
  have:jda p []=true:=by cases p<;>rfl
  rw [jzV,kg,this,jR,<-e];simp only [jd]
 ·intro i hi ih p hp hq;have hlt:(i:Int) < ((s.length:Nat):Int):=by omega
  have h5:=js hi (by show s.length<=9223372036854775807;omega)
  have hm:=hs.2 _ (jC hi);have e1:=zK s[i].1 (by show s[i].1.length<=9223372036854775807;omega);have e2:=Zp s[i].2 hm.2.wf hm.2;have ih:=ih (some s[i].1) (by simp) (λm h=>by cases h;exact ⟨by simpa using hi,rfl⟩);rw [jzV,ji hi];generalize hn:decide (s[i].2.name=s[i].1)=nn at *;have e4:ju .eql false (sv s[i].2.name) (sv s[i].1)=some (vb nn):=by rw [jf3,hn]
  generalize hv:jda (some s[i].1) (s.drop (i+1))=vv at *;cases p with
  | none=>
   have h0:¬(0:Int) < (i:Int):=by have:=hp.1 rfl;omega
   rw [jda,hn,hv];cases hb:jp s[i].1<;>rw [hb] at e1
   ·simp only [jd,hlt,ja hi,Z6,e1,jK]
   cases hk:zl s[i].2<;>rw [hk] at e2
   ·simp only [jd,hlt,ja hi,Z6,e1,e2,h0,jK,jR]
   cases nn
   ·simp only [jd,hlt,ja hi,Z6,e1,e2,h0,e4,h5,ih,jR]
   ·simp only [jd,hlt,ja hi,Z6,e1,e2,h0,e4,jK,jR]
  | some m=>
   obtain ⟨hq1,rfl⟩:=hq m rfl;have h0:(0:Int) < (i:Int):=by
    have:¬i=0:=λh=>by have:=hp.2 h;cases this
    omega
   have c1:ck ((i:Int) - 1)=some (vi ((i - 1:Nat):Int)):=by rw [show (i:Int) - 1=((i - 1:Nat):Int) by omega];exact jE (by omega) (by omega)
   have e5:=jwO false s[i - 1].1 s[i].1;rw [jda,hn,hv];cases hb:jp s[i].1<;>rw [hb] at e1
   ·rw [jK,zr];simp only [jd,hlt,ja hi,Z6,e1,jK]
   cases hk:zl s[i].2<;>rw [hk] at e2
   ·rw [jK,zr,zr];simp only [jd,hlt,ja hi,ja hq1,Z6,qC,yA,e1,e2,jK,jR]
   cases nn
   ·cases hc:yX s[i - 1].1 s[i].1<;>rw [hc] at e5
    ·simp only [jd,hlt,ja hi,ja hq1,Z6,qC,yA,e1,h0,c1,e5,e2,e4,jK]
    ·simp only [jd,hlt,ja hi,ja hq1,Z6,qC,yA,e1,h0,c1,e5,e2,e4,h5,ih,jR]
   ·rw [jgj,jK,zr,zr,zr];simp only [jd,hlt,ja hi,ja hq1,Z6,qC,yA,e1,h0,c1,e5,e2,e4,jK,jR]
theorem jAV {α:Type} {R:α->α->Prop} (irr:∀a,¬R a a) (asy:∀a b,R a b-> ¬R b a):∀ {l m:List α},l.Pairwise R->m.Pairwise R->(∀x,x∈l↔x∈m)->l=m
 | [],[],_,_,_=>rfl
 | [],b::m,_,_,hx=>absurd ((hx b).2 (by simp)) (by simp)
 | a::l,[],_,_,hx=>absurd ((hx a).1 (by simp)) (by simp)
 | a::l,b::m,h1,h2,hx=>by
  obtain ⟨g1,g2⟩:=qJ.1 h1;obtain ⟨k1,k2⟩:=qJ.1 h2;have hab:a=b:=by
   rcases jZ.1 ((hx a).1 (by simp)) with e|e
   ·exact e
   rcases jZ.1 ((hx b).2 (by simp)) with e'|e'
   ·exact e'.symm
   ·exact (asy _ _ (k1 a e) (g1 b e')).elim
  subst hab;have:l=m:=jAV irr asy g2 k2 λx=>by
   constructor
   ·intro hxl;rcases jZ.1 ((hx x).1 (by simp [hxl])) with e|e
    ·exact (irr x (e ▸ g1 x hxl)).elim
    ·exact e
   ·intro hxm;rcases jZ.1 ((hx x).2 (by simp [hxm])) with e|e
    ·exact (irr x (e ▸ k1 x hxm)).elim
    ·exact e
  rw [this]
theorem jaf {x y z:List UInt8} (h1:yX x y=true) (h2:yX y z=true):yX x z=true:=by
 rw [Y2,kM] at *;exact jgp h1 h2
theorem jne:∀ {s:jw},jo4 s=true->s.Pairwise λp q=>yX p.1 q.1=true
 | [],_=>List.Pairwise.nil
 | [p],_=>by simp
 | p::q::s,h=>by
  rw [jo4,jy] at h;have ih:=jne h.2;refine qJ.2 ⟨λx hx=> ?_,ih⟩;rcases jZ.1 hx with e|e
  ·rw [e];exact h.1
  ·exact jaf h.1 ((qJ.1 ih).1 x e)
theorem jIA {m:Nat} (h:m<=2000000):yS .u64 (vi (m:Nat))=some (.val (.int .u64 (m:Nat))):=by
 show some (A.val (.int .u64 (IntKind.u64.wrap (m:Nat))))=_;have:IntKind.u64.wrap ((m:Nat):Int)=(m:Nat):=by
  unfold IntKind.wrap;simp [IntKind.bits,IntKind.signed];omega
 rw [this]
theorem jIB {m:Nat} (h:m<=2000000):ju .shr false (.val (.int .u64 (m:Nat))) (.val (.int .u64 1))=some (.val (.int .u64 ((m / 2:Nat):Int))):=by
 show some (A.val (.int .u64 (((m:Nat):Int).fdiv (2 ^ min 1 64))))=_;rw [Int.fdiv_eq_ediv_of_nonneg _ (by decide)];rfl
theorem jIC {m:Nat} (h:m<=2000000):yS .i64 (.val (.int .u64 (m:Nat)))=some (vi (m:Nat)):=jE (by omega) (by omega)
theorem juH (x y:List UInt8):zQ x y < 0↔yX x y=true:=by
 unfold zQ;cases h:yX x y with
 | true=>simp
 | false=>
  rw [jf j7];split<;>simp
theorem jrm (q:List UInt8 × T) (n:List UInt8):G 248 [.agg (bc q),sv n]=some (vi (zQ q.1 n),[]):=by
 have e:=jbH q.1 n;rw [jLP];simp only [jd,e]
theorem jgQ {s:jw} (hs:s.Pairwise λp q=>yX p.1 q.1=true) {n:List UInt8} {i:Nat} (h1:∀k,(h:k < s.length)->k < i->yX s[k].1 n=true) (h2:∀k,(h:k < s.length)->i<=k->yX s[k].1 n=false):look s n=if h:i < s.length then (if s[i].1=n then some s[i].2 else none) else none:=by
 have hne:∀k,(h:k < s.length)->k≠i->s[k].1≠n:=λk h hk e=>by
  rcases ja3 k i with hl|hl
  ·have:=h1 k h hl;rw [e,jaW] at this;cases this
  ·have hi:i < k:=by omega
   have:=(jkh.1 hs) i k (by omega) h hi;rw [e] at this;rw [h2 i (by omega) (kz _)] at this;cases this
 split
 ·rename_i hi;split
  ·rename_i he;have hm:(n,s[i].2)∈s:=by rw [<-he];exact jC hi
   cases hl:look s n with
   | none=>exact (JZ.1 hl _ hm rfl).elim
   | some r=>
    obtain ⟨k,hk,e⟩:=jkj.1 (JY hl);have:k=i:=Classical.byContradiction λh=>hne k hk h (by rw [e]);subst this;rw [e]
  ·rename_i he;refine JZ.2 λp hp=> ?_;obtain ⟨k,hk,rfl⟩:=jkj.1 hp;by_cases h:k=i
   ·subst h;exact he
   ·exact hne k hk h
 ·rename_i hi;refine JZ.2 λp hp=> ?_;obtain ⟨k,hk,rfl⟩:=jkj.1 hp;exact hne k hk (by omega)
theorem jrc (s:jw) (hl:s.length<=1000000) (hs:s.Pairwise λp q=>yX p.1 q.1=true) (n:List UInt8):∀(d i j:Nat),j - i<=d->i<=j->j<=s.length->(∀k,(h:k < s.length)->k < i->yX s[k].1 n=true)->(∀k,(h:k < s.length)->j<=k->yX s[k].1 n=false)->
  ∃(i':Nat) (b:Bool),jif (K8 s) (sv n) (.fn 248 []) (vi (s.length:Nat)) (vi (i:Nat)) (vi (j:Nat))=some (.tup [vi (i':Nat),vb b],[])/\look s n=(if h:i' < s.length then (if b then some s[i'].2 else none) else none)/\(b=true->i' < s.length):=by
 intro d;induction d with
 | zero=>
  intro i j hd hij hj h1 h2;have hij:i=j:=by omega
  subst hij;have hlt:¬(i:Int) < (i:Int):=by omega
  have hp:K.pureF 248=true:=rfl;rw [jzZ];by_cases hi:i < s.length
  ·have hi':(i:Int) < ((s.length:Nat):Int):=by omega
   have cc:DX.run K (MM K) (.callc (.fn 248 []) [.agg (bc s[i]),sv n] false)=some (vi (zQ s[i].1 n)):=by
    rw [qP hp,qv,jrm];rfl
   refine ⟨i,decide (s[i].1=n),?_,?_,λ_=>hi⟩
   ·have hz:decide (zQ s[i].1 n=0)=decide (s[i].1=n):=jgo.2 (ZM.zero _ _);rw [<-hz];simp only [jd,hlt,hi',ja hi,Z6,cc]
   ·rw [jgQ hs h1 h2,dif_pos hi,dif_pos hi];by_cases he:s[i].1=n
    ·rw [jg he,jQ he,jg rfl]
    ·rw [jf he,kA he,jf j7]
  ·have hi':¬(i:Int) < ((s.length:Nat):Int):=by omega
   refine ⟨i,false,?_,?_,λh=>by cases h⟩
   ·simp only [jd,hlt,hi']
   ·rw [jgQ hs h1 h2,dif_neg hi,dif_neg hi]
 | succ d ih=>
  intro i j hd hij hj h1 h2;by_cases hlt0:i < j;rotate_left
  ·exact ih i j (by omega) hij hj h1 h2
  have hlt:(i:Int) < (j:Int):=by omega
  have hp:K.pureF 248=true:=rfl;have hm:(i+j) / 2 < s.length:=by omega
  have c0:ck ((i:Int)+(j:Int))=some (vi ((i+j:Nat):Int)):=jE (by omega) (by omega);have c1:=jIA (m:=i+j) (by omega);have c2:=jIB (m:=i+j) (by omega);have c3:=jIC (m:=(i+j) / 2) (by omega);have cc:DX.run K (MM K) (.callc (.fn 248 []) [.agg (bc s[(i+j) / 2]),sv n] false)=some (vi (zQ s[(i+j) / 2].1 n)):=by
   rw [qP hp,qv,jrm];rfl
  have ix:=ja (k:=3) (f:=bc) hm;have hpw:=jkh.1 hs;rw [jzZ];have hc:=juH s[(i+j) / 2].1 n;generalize hg:zQ s[(i+j) / 2].1 n=c at *;generalize hme:(i+j) / 2=m at *;by_cases hneg:c < 0
  ·have hs1:=hc.1 hneg;have h5:ck ((m:Int)+1)=some (vi ((m+1:Nat):Int)):=jE (by omega) (by omega);have:=ih (m+1) j (by omega) (by omega) hj (λk hk hk2=>by
    by_cases e:k=m
    ·subst e;exact hs1
    ·exact jaf (hpw k m hk hm (by omega)) hs1) h2
   obtain ⟨i',b,e1,e2⟩:=this;exact ⟨i',b,by simp only [jd,hlt,c0,c1,c2,c3,ix,Z6,cc,hneg,h5];exact e1,e2⟩
  ·have hs1:yX s[m].1 n=false:=by
    cases h:yX s[m].1 n with
    | false=>rfl
    | true=>exact (hneg (hc.2 h)).elim
   have:=ih i m (by omega) (by omega) (by omega) h1 (λk hk hk2=>by
    by_cases e:k=m
    ·subst e;exact hs1
    ·cases h:yX s[k].1 n with
     | false=>rfl
     | true=>rw [jaf (hpw m k hm hk (by omega)) h] at hs1;cases hs1)
   obtain ⟨i',b,e1,e2⟩:=this;exact ⟨i',b,by simp only [jd,hlt,c0,c1,c2,c3,ix,Z6,cc,hneg];exact e1,e2⟩
def outT (o:Option T):Option Out:=match o with|some t=>some (.tup [tm t,vb true],[])|none=>some (.tup [.agg [sv [],.sl 2 []],vb false],[])
theorem jjW (s:jw) (hs:jL s=true) (n:List UInt8):G 211 [sb s,sv n]=outT (look s n):=by
 have hl:=(j6 hs).1;obtain ⟨i,b,e1,e2,e3⟩:=jrc s (by omega) (jne (j6 hs).2.1) n s.length 0 s.length (by omega) (ko _) (kz _) (λk _ h=>by omega) (λk h1 h2=>by omega);simp only [kU] at e1;have e4:G 247 [K8 s,sv n,.fn 248 []]=some (.tup [vi (i:Nat),vb b],[]):=by
  rw [jLO];simp only [jd,e1]
 rw [jLr,e2];cases b with
 | false=>
  have:(if h:i < s.length then (if false=true then some s[i].2 else none) else none)=(none:Option T):=by split<;>simp
  rw [this];simp only [jd,e4];rfl
 | true=>
  have hi:=e3 rfl;rw [dif_pos hi,jg rfl];simp only [jd,e4,ja hi,qC,YV];rfl
theorem jkU (s:jw) (hs:jL s=true):∀t:T,Rx' t->Tz t->G 170 [sb s,tm t]=some (tm (sub s t),[]):=by
 refine T.ind λt ih hk ht=> ?_;have hz:=ht;unfold Tz at hz;rw [kH] at hz;rw [jKW];by_cases ha:t.args = []
 ·have e1:=jjW s hs t.name;have h0:zn (jH t.args)=some (vi 0):=by rw [ha];rfl
  cases hl:look s t.name with
  | some r=>
   rw [hl] at e1;have e1:G 211 [sb s,sv t.name]=some (.tup [tm r,vb true],[]):=e1;have hv:jp t.name=true:=((j6 hs).2.2 _ (JY hl)).1;have e2:=JH r ((yT hs).2 _ (JY hl)).2;have:sub s t=r:=by rw [Jk hv,Js,hl];rfl
   rw [this];simp only [jd,h0,e1,e2]
  | none=>
   rw [hl] at e1;have e1:G 211 [sb s,sv t.name]=some (.tup [.agg [sv [],.sl 2 []],vb false],[]):=e1;have:sub s t = .mk t.name []:=by
    cases hv:jp t.name with
    | true=>rw [Jk hv,Js,hl];rfl
    | false=>rw [qE hv,ha];rfl
   rw [this];simp only [jd,h0,e1];rfl
 ·have hv:jp t.name=false:=by
   cases hv:jp t.name with
   | false=>rfl
   | true=>exact (ha (hk.va hv)).elim
  have hpos:0 < t.args.length:=by
   cases h:t.args with
   | nil=>exact (ha h).elim
   | cons _ _=>simp
  have h0:¬((t.args.length:Nat):Int)=0:=by omega
  rw [qE hv];generalize hus:t.args.map (sub s)=us at *;have hul:us.length=t.args.length:=by rw [<-hus,kj]
  have hm:=jf6 (b:=40) (n:=t.args.length) (by omega) (by omega);have hz0:(0:Int) < ((t.args.length:Nat):Int):=by omega
  have step:∀i,(hi:i < t.args.length)->G 170 [sb s,tm t.args[i]]=some (tm (us[i]'(by omega)),[]):=λi hi=>by
   rw [ih t.args[i] (jC _) (hk.args _ (jC _)) (ht.args _ (jC _))];simp only [<-hus,jcs]
  have stepR:∀i,(hi:i < t.args.length)->Zf (part jo [sv [],.sl 2 []] us i).length (vi (i:Nat))=some i/\jac (part jo [sv [],.sl 2 []] us i) i=some [sv [],.sl 2 []]/\qg (part jo [sv [],.sl 2 []] us i) i [sv (us[i]'(by omega)).name,jH (us[i]'(by omega)).args]=part jo [sv [],.sl 2 []] us (i+1):=λi hi=>by
   have h4:=jqE (f:=jo) (z:=[sv [],.sl 2 []]) (xs:=us) (i:=i) (by omega);rw [kG] at h4;refine ⟨zz (by rw [jgV (by omega)];omega),jqD (by omega),h4⟩
  have key:=(upto (P:=λi=>1<=i->jsn (jH t.args) (vi (t.args.length:Nat)) (vi (i:Nat)) (K8 s) (sv []) (sv t.name) [] (part jo [sv [],.sl 2 []] us i)=some (tm (.mk t.name us),[])) (n:=t.args.length) ?_ ?_ 1 hpos (kz _));rotate_left
  ·intro _;rw [jzC,<-hul,jqC];simp only [jd];rfl
  ·intro i hi ih' _;have hlt:(i:Int) < ((t.args.length:Nat):Int):=by omega
   have h5:=js hi (by show t.args.length<=9223372036854775807;omega)
   have e2:=step i hi;obtain ⟨h2,h3,h4⟩:=stepR i hi;have ih':=ih' (by omega);rw [jzC];simp only [jd,hlt,ja hi,je,e2,h2,h3,jez,h4,h5,ih']
  have e2:=step 0 hpos;obtain ⟨h2,h3,h4⟩:=stepR 0 hpos;rw [<-jlz] at h2 h3 h4;simp only [kU,yd] at h2 h4 key;have ix:=ja (k:=2) (f:=jo) hpos;simp only [kU] at ix;have h5:ck (0+1)=some (vi ((1:Nat):Int)):=jE (n:=0+1) (by omega) (by omega);have first:jsm (jH t.args) (vi (t.args.length:Nat)) (vi 0) (K8 s) (sv []) (sv t.name) (Zw us.length [sv [],.sl 2 []]) []=some (tm (.mk t.name us),[]):=by
   rw [jGC];simp only [jd,hz0,ix,je,e2,h2,h3,jez,h4,h5,key]
  rw [hul] at first
  simp only [jd,h0,hm,first]
theorem jG9 (s:jw):∀t:T,Rx' t->nodes t<=nodes (sub s t)/\J8 t<=J8 (sub s t):=by
 refine T.ind λt ih hk=> ?_;cases hv:jp t.name with
 | true=>
  have ha:=hk.va hv;rw [jT t,ZZ t,ha];have:=qT (sub s t);have:=ZZ (sub s t);simp only [jr,QE];omega
 | false=>
  have hL:∀us:List T,(∀u∈us,nodes u<=nodes (sub s u)/\J8 u<=J8 (sub s u))->jr us<=jr (us.map (sub s))/\QE us<=QE (us.map (sub s)):=by
   intro us;induction us with
   | nil=>intro _;exact ⟨kz _,kz _⟩
   | cons v vs ih2=>
    intro h;have h1:=h v (by simp);have h2:=ih2 λw hw=>h w (by simp [hw]);simp only [zf,jr,QE];omega
  have:=hL t.args λu hu=>ih u hu (hk.args u hu);rw [jT t,ZZ t,jT (sub s t),ZZ (sub s t),jag hv];omega
def KN (t:T):Prop:=zS t=true\/(t.name = [61]/\t.args.length=2/\ ∀u∈t.args,zS u=true)
theorem KN.rx {t:T} (h:KN t):Rx' t:=h.elim Or.inl λh=>Or.inr ⟨h.1,h.2.2⟩
theorem KN.tz {t:T} (h:KN t) (hn:nodes t<=100000):Tz t:=by
 rcases h with h|h
 ·have:=jdT t h;unfold Tz;omega
 ·unfold Tz;rw [jT] at hn;rw [kH,h.1,h.2.1];have:=jve h.2.2;simp only [zk,yw];omega
theorem KN.sub {s:jw} (hs:jL s=true) {t:T} (h:KN t):KN (sub s t):=by
 rcases h with h|h
 ·exact Or.inl (Y5 (J2 hs) t h)
 ·have hvn:jp t.name=false:=by rw [h.1];decide
  right;rw [qE hvn];refine ⟨h.1,by show (t.args.map _).length=2;rw [kj,h.2.1],λu hu=> ?_⟩;obtain ⟨a,ha,rfl⟩:=zN.1 hu;exact Y5 (J2 hs) a (h.2.2 a ha)
theorem KN.sub_tz {s:jw} (hs:jL s=true) {t:T} (h:KN t) (hn:nodes t<=3000):Tz (Go.Proofs.YtbgikpffkgjecaaGreatDoor.sub s t):=by
 have:=jlW (u:=s) (Z:=30) (by decide) (Yq hs) t;exact (h.sub hs).tz (by omega)
theorem jxb {s:jw} {t:T} (h:Rx' t) (hs:jD (sub s t)=true):jD t=true:=by
 have:=jG9 s t h;simp only [jD,jy,kM] at hs ⊢;omega
theorem yH (s:jw) (hs:jL s=true) (t:T) (h:KN t) (hn:nodes t<=3000):G 123 [sb s,tm t]=outT (if jD (sub s t) then some (sub s t) else none):=by
 have ht:=h.tz (by omega);have hu:=h.sub_tz hs hn;have e1:=jkU s hs t h.rx ht;have e2:=jaG (sub s t) hu.wf hu;rw [jKo];cases hsm:jD (sub s t)<;>rw [hsm] at e2
 ·rw [jf j7];simp only [jd,e1,e2];rfl
 ·rw [jg rfl];simp only [jd,e1,e2];rfl
theorem Je (s:jw) (hs:jL s=true) (t:T) (h:KN t) (hn:nodes t<=3000):G 193 [sb s,tm t]=outT (if jD (sub s t) then some (sub s t) else none):=by
 have ht:=h.tz (by omega);have hu:=h.sub_tz hs hn;have e0:=jc2 s (yT hs);have e1:=jnb ht h;have e2:=Ku s (yT hs).sz t ht;have e3:=jnb hu (h.sub hs);rw [hs] at e0;rw [jLc];cases hsm:jD (sub s t)<;>rw [hsm] at e3
 ·rw [jf j7];cases hs1:jD t<;>rw [hs1] at e1
  ·simp only [jd,e0,e1];rfl
  ·simp only [jd,e0,e1,e2,e3];rfl
 ·rw [jg rfl];rw [jxb h.rx hsm] at e1;simp only [jd,e0,e1,e2,e3];rfl
abbrev LtB (p q:List UInt8 × T):Prop:=yX p.1 q.1=true
theorem jgY (n:List UInt8) (t:T):∀s:jw,s.Pairwise LtB->(∀q∈s,q.1≠n)->(YW s n t).Pairwise LtB
 | [],_,_=>by unfold YW;simp
 | p::s,h,hn=>by
  obtain ⟨h1,h2⟩:=qJ.1 h;cases hc:yX p.1 n with
  | true=>
   have e:YW (p::s) n t=p::YW s n t:=by
    unfold YW;rw [jvS (p:=λp:List UInt8 × T=>yX p.1 n) hc,jBP (p:=λp:List UInt8 × T=>yX p.1 n) hc,K5]
   rw [e];refine qJ.2 ⟨λx hx=> ?_,jgY n t s h2 λq hq=>hn q (by simp [hq])⟩;rcases jjD.1 hx with hx|hx
   ·exact h1 x hx
   ·rw [hx];exact hc
  | false=>
   have e:YW (p::s) n t=(n,t)::p::s:=by
    unfold YW;rw [jrK (p:=λp:List UInt8 × T=>yX p.1 n) (by simp [hc]),jvR (p:=λp:List UInt8 × T=>yX p.1 n) (by simp [hc])];rfl
   have hlt:yX n p.1=true:=by
    have h3:=jn8 n p.1;rw [hc] at h3;have h4:decide (n=p.1)=false:=kA λe=>hn p (by simp) e.symm;rw [h4,QN] at h3;exact h3
   rw [e];refine qJ.2 ⟨λx hx=> ?_,h⟩;rcases jZ.1 hx with e|e
   ·rw [e];exact hlt
   ·exact jaf hlt (h1 x e)
theorem jaP:∀(m s:jw),s.Pairwise LtB->(m.map Prod.fst).Nodup->(∀p∈m,∀q∈s,q.1≠p.1)->(m.foldl (λs p=>Kk s p.1 p.2) s).Pairwise LtB
 | [],s,h,_,_=>h
 | p::m,s,h,hn,hd=>by
  rw [zf,jj9] at hn;rw [Km];by_cases he:p.2.name=p.1
  ·have:Kk s p.1 p.2=s:=jg he;rw [this];exact jaP m s h hn.2 λq hq r hr=>hd q (by simp [hq]) r hr
  ·have:Kk s p.1 p.2=YW s p.1 p.2:=jf he;rw [this];refine jaP m _ (jgY p.1 p.2 s h (hd p (by simp))) hn.2 λq hq r hr=> ?_;rcases jjD.1 hr with hr|hr
   ·exact hd q (by simp [hq]) r hr
   ·rw [hr];intro e;exact hn.1 (zN.2 ⟨q,hq,e.symm⟩)
theorem jdV:∀(m s:jw),m.foldl (λs p=>Kk s p.1 p.2) s=(m.filter λp=> !decide (p.2.name=p.1)).foldl (λs p=>Kk s p.1 p.2) s
 | [],s=>rfl
 | p::m,s=>by
  rw [Km,List.filter_cons];by_cases he:p.2.name=p.1
  ·rw [jf (by simp [he]),show Kk s p.1 p.2=s from jg he];exact jdV m s
  ·rw [jg (by simp [he]),Km];exact jdV m _
theorem jod {l s:jw} (hn:(l.map Prod.fst).Nodup) (hk:∀p∈l,p.2.name≠p.1) (hp:s.Perm l) (hs:s.Pairwise λa b=>¬zQ b.1 a.1 < 0):s=Ka l:=by
 have h1:=jaP l [] List.Pairwise.nil hn λp _ q h=>by cases h
 have h2:=(Qr l [] hk).2;refine jAV (R:=LtB) (λa h=>by unfold LtB at h;rw [jaW] at h;cases h) (λa b h h'=>by have:=jaf h h';rw [jaW] at this;cases this) ?_ h1 λx=> ?_
 ·have hne:s.Pairwise λa b=>a.1≠b.1:=by
   have:(s.map Prod.fst).Nodup:=(hp.map Prod.fst).nodup_iff.2 hn;rw [jtU] at this;exact List.pairwise_map.1 this
  refine (hs.and hne).imp λ{a b} h=> ?_;have h3:=jn8 a.1 b.1;rw [kA h.2,QN] at h3;show yX a.1 b.1=true;rw [h3];cases hc:yX b.1 a.1 with
  | false=>rfl
  | true=>exact (h.1 ((juH _ _).2 hc)).elim
 ·rw [hp.mem_iff];have:=h2 x;simp only [qK,false_or] at this;exact this.symm
def yn (o:Option jw):Option Out:=match o with|some s=>some (.tup [sb s,vb true],[])|none=>some (.tup [.agg [.sl 3 []],vb false],[])
theorem jvl {n:Nat} (h:n<=1000000):jA n 56=true:=jnW (by omega)
theorem jAd (p q:List UInt8 × T):G 213 [.agg (bc p),.agg (bc q)]=some (vi (zQ p.1 q.1),[]):=by
 have e:=jbH p.1 q.1;rw [jLs];simp only [jd,e]
def jlc (l:jw):jw:=l.filter λp=> !decide (p.2.name=p.1)
theorem jb0 {s:jw} (h:jL s=true):(s.map Prod.fst).Nodup:=by
 rw [jtU,List.pairwise_map];exact (jne (j6 h).2.1).imp λ{a b} h e=>by rw [e,jaW] at h;cases h
def Qp (s u:jw):jw:=jlc (s.map λq=>(q.1,sub u q.2))++u.filter λq=>(look s q.1).isNone
theorem juS {s u:jw} (hu:jL u=true):Ka (Qp s u)=zO s u:=by
 unfold zO Qp;unfold Ka;rw [List.foldl_append,List.foldl_append,jdV (s.map _)];rfl
theorem jiB {s u:jw} (hs:jL s=true) (hu:jL u=true):(Qp s u).length<=24/\((Qp s u).map Prod.fst).Nodup/\(∀p∈Qp s u,p.2.name≠p.1)/\ ∀p∈Qp s u,p.1.length<=1000000/\Tz p.2:=by
 obtain ⟨ls,_,vs⟩:=j6 hs;obtain ⟨lu,_,vu⟩:=j6 hu;have hs2:∀p∈jlc (s.map λq=>(q.1,sub u q.2)),p.2.name≠p.1/\ ∃q∈s,p.1=q.1/\p.2=sub u q.2:=λp hp=>by
  obtain ⟨h1,h2⟩:=jki.1 hp;obtain ⟨q,hq,rfl⟩:=zN.1 h1;exact ⟨by simpa using h2,q,hq,rfl,rfl⟩
 refine ⟨?_,?_,λp hp=> ?_,λp hp=> ?_⟩
 ·unfold Qp jlc;have h1:=List.length_filter_le (λp:List UInt8 × T=> !decide (p.2.name=p.1)) (s.map λq=>(q.1,sub u q.2));have h2:=List.length_filter_le (λq:List UInt8 × T=>(look s q.1).isNone) u;rw [zh];rw [kj] at h1;omega
 ·unfold Qp;rw [zy];refine jke.2 ⟨?_,?_,λa ha b hb=> ?_⟩
  ·have:((jlc (s.map λq=>(q.1,sub u q.2))).map Prod.fst).Sublist (s.map Prod.fst):=by
    have h:=(List.filter_sublist (p:=λp:List UInt8 × T=> !decide (p.2.name=p.1)) (l:=s.map λq=>(q.1,sub u q.2))).map Prod.fst;rw [qa] at h;exact h
   exact (jb0 hs).sublist this
  ·exact (jb0 hu).sublist (List.filter_sublist.map Prod.fst)
  ·obtain ⟨p,hp,rfl⟩:=zN.1 ha;obtain ⟨q,hq,rfl⟩:=zN.1 hb;obtain ⟨_,r,hr,e,_⟩:=hs2 p hp;have h3:=(jki.1 hq).2;rw [Option.isNone_iff_eq_none] at h3;intro e2;exact JZ.1 h3 r hr (by rw [<-e,e2])
 ·rcases kZ.1 hp with hp|hp
  ·exact (hs2 p hp).1
  ·exact (vu p (jki.1 hp).1).2.2
 ·rcases kZ.1 hp with hp|hp
  ·obtain ⟨_,q,hq,e1,e2⟩:=hs2 p hp;rw [e1,e2];have h1:=(yT hs).2 q hq;exact ⟨h1.1,KN.sub_tz hu (Or.inl (J2 hs q hq)) (by have:=Yq hs q hq;omega)⟩
  ·exact (yT hu).2 p (jki.1 hp).1
theorem juJ {s u:jw} (hs:jL s=true) (hu:jL u=true):SzB (zO s u):=by
 obtain ⟨h1,h2,h3,h4⟩:=jiB hs hu;rw [<-juS hu];obtain ⟨f1,f2⟩:=Qr (Qp s u) [] h3;refine ⟨by unfold Ka;rw [f1];simp;omega,λq hq=> ?_⟩;have:=(f2 q).1 hq;simp only [qK,false_or] at this;exact h4 q this
theorem Ql (s u:jw) (hs:jL s=true) (hu:jL u=true):G 165 [sb s,sb u]=yn (if jL (zO s u) then some (zO s u) else none):=by
 obtain ⟨g1,g2,g3,g4⟩:=jiB hs hu;have ls:=(j6 hs).1;have lu:=(j6 hu).1;obtain ⟨so,p1,p2,p3⟩:=jpp ZM Prod.fst bc 3 213 rfl (Qp s u) (by omega) λx _ y _=>jAd x y;have hso:=jod g2 g3 p1 p2;rw [juS hu] at hso;subst hso;have e1:=jl7 (zO s u) (juJ hs hu);have fin:jfE (K8 u) (vi (u.length:Nat)) (vi (u.length:Nat)) (K8 s) [] ((Qp s u).map bc)=yn (if jL (zO s u) then some (zO s u) else none):=by
  have hC:jr6 ((Qp s u).map bc)=some (.top,[.sl 3 ((zO s u).map bc)]):=by rw [jF9];exact p3
  have r1:hR 3 (A.top,[.sl 3 ((zO s u).map bc)]) 0=some ((zO s u).map bc):=rfl;rw [jzB];cases hv:jL (zO s u)<;>rw [hv] at e1
  ·rw [jf j7];have e1:(G 210 [sb (zO s u)]).bind (fin true)=some (vb false):=by rw [e1];rfl
   simp only [jd,hC,r1,e1];rfl
  ·rw [jg rfl];have e1:(G 210 [sb (zO s u)]).bind (fin true)=some (vb true):=by rw [e1];rfl
   simp only [jd,hC,r1,e1];rfl
 have k1:=upto (P:=λi=>∀R:jw,R.length<=12+i->R++(u.drop i).filter (λq=>(look s q.1).isNone)=Qp s u->jfE (K8 u) (vi (u.length:Nat)) (vi (i:Nat)) (K8 s) [] (R.map bc)=yn (if jL (zO s u) then some (zO s u) else none)) (n:=u.length) ?_ ?_ 0 (ko _);rotate_left
 ·intro R _ hR;rw [kg,List.filter_nil,qv] at hR;rw [hR];exact fin
 ·intro i hi ih R hRl hR;have hlt:(i:Int) < ((u.length:Nat):Int):=by omega
  have h5:ck ((i:Int)+1)=some (vi ((i+1:Nat):Int)):=jE (by omega) (by omega);have e2:=jjW s hs u[i].1;rw [ji hi,List.filter_cons] at hR;rw [jzB];cases hl:look s u[i].1 with
  | some r=>
   rw [hl] at e2 hR;have e2:G 211 [sb s,sv u[i].1]=some (.tup [tm r,vb true],[]):=e2;rw [jf (by simp)] at hR;have:=ih R (by omega) hR;simp only [jd,hlt,ja hi,Z6,e2,h5,this]
  | none=>
   rw [hl] at e2 hR;have e2:G 211 [sb s,sv u[i].1]=some (.tup [.agg [sv [],.sl 2 []],vb false],[]):=e2;rw [jg (by simp)] at hR;have:=ih (R++[u[i]]) (by rw [zh];simp only [zk,yw];omega) (by rw [yv];exact hR);have e3:=JH u[i].2 ((yT hu).2 _ (jC hi)).2;have hf:jA (R.length+1) 56=true:=jvl (by omega);have ha:jW (R.map bc) [[sv u[i].1,sv u[i].2.name,jH u[i].2.args]]=(R++[u[i]]).map bc:=by rw [zy];rfl
   simp only [jd,hlt,ja hi,Z6,e2,e3];generalize hB:kX _ _ _=B;have hB':B=some (.agg (bc u[i])):=by rw [<-hB];kernel_rfl
   rw [hB'];simp only [jd,hf,ha,h5,this]
 have k0:=upto (P:=λi=>∀R:jw,R.length<=i->R++(jlc ((s.drop i).map λq=>(q.1,sub u q.2))++u.filter λq=>(look s q.1).isNone)=Qp s u->jh4 (K8 s) (vi (s.length:Nat)) (vi (i:Nat)) (K8 s) (K8 u) [] (R.map bc)=yn (if jL (zO s u) then some (zO s u) else none)) (n:=s.length) ?_ ?_ 0 (ko _) [] (ko _) rfl
 ·simp only [kU,ql] at k0;rw [jKU];simp only [jd,k0]
 ·intro R hRl hR;have:=k1 R (by omega) (by rw [kD];rw [kg] at hR;exact hR);simp only [kU] at this;rw [jzA];simp only [jd,this]
 ·intro i hi ih R hRl hR;have hlt:(i:Int) < ((s.length:Nat):Int):=by omega
  have h5:ck ((i:Int)+1)=some (vi ((i+1:Nat):Int)):=jE (by omega) (by omega);have hm:=(yT hs).2 _ (jC hi);have e2:=jkU u hu s[i].2 (Or.inl (J2 hs _ (jC hi))) hm.2;rw [ji hi,zf,jlc,List.filter_cons] at hR;rw [jzA];by_cases he:(sub u s[i].2).name=s[i].1
  ·rw [jf (by simp [he])] at hR;have:=ih R (by omega) hR;simp only [jd,hlt,ja hi,Z6,e2,he,h5,this]
  ·rw [jg (by simp [he])] at hR;have:=ih (R++[(s[i].1,sub u s[i].2)]) (by rw [zh];simp only [zk,yw];omega) (by rw [yv];exact hR);have hf:jA (R.length+1) 56=true:=jvl (by omega);have ha:jW (R.map bc) [[sv s[i].1,sv (sub u s[i].2).name,jH (sub u s[i].2).args]]=(R++[(s[i].1,sub u s[i].2)]).map bc:=by rw [zy];rfl
   simp only [jd,hlt,ja hi,Z6,e2,he,hf,ha,h5,this]
theorem jnH (s u:jw) (hs:jL s=true) (hu:jL u=true):G 271 [sb s,sb u]=some (sb (zO s u),[]):=by
 have ls:=(j6 hs).1;have lu:=(j6 hu).1;have r1:∀x:jw,hR 3 (A.top,[K8 x]) 0=some (x.map bc):=λx=>rfl;have k1:=upto (P:=λi=>∀R:jw,R.length<=12+i->(∀q∈R,Tz q.2)->jih (vi (i:Nat)) (K8 s) (K8 u) [] (R.map bc)=some (sb (((u.drop i).filter λq=>(look s q.1).isNone).foldl (λs p=>Kk s p.1 p.2) R),[])) (n:=u.length) ?_ ?_ 0 (ko _);rotate_left
 ·intro R _ _;rw [jz6,kg];simp only [jd];rfl
 ·intro i hi ih R hR hz;have hlt:(i:Int) < ((u.length:Nat):Int):=by omega
  have h5:ck ((i:Int)+1)=some (vi ((i+1:Nat):Int)):=jE (by omega) (by omega);have hm:=(yT hu).2 _ (jC hi);rw [jz6,ji hi,List.filter_cons];rcases jli s (by omega) u[i].1 with ⟨h1,h2⟩|⟨k,hk,h1,h2⟩
  ·have e3:=jnZ R (by omega) u[i].1 u[i].2 hm.2;have:=ih (Kk R u[i].1 u[i].2) (by have:=je2 R u[i].1 u[i].2;omega) λq hq=>(jjC hq).elim (hz q) λe=>by rw [e];exact hm.2
   rw [h1,jg (by simp),Km];simp only [jd,hlt,ja hi,qC,yA,YV,h2,e3,r1,h5,this]
  ·have:=ih R (by omega) hz;have hk0:¬((k:Nat):Int) < 0:=by omega
   rw [h1,jf (by simp)];simp only [jd,hlt,ja hi,qC,yA,h2,hk0,h5,this]
 have k0:=upto (P:=λi=>∀R:jw,R.length<=i->(∀q∈R,Tz q.2)->jm2 (vi (i:Nat)) (K8 s) (K8 u) [] (R.map bc)=some (sb ((u.filter λq=>(look s q.1).isNone).foldl (λs p=>Kk s p.1 p.2) (((s.drop i).map λq=>(q.1,sub u q.2)).foldl (λs p=>Kk s p.1 p.2) R)),[])) (n:=s.length) ?_ ?_ 0 (ko _) [] (ko _) (λq h=>by cases h)
 ·simp only [kU,ql,kD] at k0;rw [jLX];simp only [jd,k0];rw [<-List.foldl_append];rfl
 ·intro R hR hz;have:=k1 R (by omega) hz;simp only [kU,kD] at this;rw [jz5,kg];simp only [jd,this];rfl
 ·intro i hi ih R hR hz;have hlt:(i:Int) < ((s.length:Nat):Int):=by omega
  have h5:ck ((i:Int)+1)=some (vi ((i+1:Nat):Int)):=jE (by omega) (by omega);have hm:=(yT hs).2 _ (jC hi);have ht:Tz (sub u s[i].2):=KN.sub_tz hu (Or.inl (J2 hs _ (jC hi))) (by have:=Yq hs _ (jC hi);omega);have e2:=Ku u (yT hu).sz s[i].2 hm.2;have e3:=jnZ R (by omega) s[i].1 (sub u s[i].2) ht;have:=ih (Kk R s[i].1 (sub u s[i].2)) (by have:=je2 R s[i].1 (sub u s[i].2);omega) λq hq=>(jjC hq).elim (hz q) λe=>by rw [e];exact ht
  rw [jz5,ji hi,zf,Km];simp only [jd,hlt,ja hi,qC,yA,YV,e2,e3,r1,h5,this]
theorem jpe (s u:jw) (hs:jL s=true) (hu:SzB u):G 232 [sb s,sb u]=yn (if jL u && jL (zO s u) then some (zO s u) else none):=by
 have e1:=jc2 s (yT hs);have e2:=jc2 u hu;rw [hs] at e1;rw [jLE];cases hv:jL u<;>rw [hv] at e2
 ·rw [jK,jf j7];simp only [jd,e1,e2];rfl
 ·have e3:=jnH s u hs hv;have e4:=jc2 (zO s u) (juJ hs hv);rw [jR];cases hc:jL (zO s u)<;>rw [hc] at e4
  ·rw [jf j7];simp only [jd,e1,e2,e3,e4];rfl
  ·rw [jg rfl];simp only [jd,e1,e2,e3,e4];rfl
inductive Hgt (s:jw):Nat->JV->Prop
 | nil (r:Nat):Hgt s r []
 | blk (r τ δ:Nat) (b es:JV):9 * τ+(8 - δ) < r->τ<=s.length+1->δ<=8->b.length<=4->(τ=s.length+1-> ∀p∈b,sub s p.1=p.1/\sub s p.2=p.2/\J8 p.1<=δ/\J8 p.2<=δ)->Hgt s (9 * τ+(8 - δ)) es->Hgt s r (b++es)
theorem Hgt.len {s:jw} {r:Nat} {es:JV} (h:Hgt s r es):es.length<=4 * r:=by
 induction h with
 | nil r=>exact ko _
 | blk r τ δ b es h1 _ _ h4 _ _ ih=>rw [zh];omega
theorem Hgt.mono {s:jw} {r r':Nat} {es:JV} (h:Hgt s r es) (hr:r<=r'):Hgt s r' es:=by
 induction h with
 | nil=>exact Hgt.nil _
 | blk r τ δ b es h1 h2 h3 h4 h5 h6 _=>exact Hgt.blk r' τ δ b es (by omega) h2 h3 h4 h5 h6
theorem Hgt.grow {s s':jw} (hs:s.length < s'.length) {r:Nat} {es:JV} (h:Hgt s r es):Hgt s' r es:=by
 induction h with
 | nil r=>exact Hgt.nil _
 | blk r τ δ b es h1 h2 h3 h4 h5 _ ih=>exact Hgt.blk r τ δ b es h1 (by omega) h3 h4 (λh=>by omega) ih
theorem Hgt.pop {s:jw} {r:Nat} {es:JV} (h:Hgt s r es):∀ {p:T × T} {rest:JV},es=p::rest-> ∃τ δ,9 * τ+(8 - δ) < r/\τ<=s.length+1/\δ<=8/\(τ=s.length+1->sub s p.1=p.1/\sub s p.2=p.2/\J8 p.1<=δ/\J8 p.2<=δ)/\Hgt s (9 * τ+(8 - δ)+1) rest:=by
 induction h with
 | nil r=>intro p rest h;cases h
 | blk r τ δ b es h1 h2 h3 h4 h5 h6 ih=>
  intro p rest he;cases b with
  | nil=>
   obtain ⟨τ',δ',g1,g2⟩:=ih he;exact ⟨τ',δ',by omega,g2⟩
  | cons q b=>
   rw [K5,Qd] at he;obtain ⟨rfl,rfl⟩:=he;rw [zk] at h4;exact ⟨τ,δ,h1,h2,h3,λh=>h5 h q (by simp),Hgt.blk _ τ δ b es (by omega) h2 h3 (by omega) (λh x hx=>h5 h x (by simp [hx])) h6⟩
theorem Yk {t:T} (h:KN t):t.args.length<=4:=by
 rcases h with h|h
 ·cases hv:jp t.name with
  | true=>rw [Ja h hv];simp
  | false=>
   rw [yp,hv,jf j7,jy,jy,kM] at h;exact h.2.1
 ·omega
theorem zL {s:jw} {l r:T} {rest:JV} (h:ZK s ((l,r)::rest)) (hg:Hgt s 126 ((l,r)::rest)) {s':jw} {es:JV} (hst:yl s l r rest=some (s',es)):Hgt s' 126 es:=by
 obtain ⟨τ,δ,g1,g2,g3,g4,g5⟩:=hg.pop rfl;have hrest:Hgt s 126 rest:=g5.mono (by omega);have hl:=(j6 h.1).1;obtain ⟨_,hor⟩:=zo h hst;by_cases hlen:s'.length=s.length+1
 ·have hst':=hst;unfold yl at hst;split at hst
  ·cases hst
  split at hst
  ·cases hst;omega
  split at hst
  ·split at hst
   ·cases hst
   ·cases hst;exact hrest.grow (by omega)
  ·split at hst
   ·cases hst;omega
   ·cases hst
 ·have hs:s'=s:=hor.elim (λh=>h.1) λh=>(hlen h).elim;subst hs;obtain ⟨hv,hi,he⟩:=h;obtain ⟨el,er⟩:=he (l,r) (by simp);unfold yl at hst;split at hst
  ·cases hst
  rename_i hsm;split at hst
  ·cases hst;exact hrest
  split at hst
  ·rename_i hvar;split at hst
   ·cases hst
   ·rename_i hno;simp only [zg,Jc] at hst;rw [<-hst.2];exact hrest
  rename_i hnv;split at hst;rotate_left
  ·cases hst
  simp only [zg,Jc,true_and] at hst;subst hst;have sm:∀t,¬jD t=false->J8 t<=8:=λt ht=>by
   have:jD t=true:=by cases h:jD t with|true=>rfl|false=>exact (ht h).elim
   simp only [jD,jy,kM] at this;exact this.2
  have d1:=sm (sub s' l) λh=>hsm (Or.inl h);have d2:=sm (sub s' r) λh=>hsm (Or.inr h);have v1:jp (sub s' l).name=false:=by
   cases h:jp (sub s' l).name with
   | false=>rfl
   | true=>exact absurd (Or.inl h) hnv
  have v2:jp (sub s' r).name=false:=by
   cases h:jp (sub s' r).name with
   | false=>rfl
   | true=>exact absurd (Or.inr h) hnv
  have xl:KN (sub s' l):=KN.sub hv el.1;have xr:KN (sub s' r):=KN.sub hv er.1;have arg:∀w:T,KN (sub s' w)->jp (sub s' w).name=false->IdS s'-> ∀u∈(sub s' w).args,sub s' u=u/\J8 u+1<=J8 (sub s' w):=λw xw vw hi u hu=>by
   refine ⟨jgd u (xw.elim (λh=>zj h u hu) λh=>h.2.2 u hu) λx hx=>Qa hi w (by rw [vsf vw,qI];exact ⟨u,hu,hx⟩),?_⟩
   have:=jpk hu;rw [ZZ (sub s' w)];omega
  have p1:=ZZ (sub s' l);have p2:=ZZ (sub s' r);refine Hgt.blk 126 (s'.length+1) (max (J8 (sub s' l)) (J8 (sub s' r)) - 1) _ rest (by omega) (kz _) (by omega) ?_ (λ_ p hp=> ?_) (g5.mono ?_)
  ·rw [yD];have:=Yk xl;omega
  ·have hm:=jkb (a:=p.1) (b:=p.2) hp;have q1:=arg l xl v1 hi p.1 hm.1;have q2:=arg r xr v2 hi p.2 hm.2;exact ⟨q1.1,q2.1,by omega,by omega⟩
  ·by_cases hτ:τ=s'.length+1
   ·obtain ⟨w1,w2,w3,w4⟩:=g4 hτ;have w3:J8 l<=δ:=w3;have w4:J8 r<=δ:=w4;have w1:J8 (sub s' l)=J8 l:=congrArg J8 w1;have w2:J8 (sub s' r)=J8 r:=congrArg J8 w2;omega
   ·omega
theorem jID (a b:T):Hgt [] 126 [(a,b)]:=Hgt.blk 126 0 8 [(a,b)] [] (by omega) (by omega) (by omega) (by simp) (λh=>by simp at h) (Hgt.nil _)
theorem jdU {n:Nat} (h:n<=100000):jA n 80=true:=by
 unfold jA;exact jQ ⟨by omega,by omega⟩
theorem jbC {x y:T} (h:jp x.name=true\/jp y.name=true):jp (jv x y).1=true/\(((jv x y).1=y.name/\(jv x y).2=x)\/((jv x y).1=x.name/\(jv x y).2=y)):=by
 unfold jv;split
 ·rename_i hc;refine ⟨?_,Or.inl ⟨rfl,rfl⟩⟩;rcases hc with hc|hc
  ·rcases h with h|h
   ·rw [hc] at h;cases h
   ·exact h
  ·exact hc.1
 ·rename_i hc;refine ⟨?_,Or.inr ⟨rfl,rfl⟩⟩;rcases Bool.eq_false_or_eq_true (jp x.name) with h2|h2
  ·exact h2
  ·exact absurd (Or.inl h2) hc
theorem jwz {p:List UInt8 × T} (hn:jp p.1=true):(!decide ((0:Int) < (cnt p.1 p.2:Nat)) && jL [p])=(!decide (p.1∈kK p.2) && jL [p]):=by
 cases hv:jL [p] with
 | false=>rw [zr,zr]
 | true=>
  have hk:zS p.2=true:=J2 hv p (by simp);have:=jBI hn p.2 hk;rw [ZC,ZC];congr 1;exact jgo.2 (by rw [this];omega)
theorem jAw {p:List UInt8 × T} (hn:jp p.1=true) (hz:Tz p.2):SzB [p]:=⟨by simp,λq hq=>by
 rw [ku.1 hq];exact ⟨by have:=jfn hn;omega,hz⟩⟩
theorem Ye (x y:T) (hx:KN x) (hy:KN y) (nx:nodes x<=3000) (ny:nodes y<=3000) (h:jp x.name=true\/jp y.name=true):G 164 [.agg [sv x.name,jH x.args,sv y.name,jH y.args]]=some (.tup [sb [jv x y],vb (!decide ((jv x y).1∈kK (jv x y).2) && jL [jv x y])],[]):=by
 have e1:=yP x (hx.imp id λh=>h.1);have e2:=yP y (hy.imp id λh=>h.1);obtain ⟨hv,hor⟩:=jbC h;have hz:Tz (jv x y).2:=by
  rcases hor with h|h
  ·rw [h.2];exact hx.tz (by omega)
  ·rw [h.2];exact hy.tz (by omega)
 have hn:nodes (jv x y).2<=3000:=by
  rcases hor with h|h
  ·rw [h.2];exact nx
  ·rw [h.2];exact ny
 have e3:=KR (jv x y).1 (jv x y).2 hz.wf (by omega);have e4:G 209 [sv (jv x y).1,tm (jv x y).2]=some (vb (decide ((0:Int) < (cnt (jv x y).1 (jv x y).2:Nat))),[]):=by
  rw [jLp];simp only [jd,e3]
 have e5:=jl7 [jv x y] (jAw hv hz);have e5:G 210 [.agg [.sl 3 [[sv (jv x y).1,sv (jv x y).2.name,jH (jv x y).2.args]]]]=some (vb (jL [jv x y]),[]):=e5;rw [<-jwz hv,jKT];generalize hb:jL [jv x y]=vv at *;generalize ho:decide ((0:Int) < (cnt (jv x y).1 (jv x y).2:Nat))=oo at *;have hsb:sb [jv x y] = .agg [.sl 3 [[sv (jv x y).1,sv (jv x y).2.name,jH (jv x y).2.args]]]:=rfl;rw [hsb];have e5:(G 210 [.agg [.sl 3 [[sv (jv x y).1,sv (jv x y).2.name,jH (jv x y).2.args]]]]).bind (fin true)=some (vb vv):=by rw [e5];rfl
 cases hx1:jp x.name<;>rw [hx1] at e1
 ·have hbd:jv x y=(y.name,x):=jg (Or.inl hx1);rw [hbd] at e4 e5 ⊢;have e4:G 209 [sv y.name,tm x]=some (vb oo,[]):=e4;have e5:(G 210 [.agg [.sl 3 [[sv y.name,sv x.name,jH x.args]]]]).bind (fin true)=some (vb vv):=e5;cases oo
  ·simp only [jd,e1,e4,e5,jR]
  ·simp only [jd,e1,e4,jK]
 ·cases hy1:jp y.name<;>rw [hy1] at e2
  ·have hbd:jv x y=(x.name,y):=jf (by rw [hx1,hy1];simp)
   rw [hbd] at e4 e5 ⊢;have e4:G 209 [sv x.name,tm y]=some (vb oo,[]):=e4;have e5:(G 210 [.agg [.sl 3 [[sv x.name,sv y.name,jH y.args]]]]).bind (fin true)=some (vb vv):=e5;cases oo
   ·simp only [jd,e1,e2,e4,e5,jR]
   ·simp only [jd,e1,e2,e4,jK]
  ·have e6:=jf4 false y.name x.name;cases hc:yX x.name y.name<;>rw [hc] at e6
   ·have hbd:jv x y=(x.name,y):=jf (by rw [hx1,hy1,hc];simp)
    rw [hbd] at e4 e5 ⊢;have e4:G 209 [sv x.name,tm y]=some (vb oo,[]):=e4;have e5:(G 210 [.agg [.sl 3 [[sv x.name,sv y.name,jH y.args]]]]).bind (fin true)=some (vb vv):=e5;cases oo
    ·simp only [jd,e1,e2,e6,e4,e5,jR]
    ·simp only [jd,e1,e2,e6,e4,jK]
   ·have hbd:jv x y=(y.name,x):=jg (Or.inr ⟨hy1,hc⟩);rw [hbd] at e4 e5 ⊢;have e4:G 209 [sv y.name,tm x]=some (vb oo,[]):=e4;have e5:(G 210 [.agg [.sl 3 [[sv y.name,sv x.name,jH x.args]]]]).bind (fin true)=some (vb vv):=e5;cases oo
    ·simp only [jd,e1,e2,e6,e4,e5,jR]
    ·simp only [jd,e1,e2,e6,e4,jK]
theorem jcQ (s:jw) (hs:jL s=true) (n:List UInt8) (t:T) (hn:jp n=true) (ht:Tz t) (hk:n∈kK t\/t.name≠n):∃z:jw,G 194 [sb s,sv n,tm t]=some (if !decide (n∈kK t) && (jL [(n,t)] && jL (zO s [(n,t)])) then .tup [sb (zO s [(n,t)]),vb true] else .tup [sb z,vb false],[]):=by
 obtain ⟨r,e1,hr,hl⟩:=jlh t ht.wf (by have:=Jp t;have:=ht;unfold Tz at this;omega)
 have e2:=jnF r n hl;have hc:r.contains n=decide (n∈kK t):=by
  cases h:r.contains n with
  | true=>rw [jcw,hr] at h;exact (jQ h).symm
  | false=>
   refine (kA λh2=> ?_).symm;rw [<-hr,<-jcw,h] at h2;cases h2
 rw [hc] at e2;rw [jLd];by_cases hm:n∈kK t
 ·refine ⟨s,?_⟩;rw [jQ hm] at e2;rw [jQ hm,jgj,jK,jf j7];simp only [jd,e1,e2]
 ·refine ⟨[],?_⟩;have hne:¬t.name=n:=hk.resolve_left hm;rw [kA hm] at e2;rw [kA hm,Bool.not_false,jR];have e3:jr0 (sv n) (sv t.name) (jH t.args) []=some (.top,[.sl 3 [[sv n,sv t.name,jH t.args]]]):=by
   have k1:pB (yM []) (yi [] 0) (some (vi 0))=some 0:=rfl;have k2:pB (yM []) (yi [] 0) none=some 0:=rfl;have k3:pB 0 0 (some (vi 0))=some 0:=rfl;have k4:yW [] 0 (kP 0 0) = []:=rfl;have k5:jW (jW [] [[sv n,sv t.name,jH t.args]]) [] = [[sv n,sv t.name,jH t.args]]:=rfl;have f0:jA 0 56=true:=jvl (by omega);have f1:jA 1 56=true:=jvl (by omega);have f2:(jW [] [[sv n,sv t.name,jH t.args]]).length=1:=rfl;have eo:=Z5 t ht;have h00:¬((0:Int) < ((0:Nat):Int)):=by omega
   rw [jFX];simp only [jd,hne];rw [jzp];simp only [jd,h00,k1,k2,k3,k4,f0,f1,eo];generalize hB:kX _ _ _=B;have hB':B=some (.agg [sv n,sv t.name,jH t.args]):=by rw [<-hB];kernel_rfl
   rw [hB'];simp only [jd,f1,k5,f2,j9]
  have e4:=jpe s [(n,t)] hs (jAw hn ht);have r1:hR 3 (A.top,[.sl 3 [[sv n,sv t.name,jH t.args]]]) 0=some [[sv n,sv t.name,jH t.args]]:=rfl;have e4:G 232 [sb s,.agg [.sl 3 [[sv n,sv t.name,jH t.args]]]]=_:=e4;cases hb:jL [(n,t)] && jL (zO s [(n,t)])
  ·rw [hb,jf j7] at e4;have e4:G 232 [sb s,.agg [.sl 3 [[sv n,sv t.name,jH t.args]]]]=some (.tup [.agg [.sl 3 []],vb false],[]):=e4;rw [jf j7];simp only [jd,e1,e2,e3,r1,e4];rfl
  ·rw [hb,jg rfl] at e4;have e4:G 232 [sb s,.agg [.sl 3 [[sv n,sv t.name,jH t.args]]]]=some (.tup [sb (zO s [(n,t)]),vb true],[]):=e4;rw [jg rfl];simp only [jd,e1,e2,e3,r1,e4]
abbrev ec (p:T × T):List A:=[sv p.1.name,jH p.1.args,sv p.2.name,jH p.2.args]
theorem jce {W:JV} {i:Nat} {p:T × T} (h:W[i]? = some p):qc (W.map ec) i 0 2=some (tm p.1)/\qc (W.map ec) i 2 2=some (tm p.2):=by
 unfold qc;rw [Jv,h];exact ⟨rfl,rfl⟩
theorem KF {W rest:JV} {p:T × T} {off:Nat} (h:W.drop off=p::rest):W[off]? = some p/\W.drop (off+1)=rest/\W.length=off+rest.length+1:=by
 have h1:=congrArg (λl=>l[0]?) h;simp only [QQ,j9,jM] at h1;have h2:=congrArg (List.drop 1) h;rw [jrM] at h2;have h3:=congrArg List.length h;rw [qu,zk] at h3;exact ⟨h1,h2,by omega⟩
theorem jfq {us vs:List T} {i:Nat} (h1:i < us.length) (h2:i < vs.length):jW (((us.zip vs).take i).map ec) [[sv us[i].name,jH us[i].args,sv vs[i].name,jH vs[i].args]]=((us.zip vs).take (i+1)).map ec:=by
 have hl:i < (us.zip vs).length:=by rw [yD];omega
 rw [jho,kO hl,zy,List.getElem_zip];rfl
theorem jco {W:JV} (off:Nat):yW (W.map ec) off (W.length - off)=(W.drop off).map ec:=by
 rw [je3,<-jcA,Zd (by rw [kj,qu];omega)]
theorem KI {s:jw} {l r:T} {rest:JV} (h1:jD (sub s l)=true) (h2:jD (sub s r)=true) (h3:dq (sub s l) (sub s r)=true):yl s l r rest=some (s,rest):=by
 unfold yl;rw [jf (by rw [h1,h2];simp),jg h3]
theorem KG {s:jw} {l r:T} {rest:JV} (h1:jD (sub s l)=true) (h2:jD (sub s r)=true) (h3:dq (sub s l) (sub s r)=false) (h4:jp (sub s l).name=true\/jp (sub s r).name=true):yl s l r rest=if (!decide ((jv (sub s l) (sub s r)).1∈kK (jv (sub s l) (sub s r)).2) && jL [jv (sub s l) (sub s r)]) && jL (zO s [jv (sub s l) (sub s r)]) then some (zO s [jv (sub s l) (sub s r)],rest) else none:=by
 unfold yl;rw [jf (by rw [h1,h2];simp),jf (by rw [h3];simp),jg h4];generalize jv (sub s l) (sub s r)=p;by_cases c1:p.1∈kK p.2
 ·rw [jg (Or.inl c1),jQ c1];rfl
 ·rw [kA c1];cases c2:jL [p]
  ·rw [jg (Or.inr (Or.inl rfl))];rfl
  ·cases c3:jL (zO s [p])
   ·rw [jg (Or.inr (Or.inr rfl))];rfl
   ·rw [jf (by simp [c1])];rfl
theorem KH {s:jw} {l r:T} {rest:JV} (h1:jD (sub s l)=true) (h2:jD (sub s r)=true) (h3:dq (sub s l) (sub s r)=false) (h4:jp (sub s l).name=false) (h5:jp (sub s r).name=false):yl s l r rest=if (sub s l).name=(sub s r).name/\(sub s l).args.length=(sub s r).args.length then some (s,(sub s l).args.zip (sub s r).args++rest) else none:=by
 unfold yl;rw [jf (by rw [h1,h2];simp),jf (by rw [h3];simp),jf (by rw [h4,h5];simp)]
theorem jO {k:Nat} {s:jw} {l r:T} {rest:JV} {res:Option jw} (hst:yl s l r rest=none) (h:zE (k+1) s ((l,r)::rest)=some res):res=none:=by
 rw [zE,hst] at h;exact (jbf h).symm
theorem kT {k:Nat} {s:jw} {l r:T} {rest:JV} {res:Option jw} {q:jw × JV} (hst:yl s l r rest=some q) (h:zE (k+1) s ((l,r)::rest)=some res):zE k q.1 q.2=some res:=by
 rw [zE,hst] at h;exact h
theorem JP {s:jw} {l r:T} {rest:JV} (h:ZK s ((l,r)::rest)):KN l/\KN r/\nodes l<=31/\nodes r<=31:=by
 obtain ⟨h1,h2⟩:=h.2.2 (l,r) (by simp);exact ⟨h1.1,h2.1,h1.2,h2.2⟩
theorem jyY (s:jw) (W:JV) (off:Nat) (hW:W.length<=1000) (x y:T) (hl:x.args.length=y.args.length) (h4:x.args.length<=4) :
  jmr (nA off) (nA (W.length - off)) (jH x.args) (vi (x.args.length:Nat)) (vi 0) (K8 s) (sv y.name) (jH y.args) (W.map ec) [] []=jfA (K8 s) ((x.args.zip y.args++W.drop off).map ec) []:=by
 have h1:yk (nA off)=off:=rfl;have h2:yk (nA (W.length - off))=W.length - off:=rfl;have hend:jA (((x.args.zip y.args).map ec).length+((W.drop off).map ec).length) 80=true:=by
  rw [kj,kj,yD,qu];exact jdU (by omega)
 have hzl:((x.args.zip y.args).map ec).length=x.args.length:=by rw [kj,yD];omega
 have happ:jW ((x.args.zip y.args).map ec) ((W.drop off).map ec)=(x.args.zip y.args++W.drop off).map ec:=by rw [zy];rfl
 have step:∀i,(hi:i < x.args.length)->(hi2:i < y.args.length)->jW (((x.args.zip y.args).take i).map ec) [[sv x.args[i].name,jH x.args[i].args,sv y.args[i].name,jH y.args[i].args]]=((x.args.zip y.args).take (i+1)).map ec:=λi hi hi2=>jfq hi hi2;have key:=upto (P:=λi=>jsi (nA off) (nA (W.length - off)) (jH x.args) (vi (x.args.length:Nat)) (vi (i:Nat)) (K8 s) (sv y.name) (jH y.args) (W.map ec) (((x.args.zip y.args).take i).map ec) []=jfA (K8 s) ((x.args.zip y.args++W.drop off).map ec) []) (n:=x.args.length) ?_ ?_
 ·have hend2:(x.args.zip y.args).take x.args.length=x.args.zip y.args:=Zd (by rw [yD];omega)
  rw [jGy];by_cases h0:0 < x.args.length
  ·have hi:=h0;have hi2:0 < y.args.length:=by omega
   have hlt:(0:Int) < ((x.args.length:Nat):Int):=by omega
   have ix:=ja (k:=2) (f:=jo) hi;have ix2:=ja (k:=2) (f:=jo) hi2;have ta:=step 0 hi hi2;simp only [jal,ql,kU,yd] at ta ix ix2;have hf:jA 1 80=true:=jdU (by omega);have hck:ck (0+1)=some (vi ((1:Nat):Int)):=jE (n:=0+1) (by omega) (by omega);have key:=key 1 (by omega);rw [<-key];simp only [jd,hlt,ix,ix2,je,hf,ta,hck,h1,h2]
  ·have hlt:¬(0:Int) < ((x.args.length:Nat):Int):=by omega
   have he:x.args = []:=jcv (by omega);have hz:x.args.zip y.args = []:=by rw [he];rfl
   rw [hz] at hend happ ⊢;have hend:jA ((W.drop off).map ec).length 80=true:=by simpa using hend
   have happ:jW [] ((W.drop off).map ec)=(W.drop off).map ec:=rfl;simp only [jd,hlt,h1,h2,jco,Ju];rw [kj] at hend;simp only [jd,hend,happ]
 ·have hend2:(x.args.zip y.args).take x.args.length=x.args.zip y.args:=Zd (by rw [yD];omega)
  rw [hend2,jza];have hlt:¬((x.args.length:Nat):Int) < ((x.args.length:Nat):Int):=by omega
  rw [hzl,kj] at hend;simp only [jd,hlt,h1,h2,jco,happ];rw [yD,ja4 (by omega)];simp only [jd,hend]
 ·intro i hi ih;have hi2:i < y.args.length:=by omega
  have hlt:((i:Nat):Int) < ((x.args.length:Nat):Int):=by omega
  have ta:=step i hi hi2;have li:(((x.args.zip y.args).take i).map ec).length=i:=take_len (by rw [yD];omega);have hf:jA (i+1) 80=true:=jdU (by omega);have hck:ck ((i:Int)+1)=some (vi ((i+1:Nat):Int)):=jE (by omega) (by omega);generalize ((x.args.zip y.args).take i).map ec=R at *;rw [jza,<-ih];simp only [jd,hlt,ja hi,ja hi2,je,li,hf,ta,hck,h1,h2]
theorem jyX (W:JV) (off:Nat) (hW:W.length<=1000) (x y:T) (hl:x.args.length=y.args.length) (h4:x.args.length<=4) :
  jmq (nA off) (nA (W.length - off)) (jH x.args) (vi (x.args.length:Nat)) (vi 0) (sv y.name) (jH y.args) (W.map ec) [] [] []=jdw ((x.args.zip y.args++W.drop off).map ec) [] []:=by
 have h1:yk (nA off)=off:=rfl;have h2:yk (nA (W.length - off))=W.length - off:=rfl;have hend:jA (((x.args.zip y.args).map ec).length+((W.drop off).map ec).length) 80=true:=by
  rw [kj,kj,yD,qu];exact jdU (by omega)
 have hzl:((x.args.zip y.args).map ec).length=x.args.length:=by rw [kj,yD];omega
 have happ:jW ((x.args.zip y.args).map ec) ((W.drop off).map ec)=(x.args.zip y.args++W.drop off).map ec:=by rw [zy];rfl
 have step:∀i,(hi:i < x.args.length)->(hi2:i < y.args.length)->jW (((x.args.zip y.args).take i).map ec) [[sv x.args[i].name,jH x.args[i].args,sv y.args[i].name,jH y.args[i].args]]=((x.args.zip y.args).take (i+1)).map ec:=λi hi hi2=>jfq hi hi2;have key:=upto (P:=λi=>jsh (nA off) (nA (W.length - off)) (jH x.args) (vi (x.args.length:Nat)) (vi (i:Nat)) (sv y.name) (jH y.args) (W.map ec) (((x.args.zip y.args).take i).map ec) [] []=jdw ((x.args.zip y.args++W.drop off).map ec) [] []) (n:=x.args.length) ?_ ?_
 ·have hend2:(x.args.zip y.args).take x.args.length=x.args.zip y.args:=Zd (by rw [yD];omega)
  rw [jGx];by_cases h0:0 < x.args.length
  ·have hi:=h0;have hi2:0 < y.args.length:=by omega
   have hlt:(0:Int) < ((x.args.length:Nat):Int):=by omega
   have ix:=ja (k:=2) (f:=jo) hi;have ix2:=ja (k:=2) (f:=jo) hi2;have ta:=step 0 hi hi2;simp only [jal,ql,kU,yd] at ta ix ix2;have hf:jA 1 80=true:=jdU (by omega);have hck:ck (0+1)=some (vi ((1:Nat):Int)):=jE (n:=0+1) (by omega) (by omega);have key:=key 1 (by omega);rw [<-key];simp only [jd,hlt,ix,ix2,je,hf,ta,hck,h1,h2]
  ·have hlt:¬(0:Int) < ((x.args.length:Nat):Int):=by omega
   have he:x.args = []:=jcv (by omega);have hz:x.args.zip y.args = []:=by rw [he];rfl
   rw [hz] at hend happ ⊢;have hend:jA ((W.drop off).map ec).length 80=true:=by simpa using hend
   have happ:jW [] ((W.drop off).map ec)=(W.drop off).map ec:=rfl;simp only [jd,hlt,h1,h2,jco,Ju];rw [kj] at hend;simp only [jd,hend,happ]
 ·have hend2:(x.args.zip y.args).take x.args.length=x.args.zip y.args:=Zd (by rw [yD];omega)
  rw [hend2,jy9];have hlt:¬((x.args.length:Nat):Int) < ((x.args.length:Nat):Int):=by omega
  rw [hzl,kj] at hend;simp only [jd,hlt,h1,h2,jco,happ];rw [yD,ja4 (by omega)];simp only [jd,hend]
 ·intro i hi ih;have hi2:i < y.args.length:=by omega
  have hlt:((i:Nat):Int) < ((x.args.length:Nat):Int):=by omega
  have ta:=step i hi hi2;have li:(((x.args.zip y.args).take i).map ec).length=i:=take_len (by rw [yD];omega);have hf:jA (i+1) 80=true:=jdU (by omega);have hck:ck ((i:Int)+1)=some (vi ((i+1:Nat):Int)):=jE (by omega) (by omega);generalize ((x.args.zip y.args).take i).map ec=R at *;rw [jy9,<-ih];simp only [jd,hlt,ja hi,ja hi2,je,li,hf,ta,hck,h1,h2]
def US (s:jw) (es:JV) (o:Option Out):Prop:=
 (∀(W:JV) (off:Nat),W.drop off=es->off<=W.length->W.length<=1000->YC (nA off) (nA (W.length - off)) (K8 s) (W.map ec) []=o)/\jfA (K8 s) (es.map ec) []=o/\
 (s = []->(∀(W:JV) (off:Nat),W.drop off=es->off<=W.length->W.length<=1000->jhW (nA off) (nA (W.length - off)) (W.map ec) [] []=o)/\jdw (es.map ec) [] []=o)
theorem un2 (k:Nat) (ih:∀(s:jw) (es:JV) (res:Option jw),ZK s es->Hgt s 126 es->zE k s es=some res->US s es (yn res)) (s:jw) (l r:T) (rest:JV) (hi:ZK s ((l,r)::rest)) (hg:Hgt s 126 ((l,r)::rest)) (res:Option jw) (hu:zE (k+1) s ((l,r)::rest)=some res) (W:JV) (off:Nat) (hW:W.drop off=(l,r)::rest) (hlen:W.length<=1000):YC (nA off) (nA (W.length - off)) (K8 s) (W.map ec) []=yn res:=by
 obtain ⟨d1,d2,d3⟩:=KF hW;obtain ⟨r1,r2⟩:=jce d1;obtain ⟨al,ar,nl,nr⟩:=JP hi;have hv:=hi.1;have e1:=yH s hv l al (by omega);have e2:=yH s hv r ar (by omega);have w1:yk (nA off)=off:=rfl;have w2:yk (nA (W.length - off))=W.length - off:=rfl;have g1:ju .gtr false (nA (W.length - off)) (vi 0)=some (vb true):=by
  show some (vb (decide ((0:Int) < ((W.length - off:Nat):Int))))=_;rw [jQ (by omega)]
 have g2:Zf (W.length - off) (vi 0)=some 0:=zz (i:=0) (by omega);have g3:pB (W.length - off) (yi (W.map ec) off) none=some (W.length - off):=by
  rw [show yi (W.map ec) off=W.length - off by rw [Jh,kj]];exact yg (kz _)
 have g4:pB 0 (W.length - off) (some (vi 1))=some 1:=Jq (n:=1) (by omega);have hn:kP (W.length - off) 1=W.length - (off+1):=by unfold kP;omega
 rw [jy8];cases sl:jD (sub s l)<;>rw [sl] at e1
 ·have e1:G 123 [sb s,tm l]=some (.tup [.agg [sv [],.sl 2 []],vb false],[]):=e1;have hr:res=none:=jO (by unfold yl;rw [jg (Or.inl sl)]) hu;subst hr;obtain ⟨q,e2⟩:∃q:T × Bool,G 123 [sb s,tm r]=some (.tup [tm q.1,vb q.2],[]):=by
   cases h:jD (sub s r)<;>rw [h] at e2
   ·exact ⟨(.mk [] [],false),e2⟩
   ·exact ⟨(sub s r,true),e2⟩
  simp only [jd,w1,w2,g1,g2,g3,g4,j9,r1,r2,e1,e2];rfl
 have e1:G 123 [sb s,tm l]=some (.tup [tm (sub s l),vb true],[]):=e1;cases sr:jD (sub s r)<;>rw [sr] at e2
 ·have e2:G 123 [sb s,tm r]=some (.tup [.agg [sv [],.sl 2 []],vb false],[]):=e2;have hr:res=none:=jO (by unfold yl;rw [jg (Or.inr sr)]) hu;subst hr;simp only [jd,w1,w2,g1,g2,g3,g4,j9,r1,r2,e1,e2];rfl
 have e2:G 123 [sb s,tm r]=some (.tup [tm (sub s r),vb true],[]):=e2;have xl:KN (sub s l):=KN.sub hv al;have xr:KN (sub s r):=KN.sub hv ar;have ml:=kV sl;have mr:=kV sr;have tl:=xl.tz (by omega);have tr:=xr.tz (by omega);have e3:=ya (sub s l) tl.wf (sub s r) tr.wf;have ll:=(j6 hv).1;cases hd:dq (sub s l) (sub s r)<;>rw [hd] at e3
 rotate_left
 ·have hst:=KI (rest:=rest) sl sr hd;have hnext:=ih _ _ res (zo hi hst).1 (zL hi hg hst) (kT hst hu);have hnext:=hnext.1 W (off+1) d2 (by omega) hlen;simp only [jd,w1,w2,g1,g2,g3,g4,j9,r1,r2,e1,e2,e3,hn];exact hnext
 have v1:=yP (sub s l) (xl.imp id λh=>h.1);have v2:=yP (sub s r) (xr.imp id λh=>h.1);have bindC:jp (sub s l).name=true\/jp (sub s r).name=true->(∃q:Bool,G 164 [.agg [sv (sub s l).name,jH (sub s l).args,sv (sub s r).name,jH (sub s r).args]]=some (.tup [sb [jv (sub s l) (sub s r)],vb q],[])/\(q=false->yn res=yn none)/\(q=true-> ∃q2:Bool,∃u:jw,G 165 [sb s,sb [jv (sub s l) (sub s r)]]=some (.tup [sb u,vb q2],[])/\(q2=false->yn res=yn none)/\(q2=true->YC (nA (off+1)) (nA (W.length - (off+1))) (K8 u) (W.map ec) []=yn res))):=by
  intro hvar;have hst:=KG (rest:=rest) sl sr hd hvar;refine ⟨_,Ye _ _ xl xr (by omega) (by omega) hvar,λhq=> ?_,λhq=> ?_⟩
  ·rw [hq,jK,jf j7] at hst;rw [jO hst hu]
  ·rw [hq,jR] at hst;have hvp:jL [jv (sub s l) (sub s r)]=true:=by
    rw [jy] at hq;exact hq.2
   have ec1:=Ql s [jv (sub s l) (sub s r)] hv hvp;cases hc:jL (zO s [jv (sub s l) (sub s r)])
   ·rw [hc,jf j7] at hst ec1;exact ⟨false,[],ec1,λ_=>by rw [jO hst hu],λh=>by cases h⟩
   ·rw [hc,jg rfl] at hst ec1;refine ⟨true,_,ec1,(λh=>by cases h),λ_=> ?_⟩;have hnext:=ih _ _ res (zo hi hst).1 (zL hi hg hst) (kT hst hu);exact hnext.1 W (off+1) d2 (by omega) hlen
 have close:jp (sub s l).name=true\/jp (sub s r).name=true->_:=bindC;clear bindC;cases vl:jp (sub s l).name<;>rw [vl] at v1
 rotate_left
 ·obtain ⟨q,b1,b2,b3⟩:=close (Or.inl vl);cases q
  ·rw [b2 rfl];simp only [jd,w1,w2,g1,g2,g3,g4,j9,r1,r2,e1,e2,e3,v1,v2,b1];rfl
  ·obtain ⟨q2,u,b4,b5,b6⟩:=b3 rfl;cases q2
   ·rw [b5 rfl];simp only [jd,w1,w2,g1,g2,g3,g4,j9,r1,r2,e1,e2,e3,v1,v2,b1,b4];rfl
   ·rw [<-b6 rfl];simp only [jd,w1,w2,g1,g2,g3,g4,j9,r1,r2,e1,e2,e3,v1,v2,b1,b4,hn]
 cases vr:jp (sub s r).name<;>rw [vr] at v2
 rotate_left
 ·obtain ⟨q,b1,b2,b3⟩:=close (Or.inr vr);cases q
  ·rw [b2 rfl];simp only [jd,w1,w2,g1,g2,g3,g4,j9,r1,r2,e1,e2,e3,v1,v2,b1];rfl
  ·obtain ⟨q2,u,b4,b5,b6⟩:=b3 rfl;cases q2
   ·rw [b5 rfl];simp only [jd,w1,w2,g1,g2,g3,g4,j9,r1,r2,e1,e2,e3,v1,v2,b1,b4];rfl
   ·rw [<-b6 rfl];simp only [jd,w1,w2,g1,g2,g3,g4,j9,r1,r2,e1,e2,e3,v1,v2,b1,b4,hn]
 have hst:=KH (rest:=rest) sl sr hd vl vr;by_cases hnm:(sub s l).name=(sub s r).name;rotate_left
 ·rw [jf (λh=>hnm h.1)] at hst;have hnd:=kA hnm;rw [jO hst hu];simp only [jd,w1,w2,g1,g2,g3,g4,j9,r1,r2,e1,e2,e3,v1,v2,hnd];rfl
 have hnd:=jQ hnm;by_cases hal:(sub s l).args.length=(sub s r).args.length;rotate_left
 ·rw [jf (λh=>hal h.2)] at hst;have hal':decide ((((sub s l).args.length:Nat):Int)=(((sub s r).args.length:Nat):Int))=false:=kA (by omega);rw [jO hst hu];simp only [jd,w1,w2,g1,g2,g3,g4,j9,r1,r2,e1,e2,e3,v1,v2,hnd,hal'];rfl
 rw [jg ⟨hnm,hal⟩] at hst;have hnext:=ih _ _ res (zo hi hst).1 (zL hi hg hst) (kT hst hu);have hnext:=hnext.2.1;have hin:=jyY s W (off+1) hlen (sub s l) (sub s r) hal (Yk xl);rw [d2] at hin;rw [hnext] at hin;have hal':decide ((((sub s l).args.length:Nat):Int)=(((sub s r).args.length:Nat):Int))=true:=jQ (by omega);simp only [jd,w1,w2,g1,g2,g3,g4,j9,r1,r2,e1,e2,e3,v1,v2,hnd,hal',hn];exact hin
theorem un8 (k:Nat) (ih:∀(s:jw) (es:JV) (res:Option jw),ZK s es->Hgt s 126 es->zE k s es=some res->US s es (yn res)) (s:jw) (l r:T) (rest:JV) (hi:ZK s ((l,r)::rest)) (hg:Hgt s 126 ((l,r)::rest)) (res:Option jw) (hu:zE (k+1) s ((l,r)::rest)=some res) (W:JV) (hW:W=(l,r)::rest) (hlen:W.length<=1000):jfA (K8 s) (W.map ec) []=yn res:=by
 have hW0:W.drop 0=(l,r)::rest:=hW;obtain ⟨d1,d2,d3⟩:=KF hW0;obtain ⟨r1,r2⟩:=jce d1;obtain ⟨al,ar,nl,nr⟩:=JP hi;have hv:=hi.1;have e1:=yH s hv l al (by omega);have e2:=yH s hv r ar (by omega);have g1:ju .gtr false (zU (W.map ec)) (vi 0)=some (vb true):=by
  rw [KZ,kj,jb4,jQ (by omega)]
 have g2:Zf W.length (vi 0)=some 0:=zz (i:=0) (by omega);have g3:pB (yM (W.map ec)) (yi (W.map ec) 0) none=some W.length:=by
  rw [qX,show yi (W.map ec) 0=W.length by rw [Jh,kj];rfl];exact yg (kz _)
 have g4:pB 0 W.length (some (vi 1))=some 1:=Jq (n:=1) (by omega);have g0:(0:Int) < ((W.length:Nat):Int):=by omega
 have hn:kP (W.length) 1=W.length - (0+1):=by unfold kP;omega
 rw [jzb];cases sl:jD (sub s l)<;>rw [sl] at e1
 ·have e1:G 123 [sb s,tm l]=some (.tup [.agg [sv [],.sl 2 []],vb false],[]):=e1;have hr:res=none:=jO (by unfold yl;rw [jg (Or.inl sl)]) hu;subst hr;obtain ⟨q,e2⟩:∃q:T × Bool,G 123 [sb s,tm r]=some (.tup [tm q.1,vb q.2],[]):=by
   cases h:jD (sub s r)<;>rw [h] at e2
   ·exact ⟨(.mk [] [],false),e2⟩
   ·exact ⟨(sub s r,true),e2⟩
  simp only [jd,g0,g2,g3,g4,r1,r2,e1,e2];rfl
 have e1:G 123 [sb s,tm l]=some (.tup [tm (sub s l),vb true],[]):=e1;cases sr:jD (sub s r)<;>rw [sr] at e2
 ·have e2:G 123 [sb s,tm r]=some (.tup [.agg [sv [],.sl 2 []],vb false],[]):=e2;have hr:res=none:=jO (by unfold yl;rw [jg (Or.inr sr)]) hu;subst hr;simp only [jd,g0,g2,g3,g4,r1,r2,e1,e2];rfl
 have e2:G 123 [sb s,tm r]=some (.tup [tm (sub s r),vb true],[]):=e2;have xl:KN (sub s l):=KN.sub hv al;have xr:KN (sub s r):=KN.sub hv ar;have ml:=kV sl;have mr:=kV sr;have tl:=xl.tz (by omega);have tr:=xr.tz (by omega);have e3:=ya (sub s l) tl.wf (sub s r) tr.wf;have ll:=(j6 hv).1;cases hd:dq (sub s l) (sub s r)<;>rw [hd] at e3
 rotate_left
 ·have hst:=KI (rest:=rest) sl sr hd;have hnext:=ih _ _ res (zo hi hst).1 (zL hi hg hst) (kT hst hu);have hnext:=hnext.1 W (0+1) d2 (by omega) hlen;simp only [jd,g0,g2,g3,g4,r1,r2,e1,e2,e3,hn];exact hnext
 have v1:=yP (sub s l) (xl.imp id λh=>h.1);have v2:=yP (sub s r) (xr.imp id λh=>h.1);have bindC:jp (sub s l).name=true\/jp (sub s r).name=true->(∃q:Bool,G 164 [.agg [sv (sub s l).name,jH (sub s l).args,sv (sub s r).name,jH (sub s r).args]]=some (.tup [sb [jv (sub s l) (sub s r)],vb q],[])/\(q=false->yn res=yn none)/\(q=true-> ∃q2:Bool,∃u:jw,G 165 [sb s,sb [jv (sub s l) (sub s r)]]=some (.tup [sb u,vb q2],[])/\(q2=false->yn res=yn none)/\(q2=true->YC (nA (0+1)) (nA (W.length - (0+1))) (K8 u) (W.map ec) []=yn res))):=by
  intro hvar;have hst:=KG (rest:=rest) sl sr hd hvar;refine ⟨_,Ye _ _ xl xr (by omega) (by omega) hvar,λhq=> ?_,λhq=> ?_⟩
  ·rw [hq,jK,jf j7] at hst;rw [jO hst hu]
  ·rw [hq,jR] at hst;have hvp:jL [jv (sub s l) (sub s r)]=true:=by
    rw [jy] at hq;exact hq.2
   have ec1:=Ql s [jv (sub s l) (sub s r)] hv hvp;cases hc:jL (zO s [jv (sub s l) (sub s r)])
   ·rw [hc,jf j7] at hst ec1;exact ⟨false,[],ec1,λ_=>by rw [jO hst hu],λh=>by cases h⟩
   ·rw [hc,jg rfl] at hst ec1;refine ⟨true,_,ec1,(λh=>by cases h),λ_=> ?_⟩;have hnext:=ih _ _ res (zo hi hst).1 (zL hi hg hst) (kT hst hu);exact hnext.1 W (0+1) d2 (by omega) hlen
 have close:jp (sub s l).name=true\/jp (sub s r).name=true->_:=bindC;clear bindC;cases vl:jp (sub s l).name<;>rw [vl] at v1
 rotate_left
 ·obtain ⟨q,b1,b2,b3⟩:=close (Or.inl vl);cases q
  ·rw [b2 rfl];simp only [jd,g0,g2,g3,g4,r1,r2,e1,e2,e3,v1,v2,b1];rfl
  ·obtain ⟨q2,u,b4,b5,b6⟩:=b3 rfl;cases q2
   ·rw [b5 rfl];simp only [jd,g0,g2,g3,g4,r1,r2,e1,e2,e3,v1,v2,b1,b4];rfl
   ·rw [<-b6 rfl];simp only [jd,g0,g2,g3,g4,r1,r2,e1,e2,e3,v1,v2,b1,b4,hn]
 cases vr:jp (sub s r).name<;>rw [vr] at v2
 rotate_left
 ·obtain ⟨q,b1,b2,b3⟩:=close (Or.inr vr);cases q
  ·rw [b2 rfl];simp only [jd,g0,g2,g3,g4,r1,r2,e1,e2,e3,v1,v2,b1];rfl
  ·obtain ⟨q2,u,b4,b5,b6⟩:=b3 rfl;cases q2
   ·rw [b5 rfl];simp only [jd,g0,g2,g3,g4,r1,r2,e1,e2,e3,v1,v2,b1,b4];rfl
   ·rw [<-b6 rfl];simp only [jd,g0,g2,g3,g4,r1,r2,e1,e2,e3,v1,v2,b1,b4,hn]
 have hst:=KH (rest:=rest) sl sr hd vl vr;by_cases hnm:(sub s l).name=(sub s r).name;rotate_left
 ·rw [jf (λh=>hnm h.1)] at hst;have hnd:=kA hnm;rw [jO hst hu];simp only [jd,g0,g2,g3,g4,r1,r2,e1,e2,e3,v1,v2,hnd];rfl
 have hnd:=jQ hnm;by_cases hal:(sub s l).args.length=(sub s r).args.length;rotate_left
 ·rw [jf (λh=>hal h.2)] at hst;have hal':decide ((((sub s l).args.length:Nat):Int)=(((sub s r).args.length:Nat):Int))=false:=kA (by omega);rw [jO hst hu];simp only [jd,g0,g2,g3,g4,r1,r2,e1,e2,e3,v1,v2,hnd,hal'];rfl
 rw [jg ⟨hnm,hal⟩] at hst;have hnext:=ih _ _ res (zo hi hst).1 (zL hi hg hst) (kT hst hu);have hnext:=hnext.2.1;have hin:=jyY s W (0+1) hlen (sub s l) (sub s r) hal (Yk xl);rw [d2] at hin;rw [hnext] at hin;have hal':decide ((((sub s l).args.length:Nat):Int)=(((sub s r).args.length:Nat):Int))=true:=jQ (by omega);simp only [jd,g0,g2,g3,g4,r1,r2,e1,e2,e3,v1,v2,hnd,hal',hn];exact hin
theorem un1 (k:Nat) (ih:∀(s:jw) (es:JV) (res:Option jw),ZK s es->Hgt s 126 es->zE k s es=some res->US s es (yn res)) (l r:T) (rest:JV) (hi:ZK [] ((l,r)::rest)) (hg:Hgt [] 126 ((l,r)::rest)) (res:Option jw) (hu:zE (k+1) [] ((l,r)::rest)=some res) (W:JV) (off:Nat) (hW:W.drop off=(l,r)::rest) (hlen:W.length<=1000):jhW (nA off) (nA (W.length - off)) (W.map ec) [] []=yn res:=by
 obtain ⟨d1,d2,d3⟩:=KF hW;obtain ⟨r1,r2⟩:=jce d1;obtain ⟨al,ar,nl,nr⟩:=JP hi;have hv:=hi.1;have e1:=yH [] hv l al (by omega);have e2:=yH [] hv r ar (by omega);have w1:yk (nA off)=off:=rfl;have w2:yk (nA (W.length - off))=W.length - off:=rfl;have g1:ju .gtr false (nA (W.length - off)) (vi 0)=some (vb true):=by
  show some (vb (decide ((0:Int) < ((W.length - off:Nat):Int))))=_;rw [jQ (by omega)]
 have g2:Zf (W.length - off) (vi 0)=some 0:=zz (i:=0) (by omega);have g3:pB (W.length - off) (yi (W.map ec) off) none=some (W.length - off):=by
  rw [show yi (W.map ec) off=W.length - off by rw [Jh,kj]];exact yg (kz _)
 have g4:pB 0 (W.length - off) (some (vi 1))=some 1:=Jq (n:=1) (by omega);have hn:kP (W.length - off) 1=W.length - (off+1):=by unfold kP;omega
 rw [jy7];cases sl:jD (sub [] l)<;>rw [sl] at e1
 ·have e1:G 123 [.agg [.sl 3 []],tm l]=some (.tup [.agg [sv [],.sl 2 []],vb false],[]):=e1;have hr:res=none:=jO (by unfold yl;rw [jg (Or.inl sl)]) hu;subst hr;obtain ⟨q,e2⟩:∃q:T × Bool,G 123 [.agg [.sl 3 []],tm r]=some (.tup [tm q.1,vb q.2],[]):=by
   cases h:jD (sub [] r)<;>rw [h] at e2
   ·exact ⟨(.mk [] [],false),e2⟩
   ·exact ⟨(sub [] r,true),e2⟩
  simp only [jd,w1,w2,g1,g2,g3,g4,j9,r1,r2,e1,e2];rfl
 have e1:G 123 [.agg [.sl 3 []],tm l]=some (.tup [tm (sub [] l),vb true],[]):=e1;cases sr:jD (sub [] r)<;>rw [sr] at e2
 ·have e2:G 123 [.agg [.sl 3 []],tm r]=some (.tup [.agg [sv [],.sl 2 []],vb false],[]):=e2;have hr:res=none:=jO (by unfold yl;rw [jg (Or.inr sr)]) hu;subst hr;simp only [jd,w1,w2,g1,g2,g3,g4,j9,r1,r2,e1,e2];rfl
 have e2:G 123 [.agg [.sl 3 []],tm r]=some (.tup [tm (sub [] r),vb true],[]):=e2;have xl:KN (sub [] l):=KN.sub hv al;have xr:KN (sub [] r):=KN.sub hv ar;have ml:=kV sl;have mr:=kV sr;have tl:=xl.tz (by omega);have tr:=xr.tz (by omega);have e3:=ya (sub [] l) tl.wf (sub [] r) tr.wf;have ll:=(j6 hv).1;cases hd:dq (sub [] l) (sub [] r)<;>rw [hd] at e3
 rotate_left
 ·have hst:=KI (rest:=rest) sl sr hd;have hnext:=ih _ _ res (zo hi hst).1 (zL hi hg hst) (kT hst hu);have hnext:=(hnext.2.2 rfl).1 W (off+1) d2 (by omega) hlen;simp only [jd,w1,w2,g1,g2,g3,g4,j9,r1,r2,e1,e2,e3,hn];exact hnext
 have v1:=yP (sub [] l) (xl.imp id λh=>h.1);have v2:=yP (sub [] r) (xr.imp id λh=>h.1);have bindC:jp (sub [] l).name=true\/jp (sub [] r).name=true->(∃q:Bool,G 164 [.agg [sv (sub [] l).name,jH (sub [] l).args,sv (sub [] r).name,jH (sub [] r).args]]=some (.tup [sb [jv (sub [] l) (sub [] r)],vb q],[])/\(q=false->yn res=yn none)/\(q=true-> ∃q2:Bool,∃u:jw,G 165 [.agg [.sl 3 []],sb [jv (sub [] l) (sub [] r)]]=some (.tup [sb u,vb q2],[])/\(q2=false->yn res=yn none)/\(q2=true->YC (nA (off+1)) (nA (W.length - (off+1))) (K8 u) (W.map ec) []=yn res))):=by
  intro hvar;have hst:=KG (rest:=rest) sl sr hd hvar;refine ⟨_,Ye _ _ xl xr (by omega) (by omega) hvar,λhq=> ?_,λhq=> ?_⟩
  ·rw [hq,jK,jf j7] at hst;rw [jO hst hu]
  ·rw [hq,jR] at hst;have hvp:jL [jv (sub [] l) (sub [] r)]=true:=by
    rw [jy] at hq;exact hq.2
   have ec1:=Ql [] [jv (sub [] l) (sub [] r)] hv hvp;cases hc:jL (zO [] [jv (sub [] l) (sub [] r)])
   ·rw [hc,jf j7] at hst ec1;exact ⟨false,[],ec1,λ_=>by rw [jO hst hu],λh=>by cases h⟩
   ·rw [hc,jg rfl] at hst ec1;refine ⟨true,_,ec1,(λh=>by cases h),λ_=> ?_⟩;have hnext:=ih _ _ res (zo hi hst).1 (zL hi hg hst) (kT hst hu);exact hnext.1 W (off+1) d2 (by omega) hlen
 have close:jp (sub [] l).name=true\/jp (sub [] r).name=true->_:=bindC;clear bindC;cases vl:jp (sub [] l).name<;>rw [vl] at v1
 rotate_left
 ·obtain ⟨q,b1,b2,b3⟩:=close (Or.inl vl);cases q
  ·rw [b2 rfl];simp only [jd,w1,w2,g1,g2,g3,g4,j9,r1,r2,e1,e2,e3,v1,v2,b1];rfl
  ·obtain ⟨q2,u,b4,b5,b6⟩:=b3 rfl;cases q2
   ·rw [b5 rfl];simp only [jd,w1,w2,g1,g2,g3,g4,j9,r1,r2,e1,e2,e3,v1,v2,b1,b4];rfl
   ·rw [<-b6 rfl];simp only [jd,w1,w2,g1,g2,g3,g4,j9,r1,r2,e1,e2,e3,v1,v2,b1,b4,hn]
 cases vr:jp (sub [] r).name<;>rw [vr] at v2
 rotate_left
 ·obtain ⟨q,b1,b2,b3⟩:=close (Or.inr vr);cases q
  ·rw [b2 rfl];simp only [jd,w1,w2,g1,g2,g3,g4,j9,r1,r2,e1,e2,e3,v1,v2,b1];rfl
  ·obtain ⟨q2,u,b4,b5,b6⟩:=b3 rfl;cases q2
   ·rw [b5 rfl];simp only [jd,w1,w2,g1,g2,g3,g4,j9,r1,r2,e1,e2,e3,v1,v2,b1,b4];rfl
   ·rw [<-b6 rfl];simp only [jd,w1,w2,g1,g2,g3,g4,j9,r1,r2,e1,e2,e3,v1,v2,b1,b4,hn]
 have hst:=KH (rest:=rest) sl sr hd vl vr;by_cases hnm:(sub [] l).name=(sub [] r).name;rotate_left
 ·rw [jf (λh=>hnm h.1)] at hst;have hnd:=kA hnm;rw [jO hst hu];simp only [jd,w1,w2,g1,g2,g3,g4,j9,r1,r2,e1,e2,e3,v1,v2,hnd];rfl
 have hnd:=jQ hnm;by_cases hal:(sub [] l).args.length=(sub [] r).args.length;rotate_left
 ·rw [jf (λh=>hal h.2)] at hst;have hal':decide ((((sub [] l).args.length:Nat):Int)=(((sub [] r).args.length:Nat):Int))=false:=kA (by omega);rw [jO hst hu];simp only [jd,w1,w2,g1,g2,g3,g4,j9,r1,r2,e1,e2,e3,v1,v2,hnd,hal'];rfl
 rw [jg ⟨hnm,hal⟩] at hst;have hnext:=ih _ _ res (zo hi hst).1 (zL hi hg hst) (kT hst hu);have hnext:=(hnext.2.2 rfl).2;have hin:=jyX W (off+1) hlen (sub [] l) (sub [] r) hal (Yk xl);rw [d2] at hin;rw [hnext] at hin;have hal':decide ((((sub [] l).args.length:Nat):Int)=(((sub [] r).args.length:Nat):Int))=true:=jQ (by omega);simp only [jd,w1,w2,g1,g2,g3,g4,j9,r1,r2,e1,e2,e3,v1,v2,hnd,hal',hn];exact hin
theorem un6 (k:Nat) (ih:∀(s:jw) (es:JV) (res:Option jw),ZK s es->Hgt s 126 es->zE k s es=some res->US s es (yn res)) (l r:T) (rest:JV) (hi:ZK [] ((l,r)::rest)) (hg:Hgt [] 126 ((l,r)::rest)) (res:Option jw) (hu:zE (k+1) [] ((l,r)::rest)=some res) (W:JV) (hW:W=(l,r)::rest) (hlen:W.length<=1000):jdw (W.map ec) [] []=yn res:=by
 have hW0:W.drop 0=(l,r)::rest:=hW;obtain ⟨d1,d2,d3⟩:=KF hW0;obtain ⟨r1,r2⟩:=jce d1;obtain ⟨al,ar,nl,nr⟩:=JP hi;have hv:=hi.1;have e1:=yH [] hv l al (by omega);have e2:=yH [] hv r ar (by omega);have g1:ju .gtr false (zU (W.map ec)) (vi 0)=some (vb true):=by
  rw [KZ,kj,jb4,jQ (by omega)]
 have g2:Zf W.length (vi 0)=some 0:=zz (i:=0) (by omega);have g3:pB (yM (W.map ec)) (yi (W.map ec) 0) none=some W.length:=by
  rw [qX,show yi (W.map ec) 0=W.length by rw [Jh,kj];rfl];exact yg (kz _)
 have g4:pB 0 W.length (some (vi 1))=some 1:=Jq (n:=1) (by omega);have g0:(0:Int) < ((W.length:Nat):Int):=by omega
 have hn:kP (W.length) 1=W.length - (0+1):=by unfold kP;omega
 rw [jsR];cases sl:jD (sub [] l)<;>rw [sl] at e1
 ·have e1:G 123 [.agg [.sl 3 []],tm l]=some (.tup [.agg [sv [],.sl 2 []],vb false],[]):=e1;have hr:res=none:=jO (by unfold yl;rw [jg (Or.inl sl)]) hu;subst hr;obtain ⟨q,e2⟩:∃q:T × Bool,G 123 [.agg [.sl 3 []],tm r]=some (.tup [tm q.1,vb q.2],[]):=by
   cases h:jD (sub [] r)<;>rw [h] at e2
   ·exact ⟨(.mk [] [],false),e2⟩
   ·exact ⟨(sub [] r,true),e2⟩
  simp only [jd,g0,g2,g3,g4,r1,r2,e1,e2];rfl
 have e1:G 123 [.agg [.sl 3 []],tm l]=some (.tup [tm (sub [] l),vb true],[]):=e1;cases sr:jD (sub [] r)<;>rw [sr] at e2
 ·have e2:G 123 [.agg [.sl 3 []],tm r]=some (.tup [.agg [sv [],.sl 2 []],vb false],[]):=e2;have hr:res=none:=jO (by unfold yl;rw [jg (Or.inr sr)]) hu;subst hr;simp only [jd,g0,g2,g3,g4,r1,r2,e1,e2];rfl
 have e2:G 123 [.agg [.sl 3 []],tm r]=some (.tup [tm (sub [] r),vb true],[]):=e2;have xl:KN (sub [] l):=KN.sub hv al;have xr:KN (sub [] r):=KN.sub hv ar;have ml:=kV sl;have mr:=kV sr;have tl:=xl.tz (by omega);have tr:=xr.tz (by omega);have e3:=ya (sub [] l) tl.wf (sub [] r) tr.wf;have ll:=(j6 hv).1;cases hd:dq (sub [] l) (sub [] r)<;>rw [hd] at e3
 rotate_left
 ·have hst:=KI (rest:=rest) sl sr hd;have hnext:=ih _ _ res (zo hi hst).1 (zL hi hg hst) (kT hst hu);have hnext:=(hnext.2.2 rfl).1 W (0+1) d2 (by omega) hlen;simp only [jd,g0,g2,g3,g4,r1,r2,e1,e2,e3,hn];exact hnext
 have v1:=yP (sub [] l) (xl.imp id λh=>h.1);have v2:=yP (sub [] r) (xr.imp id λh=>h.1);have bindC:jp (sub [] l).name=true\/jp (sub [] r).name=true->(∃q:Bool,G 164 [.agg [sv (sub [] l).name,jH (sub [] l).args,sv (sub [] r).name,jH (sub [] r).args]]=some (.tup [sb [jv (sub [] l) (sub [] r)],vb q],[])/\(q=false->yn res=yn none)/\(q=true-> ∃q2:Bool,∃u:jw,G 165 [.agg [.sl 3 []],sb [jv (sub [] l) (sub [] r)]]=some (.tup [sb u,vb q2],[])/\(q2=false->yn res=yn none)/\(q2=true->YC (nA (0+1)) (nA (W.length - (0+1))) (K8 u) (W.map ec) []=yn res))):=by
  intro hvar;have hst:=KG (rest:=rest) sl sr hd hvar;refine ⟨_,Ye _ _ xl xr (by omega) (by omega) hvar,λhq=> ?_,λhq=> ?_⟩
  ·rw [hq,jK,jf j7] at hst;rw [jO hst hu]
  ·rw [hq,jR] at hst;have hvp:jL [jv (sub [] l) (sub [] r)]=true:=by
    rw [jy] at hq;exact hq.2
   have ec1:=Ql [] [jv (sub [] l) (sub [] r)] hv hvp;cases hc:jL (zO [] [jv (sub [] l) (sub [] r)])
   ·rw [hc,jf j7] at hst ec1;exact ⟨false,[],ec1,λ_=>by rw [jO hst hu],λh=>by cases h⟩
   ·rw [hc,jg rfl] at hst ec1;refine ⟨true,_,ec1,(λh=>by cases h),λ_=> ?_⟩;have hnext:=ih _ _ res (zo hi hst).1 (zL hi hg hst) (kT hst hu);exact hnext.1 W (0+1) d2 (by omega) hlen
 have close:jp (sub [] l).name=true\/jp (sub [] r).name=true->_:=bindC;clear bindC;cases vl:jp (sub [] l).name<;>rw [vl] at v1
 rotate_left
 ·obtain ⟨q,b1,b2,b3⟩:=close (Or.inl vl);cases q
  ·rw [b2 rfl];simp only [jd,g0,g2,g3,g4,r1,r2,e1,e2,e3,v1,v2,b1];rfl
  ·obtain ⟨q2,u,b4,b5,b6⟩:=b3 rfl;cases q2
   ·rw [b5 rfl];simp only [jd,g0,g2,g3,g4,r1,r2,e1,e2,e3,v1,v2,b1,b4];rfl
   ·rw [<-b6 rfl];simp only [jd,g0,g2,g3,g4,r1,r2,e1,e2,e3,v1,v2,b1,b4,hn]
 cases vr:jp (sub [] r).name<;>rw [vr] at v2
 rotate_left
 ·obtain ⟨q,b1,b2,b3⟩:=close (Or.inr vr);cases q
  ·rw [b2 rfl];simp only [jd,g0,g2,g3,g4,r1,r2,e1,e2,e3,v1,v2,b1];rfl
  ·obtain ⟨q2,u,b4,b5,b6⟩:=b3 rfl;cases q2
   ·rw [b5 rfl];simp only [jd,g0,g2,g3,g4,r1,r2,e1,e2,e3,v1,v2,b1,b4];rfl
   ·rw [<-b6 rfl];simp only [jd,g0,g2,g3,g4,r1,r2,e1,e2,e3,v1,v2,b1,b4,hn]
 have hst:=KH (rest:=rest) sl sr hd vl vr;by_cases hnm:(sub [] l).name=(sub [] r).name;rotate_left
 ·rw [jf (λh=>hnm h.1)] at hst;have hnd:=kA hnm;rw [jO hst hu];simp only [jd,g0,g2,g3,g4,r1,r2,e1,e2,e3,v1,v2,hnd];rfl
 have hnd:=jQ hnm;by_cases hal:(sub [] l).args.length=(sub [] r).args.length;rotate_left
 ·rw [jf (λh=>hal h.2)] at hst;have hal':decide ((((sub [] l).args.length:Nat):Int)=(((sub [] r).args.length:Nat):Int))=false:=kA (by omega);rw [jO hst hu];simp only [jd,g0,g2,g3,g4,r1,r2,e1,e2,e3,v1,v2,hnd,hal'];rfl
 rw [jg ⟨hnm,hal⟩] at hst;have hnext:=ih _ _ res (zo hi hst).1 (zL hi hg hst) (kT hst hu);have hnext:=(hnext.2.2 rfl).2;have hin:=jyX W (0+1) hlen (sub [] l) (sub [] r) hal (Yk xl);rw [d2] at hin;rw [hnext] at hin;have hal':decide ((((sub [] l).args.length:Nat):Int)=(((sub [] r).args.length:Nat):Int))=true:=jQ (by omega);simp only [jd,g0,g2,g3,g4,r1,r2,e1,e2,e3,v1,v2,hnd,hal',hn];exact hin
theorem jFu (s:jw):US s [] (yn (some s)):=by
 refine ⟨λW off hW h1 h2=> ?_,?_,λhs=> ?_⟩
 ·have h3:=congrArg List.length hW;rw [qu,yw] at h3;have w2:yk (nA (W.length - off))=W.length - off:=rfl;have g1:ju .gtr false (nA (W.length - off)) (vi 0)=some (vb false):=by
   show some (vb (decide ((0:Int) < ((W.length - off:Nat):Int))))=_;rw [kA (by omega)]
  rw [jy8];simp only [jd,w2,g1];rfl
 ·rw [jzb];have g1:ju .gtr false (zU (List.map ec [])) (vi 0)=some (vb false):=rfl;simp only [jd,g1];rfl
 ·subst hs;refine ⟨λW off hW h1 h2=> ?_,?_⟩
  ·have h3:=congrArg List.length hW;rw [qu,yw] at h3;have w2:yk (nA (W.length - off))=W.length - off:=rfl;have g1:ju .gtr false (nA (W.length - off)) (vi 0)=some (vb false):=by
    show some (vb (decide ((0:Int) < ((W.length - off:Nat):Int))))=_;rw [kA (by omega)]
   rw [jy7];simp only [jd,w2,g1];rfl
  ·rw [jsR];have g1:ju .gtr false (zU (List.map ec [])) (vi 0)=some (vb false):=rfl;simp only [jd,g1];rfl
theorem jJj:∀(k:Nat) (s:jw) (es:JV) (res:Option jw),ZK s es->Hgt s 126 es->zE k s es=some res->US s es (yn res):=by
 intro k;induction k with
 | zero=>
  intro s es res hi hg hu;cases es with
  | nil=>simp only [zE,zg] at hu;rw [<-hu];exact jFu s
  | cons p es=>simp [zE] at hu
 | succ k ih=>
  intro s es res hi hg hu;cases es with
  | nil=>simp only [zE,zg] at hu;rw [<-hu];exact jFu s
  | cons p rest=>
   obtain ⟨l,r⟩:=p;have hl:=hg.len;refine ⟨λW off hW _ hlen=>un2 k ih s l r rest hi hg res hu W off hW hlen,un8 k ih s l r rest hi hg res hu _ rfl (by omega),λhs=> ?_⟩;subst hs;exact ⟨λW off hW _ hlen=>un1 k ih l r rest hi hg res hu W off hW hlen,un6 k ih l r rest hi hg res hu _ rfl (by omega)⟩
theorem jMp (W:JV):jsg (W.map ec) [] []=jdw (W.map ec) [] []:=by
 rw [jGw,jsR]
theorem jfk (a b:T) (ha:Exx a) (hb:Exx b):G 117 [tm a,tm b]=yn (JQ a b):=by
 obtain ⟨k,hk⟩:=ZV ha hb;have h:=((jJj k [] [(a,b)] _ (jlY ha hb) (jID a b) hk).2.2 rfl).2;rw [<-jMp] at h;rw [jKk];simp only [jd];exact h
theorem juX (s:jw) (W:JV) (off:Nat) (hW:W.length<=1000) (x y:T) (hl:x.args.length=y.args.length) (h4:x.args.length<=4) :
  jmB (nA off) (nA (W.length - off)) (vb true) (vi 0) (K8 s) (sv x.name) (jH x.args) (sv y.name) (jH y.args) (W.map ec) [] [] []=jfD (K8 s) ((x.args.zip y.args++W.drop off).map ec) [] []:=by
 have h1:yk (nA off)=off:=rfl;have h2:yk (nA (W.length - off))=W.length - off:=rfl;have hend:jA (((x.args.zip y.args).map ec).length+((W.drop off).map ec).length) 80=true:=by
  rw [kj,kj,yD,qu];exact jdU (by omega)
 have hzl:((x.args.zip y.args).map ec).length=x.args.length:=by rw [kj,yD];omega
 have happ:jW ((x.args.zip y.args).map ec) ((W.drop off).map ec)=(x.args.zip y.args++W.drop off).map ec:=by rw [zy];rfl
 have step:∀i,(hi:i < x.args.length)->(hi2:i < y.args.length)->jW (((x.args.zip y.args).take i).map ec) [[sv x.args[i].name,jH x.args[i].args,sv y.args[i].name,jH y.args[i].args]]=((x.args.zip y.args).take (i+1)).map ec:=λi hi hi2=>jfq hi hi2;have key:=upto (P:=λi=>jsl (nA off) (nA (W.length - off)) (vb true) (vi (i:Nat)) (K8 s) (sv x.name) (jH x.args) (sv y.name) (jH y.args) (W.map ec) (((x.args.zip y.args).take i).map ec) [] []=jfD (K8 s) ((x.args.zip y.args++W.drop off).map ec) [] []) (n:=x.args.length) ?_ ?_
 ·have hend2:(x.args.zip y.args).take x.args.length=x.args.zip y.args:=Zd (by rw [yD];omega)
  rw [jGB];by_cases h0:0 < x.args.length
  ·have hi:=h0;have hi2:0 < y.args.length:=by omega
   have hlt:(0:Int) < ((x.args.length:Nat):Int):=by omega
   have ix:=ja (k:=2) (f:=jo) hi;have ix2:=ja (k:=2) (f:=jo) hi2;have ta:=step 0 hi hi2;simp only [jal,ql,kU,yd] at ta ix ix2;have hf:jA 1 80=true:=jdU (by omega);have hck:ck (0+1)=some (vi ((1:Nat):Int)):=jE (n:=0+1) (by omega) (by omega);have key:=key 1 (by omega);rw [<-key];simp only [jd,hlt,ix,ix2,je,hf,ta,hck,h1,h2];generalize hB:kX _ _ _=B;have hB':B=some (.agg [sv x.args[0].name,jH x.args[0].args,sv y.args[0].name,jH y.args[0].args]):=by rw [<-hB];kernel_rfl
   rw [hB'];simp only [jd,hf,ta,hck,h1,h2]
  ·have hlt:¬(0:Int) < ((x.args.length:Nat):Int):=by omega
   have he:x.args = []:=jcv (by omega);have hz:x.args.zip y.args = []:=by rw [he];rfl
   rw [hz] at hend happ ⊢;have hend:jA ((W.drop off).map ec).length 80=true:=by simpa using hend
   have happ:jW [] ((W.drop off).map ec)=(W.drop off).map ec:=rfl;simp only [jd,hlt,h1,h2,jco,Ju];rw [kj] at hend;simp only [jd,hend,happ]
 ·have hend2:(x.args.zip y.args).take x.args.length=x.args.zip y.args:=Zd (by rw [yD];omega)
  rw [hend2,jzt];have hlt:¬((x.args.length:Nat):Int) < ((x.args.length:Nat):Int):=by omega
  rw [hzl,kj] at hend;simp only [jd,hlt,h1,h2,jco,happ];rw [yD,ja4 (by omega)];simp only [jd,hend]
 ·intro i hi ih;have hi2:i < y.args.length:=by omega
  have hlt:((i:Nat):Int) < ((x.args.length:Nat):Int):=by omega
  have ta:=step i hi hi2;have li:(((x.args.zip y.args).take i).map ec).length=i:=take_len (by rw [yD];omega);have hf:jA (i+1) 80=true:=jdU (by omega);have hck:ck ((i:Int)+1)=some (vi ((i+1:Nat):Int)):=jE (by omega) (by omega);generalize ((x.args.zip y.args).take i).map ec=R at *;rw [jzt,<-ih];simp only [jd,hlt,ja hi,ja hi2,je];generalize hB:kX _ _ _=B;have hB':B=some (.agg [sv x.args[i].name,jH x.args[i].args,sv y.args[i].name,jH y.args[i].args]):=by rw [<-hB];kernel_rfl
  rw [hB'];simp only [jd,li,hf,ta,hck,h1,h2]
theorem juW (W:JV) (off:Nat) (hW:W.length<=1000) (x y:T) (hl:x.args.length=y.args.length) (h4:x.args.length<=4) :
  jmA (nA off) (nA (W.length - off)) (vb true) (vi 0) (sv x.name) (jH x.args) (sv y.name) (jH y.args) (W.map ec) [] [] [] []=jdx ((x.args.zip y.args++W.drop off).map ec) [] [] []:=by
 have h1:yk (nA off)=off:=rfl;have h2:yk (nA (W.length - off))=W.length - off:=rfl;have hend:jA (((x.args.zip y.args).map ec).length+((W.drop off).map ec).length) 80=true:=by
  rw [kj,kj,yD,qu];exact jdU (by omega)
 have hzl:((x.args.zip y.args).map ec).length=x.args.length:=by rw [kj,yD];omega
 have happ:jW ((x.args.zip y.args).map ec) ((W.drop off).map ec)=(x.args.zip y.args++W.drop off).map ec:=by rw [zy];rfl
 have step:∀i,(hi:i < x.args.length)->(hi2:i < y.args.length)->jW (((x.args.zip y.args).take i).map ec) [[sv x.args[i].name,jH x.args[i].args,sv y.args[i].name,jH y.args[i].args]]=((x.args.zip y.args).take (i+1)).map ec:=λi hi hi2=>jfq hi hi2;have key:=upto (P:=λi=>jsk (nA off) (nA (W.length - off)) (vb true) (vi (i:Nat)) (sv x.name) (jH x.args) (sv y.name) (jH y.args) (W.map ec) (((x.args.zip y.args).take i).map ec) [] [] []=jdx ((x.args.zip y.args++W.drop off).map ec) [] [] []) (n:=x.args.length) ?_ ?_
 ·have hend2:(x.args.zip y.args).take x.args.length=x.args.zip y.args:=Zd (by rw [yD];omega)
  rw [jGA];by_cases h0:0 < x.args.length
  ·have hi:=h0;have hi2:0 < y.args.length:=by omega
   have hlt:(0:Int) < ((x.args.length:Nat):Int):=by omega
   have ix:=ja (k:=2) (f:=jo) hi;have ix2:=ja (k:=2) (f:=jo) hi2;have ta:=step 0 hi hi2;simp only [jal,ql,kU,yd] at ta ix ix2;have hf:jA 1 80=true:=jdU (by omega);have hck:ck (0+1)=some (vi ((1:Nat):Int)):=jE (n:=0+1) (by omega) (by omega);have key:=key 1 (by omega);rw [<-key];simp only [jd,hlt,ix,ix2,je,hf,ta,hck,h1,h2];generalize hB:kX _ _ _=B;have hB':B=some (.agg [sv x.args[0].name,jH x.args[0].args,sv y.args[0].name,jH y.args[0].args]):=by rw [<-hB];kernel_rfl
   rw [hB'];simp only [jd,hf,ta,hck,h1,h2]
  ·have hlt:¬(0:Int) < ((x.args.length:Nat):Int):=by omega
   have he:x.args = []:=jcv (by omega);have hz:x.args.zip y.args = []:=by rw [he];rfl
   rw [hz] at hend happ ⊢;have hend:jA ((W.drop off).map ec).length 80=true:=by simpa using hend
   have happ:jW [] ((W.drop off).map ec)=(W.drop off).map ec:=rfl;simp only [jd,hlt,h1,h2,jco,Ju];rw [kj] at hend;simp only [jd,hend,happ]
 ·have hend2:(x.args.zip y.args).take x.args.length=x.args.zip y.args:=Zd (by rw [yD];omega)
  rw [hend2,jzs];have hlt:¬((x.args.length:Nat):Int) < ((x.args.length:Nat):Int):=by omega
  rw [hzl,kj] at hend;simp only [jd,hlt,h1,h2,jco,happ];rw [yD,ja4 (by omega)];simp only [jd,hend]
 ·intro i hi ih;have hi2:i < y.args.length:=by omega
  have hlt:((i:Nat):Int) < ((x.args.length:Nat):Int):=by omega
  have ta:=step i hi hi2;have li:(((x.args.zip y.args).take i).map ec).length=i:=take_len (by rw [yD];omega);have hf:jA (i+1) 80=true:=jdU (by omega);have hck:ck ((i:Int)+1)=some (vi ((i+1:Nat):Int)):=jE (by omega) (by omega);generalize ((x.args.zip y.args).take i).map ec=R at *;rw [jzs,<-ih];simp only [jd,hlt,ja hi,ja hi2,je];generalize hB:kX _ _ _=B;have hB':B=some (.agg [sv x.args[i].name,jH x.args[i].args,sv y.args[i].name,jH y.args[i].args]):=by rw [<-hB];kernel_rfl
  rw [hB'];simp only [jd,li,hf,ta,hck,h1,h2]
def USS (s:jw) (es:JV) (o:Option Out):Prop:=
 (∀(W:JV) (off:Nat),W.drop off=es->off<=W.length->W.length<=1000->YD (nA off) (nA (W.length - off)) (K8 s) (W.map ec) [] []=o)/\jfD (K8 s) (es.map ec) [] []=o/\
 (s = []->(∀(W:JV) (off:Nat),W.drop off=es->off<=W.length->W.length<=1000->jh1 (nA off) (nA (W.length - off)) (W.map ec) [] [] []=o)/\jdx (es.map ec) [] [] []=o)
theorem jMr (k:Nat) (ih:∀(s:jw) (es:JV) (res:Option jw),ZK s es->Hgt s 126 es->zE k s es=some res->USS s es (yn res)) (s:jw) (l r:T) (rest:JV) (hi:ZK s ((l,r)::rest)) (hg:Hgt s 126 ((l,r)::rest)) (res:Option jw) (hu:zE (k+1) s ((l,r)::rest)=some res) (W:JV) (off:Nat) (hW:W.drop off=(l,r)::rest) (hlen:W.length<=1000):YD (nA off) (nA (W.length - off)) (K8 s) (W.map ec) [] []=yn res:=by
 obtain ⟨d1,d2,d3⟩:=KF hW;obtain ⟨r1,r2⟩:=jce d1;obtain ⟨al,ar,nl,nr⟩:=JP hi;have hv:=hi.1;have e1:=Je s hv l al (by omega);have e2:=Je s hv r ar (by omega);have w1:yk (nA off)=off:=rfl;have w2:yk (nA (W.length - off))=W.length - off:=rfl;have g1:ju .gtr false (nA (W.length - off)) (vi 0)=some (vb true):=by
  show some (vb (decide ((0:Int) < ((W.length - off:Nat):Int))))=_;rw [jQ (by omega)]
 have g2:Zf (W.length - off) (vi 0)=some 0:=zz (i:=0) (by omega);have g3:pB (W.length - off) (yi (W.map ec) off) none=some (W.length - off):=by
  rw [show yi (W.map ec) off=W.length - off by rw [Jh,kj]];exact yg (kz _)
 have g4:pB 0 (W.length - off) (some (vi 1))=some 1:=Jq (n:=1) (by omega);have hn:kP (W.length - off) 1=W.length - (off+1):=by unfold kP;omega
 rw [jzr];cases sl:jD (sub s l)<;>rw [sl] at e1
 ·have e1:G 193 [sb s,tm l]=some (.tup [.agg [sv [],.sl 2 []],vb false],[]):=e1;have hr:res=none:=jO (by unfold yl;rw [jg (Or.inl sl)]) hu;subst hr;obtain ⟨q,e2⟩:∃q:T × Bool,G 193 [sb s,tm r]=some (.tup [tm q.1,vb q.2],[]):=by
   cases h:jD (sub s r)<;>rw [h] at e2
   ·exact ⟨(.mk [] [],false),e2⟩
   ·exact ⟨(sub s r,true),e2⟩
  simp only [jd,w1,w2,g1,g2,g3,g4,j9,r1,r2,e1,e2];rfl
 have e1:G 193 [sb s,tm l]=some (.tup [tm (sub s l),vb true],[]):=e1;cases sr:jD (sub s r)<;>rw [sr] at e2
 ·have e2:G 193 [sb s,tm r]=some (.tup [.agg [sv [],.sl 2 []],vb false],[]):=e2;have hr:res=none:=jO (by unfold yl;rw [jg (Or.inr sr)]) hu;subst hr;simp only [jd,w1,w2,g1,g2,g3,g4,j9,r1,r2,e1,e2];rfl
 have e2:G 193 [sb s,tm r]=some (.tup [tm (sub s r),vb true],[]):=e2;have xl:KN (sub s l):=KN.sub hv al;have xr:KN (sub s r):=KN.sub hv ar;have ml:=kV sl;have mr:=kV sr;have tl:=xl.tz (by omega);have tr:=xr.tz (by omega);have e3:=Jx (sub s l) tl.wf (sub s r) tr.wf;have ll:=(j6 hv).1;cases hd:dq (sub s l) (sub s r)<;>rw [hd] at e3
 rotate_left
 ·have hst:=KI (rest:=rest) sl sr hd;have hnext:=ih _ _ res (zo hi hst).1 (zL hi hg hst) (kT hst hu);have hnext:=hnext.1 W (off+1) d2 (by omega) hlen;simp only [jd,w1,w2,g1,g2,g3,g4,j9,r1,r2,e1,e2,e3,hn];exact hnext
 have v1:=zK (sub s l).name ((kR _).1 tl.wf).1;have v2:=zK (sub s r).name ((kR _).1 tr.wf).1;have bindC:jp (sub s l).name=true\/jp (sub s r).name=true-> ∃q2:Bool,∃u:jw,G 194 [sb s,sv (jv (sub s l) (sub s r)).1,tm (jv (sub s l) (sub s r)).2]=some (.tup [sb u,vb q2],[])/\(q2=false->yn res=yn none)/\(q2=true->YD (nA (off+1)) (nA (W.length - (off+1))) (K8 u) (W.map ec) [] []=yn res):=by
  intro hvar;have hst:=KG (rest:=rest) sl sr hd hvar;obtain ⟨bv,hor⟩:=jbC hvar;have bz:Tz (jv (sub s l) (sub s r)).2:=hor.elim (λh=>by rw [h.2];exact tl) λh=>by rw [h.2];exact tr
  have bk:(jv (sub s l) (sub s r)).1∈kK (jv (sub s l) (sub s r)).2\/(jv (sub s l) (sub s r)).2.name≠(jv (sub s l) (sub s r)).1:=by
   by_cases hnm:(jv (sub s l) (sub s r)).2.name=(jv (sub s l) (sub s r)).1
   ·left;rw [vsv (by rw [hnm];exact bv),hnm];simp
   ·exact Or.inr hnm
  obtain ⟨z,eb⟩:=jcQ s hv _ _ bv bz bk;rw [<-jmg] at eb;cases hc:(!decide ((jv (sub s l) (sub s r)).1∈kK (jv (sub s l) (sub s r)).2) && jL [jv (sub s l) (sub s r)]) && jL (zO s [jv (sub s l) (sub s r)])
  ·rw [hc,jf j7] at hst;have eb:=eb.trans (by rw [show ((jv (sub s l) (sub s r)).1,(jv (sub s l) (sub s r)).2)=jv (sub s l) (sub s r) from rfl,hc,jf j7]);exact ⟨false,z,eb,λ_=>by rw [jO hst hu],λh=>by cases h⟩
  ·rw [hc,jg rfl] at hst;have eb:=eb.trans (by rw [show ((jv (sub s l) (sub s r)).1,(jv (sub s l) (sub s r)).2)=jv (sub s l) (sub s r) from rfl,hc,jg rfl]);refine ⟨true,_,eb,(λh=>by cases h),λ_=> ?_⟩;have hnext:=ih _ _ res (zo hi hst).1 (zL hi hg hst) (kT hst hu);exact hnext.1 W (off+1) d2 (by omega) hlen
 cases vl:jp (sub s l).name<;>rw [vl] at v1
 rotate_left
 ·cases vr:jp (sub s r).name<;>rw [vr] at v2
  ·obtain ⟨q2,u,b1,b2,b3⟩:=bindC (Or.inl vl);have hbd:jv (sub s l) (sub s r)=((sub s l).name,sub s r):=jf (by rw [vl,vr];simp);rw [hbd] at b1;cases q2
   ·rw [b2 rfl];simp only [jd,w1,w2,g1,g2,g3,g4,j9,r1,r2,e1,e2,e3,v1,v2,b1];rfl
   ·rw [<-b3 rfl];simp only [jd,w1,w2,g1,g2,g3,g4,j9,r1,r2,e1,e2,e3,v1,v2,b1,hn]
  ·cases hc:yX (sub s l).name (sub s r).name
   ·obtain ⟨q2,u,b1,b2,b3⟩:=bindC (Or.inl vl);have hbd:jv (sub s l) (sub s r)=((sub s l).name,sub s r):=jf (by rw [vl,vr,hc];simp);rw [hbd] at b1;cases q2
    ·rw [b2 rfl];simp only [jd,w1,w2,g1,g2,g3,g4,j9,r1,r2,e1,e2,e3,v1,v2,hc,b1];rfl
    ·rw [<-b3 rfl];simp only [jd,w1,w2,g1,g2,g3,g4,j9,r1,r2,e1,e2,e3,v1,v2,hc,b1,hn]
   ·obtain ⟨q2,u,b1,b2,b3⟩:=bindC (Or.inl vl);have hbd:jv (sub s l) (sub s r)=((sub s r).name,sub s l):=jg (Or.inr ⟨vr,hc⟩);rw [hbd] at b1;cases q2
    ·rw [b2 rfl];simp only [jd,w1,w2,g1,g2,g3,g4,j9,r1,r2,e1,e2,e3,v1,v2,hc,b1];rfl
    ·rw [<-b3 rfl];simp only [jd,w1,w2,g1,g2,g3,g4,j9,r1,r2,e1,e2,e3,v1,v2,hc,b1,hn]
 cases vr:jp (sub s r).name<;>rw [vr] at v2
 rotate_left
 ·obtain ⟨q2,u,b1,b2,b3⟩:=bindC (Or.inr vr);have hbd:jv (sub s l) (sub s r)=((sub s r).name,sub s l):=jg (Or.inl vl);rw [hbd] at b1;cases q2
  ·rw [b2 rfl];simp only [jd,w1,w2,g1,g2,g3,g4,j9,r1,r2,e1,e2,e3,v1,v2,b1];rfl
  ·rw [<-b3 rfl];simp only [jd,w1,w2,g1,g2,g3,g4,j9,r1,r2,e1,e2,e3,v1,v2,b1,hn]
 have hst:=KH (rest:=rest) sl sr hd vl vr;by_cases hnm:(sub s l).name=(sub s r).name;rotate_left
 ·rw [jf (λh=>hnm h.1)] at hst;have hnd:=kA hnm;rw [jO hst hu];simp only [jd,w1,w2,g1,g2,g3,g4,j9,r1,r2,e1,e2,e3,v1,v2,hnd];rfl
 have hnd:=jQ hnm;by_cases hal:(sub s l).args.length=(sub s r).args.length;rotate_left
 ·rw [jf (λh=>hal h.2)] at hst;have hal':decide ((((sub s l).args.length:Nat):Int)=(((sub s r).args.length:Nat):Int))=false:=kA (by omega);rw [jO hst hu];simp only [jd,w1,w2,g1,g2,g3,g4,j9,r1,r2,e1,e2,e3,v1,v2,hnd,hal'];rfl
 rw [jg ⟨hnm,hal⟩] at hst;have hnext:=ih _ _ res (zo hi hst).1 (zL hi hg hst) (kT hst hu);have hnext:=hnext.2.1;have hin:=juX s W (off+1) hlen (sub s l) (sub s r) hal (Yk xl);rw [d2] at hin;rw [hnext] at hin;have hal':decide ((((sub s l).args.length:Nat):Int)=(((sub s r).args.length:Nat):Int))=true:=jQ (by omega);simp only [jd,w1,w2,g1,g2,g3,g4,j9,r1,r2,e1,e2,e3,v1,v2,hnd,hal',hn];exact hin
theorem jMt (k:Nat) (ih:∀(s:jw) (es:JV) (res:Option jw),ZK s es->Hgt s 126 es->zE k s es=some res->USS s es (yn res)) (s:jw) (l r:T) (rest:JV) (hi:ZK s ((l,r)::rest)) (hg:Hgt s 126 ((l,r)::rest)) (res:Option jw) (hu:zE (k+1) s ((l,r)::rest)=some res) (W:JV) (hW:W=(l,r)::rest) (hlen:W.length<=1000):jfD (K8 s) (W.map ec) [] []=yn res:=by
 have hW0:W.drop 0=(l,r)::rest:=hW;obtain ⟨d1,d2,d3⟩:=KF hW0;obtain ⟨r1,r2⟩:=jce d1;obtain ⟨al,ar,nl,nr⟩:=JP hi;have hv:=hi.1;have e1:=Je s hv l al (by omega);have e2:=Je s hv r ar (by omega);have g1:ju .gtr false (zU (W.map ec)) (vi 0)=some (vb true):=by
  rw [KZ,kj,jb4,jQ (by omega)]
 have g2:Zf W.length (vi 0)=some 0:=zz (i:=0) (by omega);have g3:pB (yM (W.map ec)) (yi (W.map ec) 0) none=some W.length:=by
  rw [qX,show yi (W.map ec) 0=W.length by rw [Jh,kj];rfl];exact yg (kz _)
 have g4:pB 0 W.length (some (vi 1))=some 1:=Jq (n:=1) (by omega);have g0:(0:Int) < ((W.length:Nat):Int):=by omega
 have hn:kP (W.length) 1=W.length - (0+1):=by unfold kP;omega
 rw [jzu];cases sl:jD (sub s l)<;>rw [sl] at e1
 ·have e1:G 193 [sb s,tm l]=some (.tup [.agg [sv [],.sl 2 []],vb false],[]):=e1;have hr:res=none:=jO (by unfold yl;rw [jg (Or.inl sl)]) hu;subst hr;obtain ⟨q,e2⟩:∃q:T × Bool,G 193 [sb s,tm r]=some (.tup [tm q.1,vb q.2],[]):=by
   cases h:jD (sub s r)<;>rw [h] at e2
   ·exact ⟨(.mk [] [],false),e2⟩
   ·exact ⟨(sub s r,true),e2⟩
  simp only [jd,g0,g2,g3,g4,r1,r2,e1,e2];rfl
 have e1:G 193 [sb s,tm l]=some (.tup [tm (sub s l),vb true],[]):=e1;cases sr:jD (sub s r)<;>rw [sr] at e2
 ·have e2:G 193 [sb s,tm r]=some (.tup [.agg [sv [],.sl 2 []],vb false],[]):=e2;have hr:res=none:=jO (by unfold yl;rw [jg (Or.inr sr)]) hu;subst hr;simp only [jd,g0,g2,g3,g4,r1,r2,e1,e2];rfl
 have e2:G 193 [sb s,tm r]=some (.tup [tm (sub s r),vb true],[]):=e2;have xl:KN (sub s l):=KN.sub hv al;have xr:KN (sub s r):=KN.sub hv ar;have ml:=kV sl;have mr:=kV sr;have tl:=xl.tz (by omega);have tr:=xr.tz (by omega);have e3:=Jx (sub s l) tl.wf (sub s r) tr.wf;have ll:=(j6 hv).1;cases hd:dq (sub s l) (sub s r)<;>rw [hd] at e3
 rotate_left
 ·have hst:=KI (rest:=rest) sl sr hd;have hnext:=ih _ _ res (zo hi hst).1 (zL hi hg hst) (kT hst hu);have hnext:=hnext.1 W (0+1) d2 (by omega) hlen;simp only [jd,g0,g2,g3,g4,r1,r2,e1,e2,e3,hn];exact hnext
 have v1:=zK (sub s l).name ((kR _).1 tl.wf).1;have v2:=zK (sub s r).name ((kR _).1 tr.wf).1;have bindC:jp (sub s l).name=true\/jp (sub s r).name=true-> ∃q2:Bool,∃u:jw,G 194 [sb s,sv (jv (sub s l) (sub s r)).1,tm (jv (sub s l) (sub s r)).2]=some (.tup [sb u,vb q2],[])/\(q2=false->yn res=yn none)/\(q2=true->YD (nA (0+1)) (nA (W.length - (0+1))) (K8 u) (W.map ec) [] []=yn res):=by
  intro hvar;have hst:=KG (rest:=rest) sl sr hd hvar;obtain ⟨bv,hor⟩:=jbC hvar;have bz:Tz (jv (sub s l) (sub s r)).2:=hor.elim (λh=>by rw [h.2];exact tl) λh=>by rw [h.2];exact tr
  have bk:(jv (sub s l) (sub s r)).1∈kK (jv (sub s l) (sub s r)).2\/(jv (sub s l) (sub s r)).2.name≠(jv (sub s l) (sub s r)).1:=by
   by_cases hnm:(jv (sub s l) (sub s r)).2.name=(jv (sub s l) (sub s r)).1
   ·left;rw [vsv (by rw [hnm];exact bv),hnm];simp
   ·exact Or.inr hnm
  obtain ⟨z,eb⟩:=jcQ s hv _ _ bv bz bk;rw [<-jmg] at eb;cases hc:(!decide ((jv (sub s l) (sub s r)).1∈kK (jv (sub s l) (sub s r)).2) && jL [jv (sub s l) (sub s r)]) && jL (zO s [jv (sub s l) (sub s r)])
  ·rw [hc,jf j7] at hst;have eb:=eb.trans (by rw [show ((jv (sub s l) (sub s r)).1,(jv (sub s l) (sub s r)).2)=jv (sub s l) (sub s r) from rfl,hc,jf j7]);exact ⟨false,z,eb,λ_=>by rw [jO hst hu],λh=>by cases h⟩
  ·rw [hc,jg rfl] at hst;have eb:=eb.trans (by rw [show ((jv (sub s l) (sub s r)).1,(jv (sub s l) (sub s r)).2)=jv (sub s l) (sub s r) from rfl,hc,jg rfl]);refine ⟨true,_,eb,(λh=>by cases h),λ_=> ?_⟩;have hnext:=ih _ _ res (zo hi hst).1 (zL hi hg hst) (kT hst hu);exact hnext.1 W (0+1) d2 (by omega) hlen
 cases vl:jp (sub s l).name<;>rw [vl] at v1
 rotate_left
 ·cases vr:jp (sub s r).name<;>rw [vr] at v2
  ·obtain ⟨q2,u,b1,b2,b3⟩:=bindC (Or.inl vl);have hbd:jv (sub s l) (sub s r)=((sub s l).name,sub s r):=jf (by rw [vl,vr];simp);rw [hbd] at b1;cases q2
   ·rw [b2 rfl];simp only [jd,g0,g2,g3,g4,r1,r2,e1,e2,e3,v1,v2,b1];rfl
   ·rw [<-b3 rfl];simp only [jd,g0,g2,g3,g4,r1,r2,e1,e2,e3,v1,v2,b1,hn]
  ·cases hc:yX (sub s l).name (sub s r).name
   ·obtain ⟨q2,u,b1,b2,b3⟩:=bindC (Or.inl vl);have hbd:jv (sub s l) (sub s r)=((sub s l).name,sub s r):=jf (by rw [vl,vr,hc];simp);rw [hbd] at b1;cases q2
    ·rw [b2 rfl];simp only [jd,g0,g2,g3,g4,r1,r2,e1,e2,e3,v1,v2,hc,b1];rfl
    ·rw [<-b3 rfl];simp only [jd,g0,g2,g3,g4,r1,r2,e1,e2,e3,v1,v2,hc,b1,hn]
   ·obtain ⟨q2,u,b1,b2,b3⟩:=bindC (Or.inl vl);have hbd:jv (sub s l) (sub s r)=((sub s r).name,sub s l):=jg (Or.inr ⟨vr,hc⟩);rw [hbd] at b1;cases q2
    ·rw [b2 rfl];simp only [jd,g0,g2,g3,g4,r1,r2,e1,e2,e3,v1,v2,hc,b1];rfl
    ·rw [<-b3 rfl];simp only [jd,g0,g2,g3,g4,r1,r2,e1,e2,e3,v1,v2,hc,b1,hn]
 cases vr:jp (sub s r).name<;>rw [vr] at v2
 rotate_left
 ·obtain ⟨q2,u,b1,b2,b3⟩:=bindC (Or.inr vr);have hbd:jv (sub s l) (sub s r)=((sub s r).name,sub s l):=jg (Or.inl vl);rw [hbd] at b1;cases q2
  ·rw [b2 rfl];simp only [jd,g0,g2,g3,g4,r1,r2,e1,e2,e3,v1,v2,b1];rfl
  ·rw [<-b3 rfl];simp only [jd,g0,g2,g3,g4,r1,r2,e1,e2,e3,v1,v2,b1,hn]
 have hst:=KH (rest:=rest) sl sr hd vl vr;by_cases hnm:(sub s l).name=(sub s r).name;rotate_left
 ·rw [jf (λh=>hnm h.1)] at hst;have hnd:=kA hnm;rw [jO hst hu];simp only [jd,g0,g2,g3,g4,r1,r2,e1,e2,e3,v1,v2,hnd];rfl
 have hnd:=jQ hnm;by_cases hal:(sub s l).args.length=(sub s r).args.length;rotate_left
 ·rw [jf (λh=>hal h.2)] at hst;have hal':decide ((((sub s l).args.length:Nat):Int)=(((sub s r).args.length:Nat):Int))=false:=kA (by omega);rw [jO hst hu];simp only [jd,g0,g2,g3,g4,r1,r2,e1,e2,e3,v1,v2,hnd,hal'];rfl
 rw [jg ⟨hnm,hal⟩] at hst;have hnext:=ih _ _ res (zo hi hst).1 (zL hi hg hst) (kT hst hu);have hnext:=hnext.2.1;have hin:=juX s W (0+1) hlen (sub s l) (sub s r) hal (Yk xl);rw [d2] at hin;rw [hnext] at hin;have hal':decide ((((sub s l).args.length:Nat):Int)=(((sub s r).args.length:Nat):Int))=true:=jQ (by omega);simp only [jd,g0,g2,g3,g4,r1,r2,e1,e2,e3,v1,v2,hnd,hal',hn];exact hin
theorem jMq (k:Nat) (ih:∀(s:jw) (es:JV) (res:Option jw),ZK s es->Hgt s 126 es->zE k s es=some res->USS s es (yn res)) (l r:T) (rest:JV) (hi:ZK [] ((l,r)::rest)) (hg:Hgt [] 126 ((l,r)::rest)) (res:Option jw) (hu:zE (k+1) [] ((l,r)::rest)=some res) (W:JV) (off:Nat) (hW:W.drop off=(l,r)::rest) (hlen:W.length<=1000):jh1 (nA off) (nA (W.length - off)) (W.map ec) [] [] []=yn res:=by
 obtain ⟨d1,d2,d3⟩:=KF hW;obtain ⟨r1,r2⟩:=jce d1;obtain ⟨al,ar,nl,nr⟩:=JP hi;have hv:=hi.1;have e1:=Je [] hv l al (by omega);have e2:=Je [] hv r ar (by omega);have w1:yk (nA off)=off:=rfl;have w2:yk (nA (W.length - off))=W.length - off:=rfl;have g1:ju .gtr false (nA (W.length - off)) (vi 0)=some (vb true):=by
  show some (vb (decide ((0:Int) < ((W.length - off:Nat):Int))))=_;rw [jQ (by omega)]
 have g2:Zf (W.length - off) (vi 0)=some 0:=zz (i:=0) (by omega);have g3:pB (W.length - off) (yi (W.map ec) off) none=some (W.length - off):=by
  rw [show yi (W.map ec) off=W.length - off by rw [Jh,kj]];exact yg (kz _)
 have g4:pB 0 (W.length - off) (some (vi 1))=some 1:=Jq (n:=1) (by omega);have hn:kP (W.length - off) 1=W.length - (off+1):=by unfold kP;omega
 rw [jzq];cases sl:jD (sub [] l)<;>rw [sl] at e1
 ·have e1:G 193 [.agg [.sl 3 []],tm l]=some (.tup [.agg [sv [],.sl 2 []],vb false],[]):=e1;have hr:res=none:=jO (by unfold yl;rw [jg (Or.inl sl)]) hu;subst hr;obtain ⟨q,e2⟩:∃q:T × Bool,G 193 [.agg [.sl 3 []],tm r]=some (.tup [tm q.1,vb q.2],[]):=by
   cases h:jD (sub [] r)<;>rw [h] at e2
   ·exact ⟨(.mk [] [],false),e2⟩
   ·exact ⟨(sub [] r,true),e2⟩
  simp only [jd,w1,w2,g1,g2,g3,g4,j9,r1,r2,e1,e2];rfl
 have e1:G 193 [.agg [.sl 3 []],tm l]=some (.tup [tm (sub [] l),vb true],[]):=e1;cases sr:jD (sub [] r)<;>rw [sr] at e2
 ·have e2:G 193 [.agg [.sl 3 []],tm r]=some (.tup [.agg [sv [],.sl 2 []],vb false],[]):=e2;have hr:res=none:=jO (by unfold yl;rw [jg (Or.inr sr)]) hu;subst hr;simp only [jd,w1,w2,g1,g2,g3,g4,j9,r1,r2,e1,e2];rfl
 have e2:G 193 [.agg [.sl 3 []],tm r]=some (.tup [tm (sub [] r),vb true],[]):=e2;have xl:KN (sub [] l):=KN.sub hv al;have xr:KN (sub [] r):=KN.sub hv ar;have ml:=kV sl;have mr:=kV sr;have tl:=xl.tz (by omega);have tr:=xr.tz (by omega);have e3:=Jx (sub [] l) tl.wf (sub [] r) tr.wf;have ll:=(j6 hv).1;cases hd:dq (sub [] l) (sub [] r)<;>rw [hd] at e3
 rotate_left
 ·have hst:=KI (rest:=rest) sl sr hd;have hnext:=ih _ _ res (zo hi hst).1 (zL hi hg hst) (kT hst hu);have hnext:=(hnext.2.2 rfl).1 W (off+1) d2 (by omega) hlen;simp only [jd,w1,w2,g1,g2,g3,g4,j9,r1,r2,e1,e2,e3,hn];exact hnext
 have v1:=zK (sub [] l).name ((kR _).1 tl.wf).1;have v2:=zK (sub [] r).name ((kR _).1 tr.wf).1;have bindC:jp (sub [] l).name=true\/jp (sub [] r).name=true-> ∃q2:Bool,∃u:jw,G 194 [.agg [.sl 3 []],sv (jv (sub [] l) (sub [] r)).1,tm (jv (sub [] l) (sub [] r)).2]=some (.tup [sb u,vb q2],[])/\(q2=false->yn res=yn none)/\(q2=true->YD (nA (off+1)) (nA (W.length - (off+1))) (K8 u) (W.map ec) [] []=yn res):=by
  intro hvar;have hst:=KG (rest:=rest) sl sr hd hvar;obtain ⟨bv,hor⟩:=jbC hvar;have bz:Tz (jv (sub [] l) (sub [] r)).2:=hor.elim (λh=>by rw [h.2];exact tl) λh=>by rw [h.2];exact tr
  have bk:(jv (sub [] l) (sub [] r)).1∈kK (jv (sub [] l) (sub [] r)).2\/(jv (sub [] l) (sub [] r)).2.name≠(jv (sub [] l) (sub [] r)).1:=by
   by_cases hnm:(jv (sub [] l) (sub [] r)).2.name=(jv (sub [] l) (sub [] r)).1
   ·left;rw [vsv (by rw [hnm];exact bv),hnm];simp
   ·exact Or.inr hnm
  obtain ⟨z,eb⟩:=jcQ [] hv _ _ bv bz bk;rw [<-jmg] at eb;cases hc:(!decide ((jv (sub [] l) (sub [] r)).1∈kK (jv (sub [] l) (sub [] r)).2) && jL [jv (sub [] l) (sub [] r)]) && jL (zO [] [jv (sub [] l) (sub [] r)])
  ·rw [hc,jf j7] at hst;have eb:=eb.trans (by rw [show ((jv (sub [] l) (sub [] r)).1,(jv (sub [] l) (sub [] r)).2)=jv (sub [] l) (sub [] r) from rfl,hc,jf j7]);exact ⟨false,z,eb,λ_=>by rw [jO hst hu],λh=>by cases h⟩
  ·rw [hc,jg rfl] at hst;have eb:=eb.trans (by rw [show ((jv (sub [] l) (sub [] r)).1,(jv (sub [] l) (sub [] r)).2)=jv (sub [] l) (sub [] r) from rfl,hc,jg rfl]);refine ⟨true,_,eb,(λh=>by cases h),λ_=> ?_⟩;have hnext:=ih _ _ res (zo hi hst).1 (zL hi hg hst) (kT hst hu);exact hnext.1 W (off+1) d2 (by omega) hlen
 cases vl:jp (sub [] l).name<;>rw [vl] at v1
 rotate_left
 ·cases vr:jp (sub [] r).name<;>rw [vr] at v2
  ·obtain ⟨q2,u,b1,b2,b3⟩:=bindC (Or.inl vl);have hbd:jv (sub [] l) (sub [] r)=((sub [] l).name,sub [] r):=jf (by rw [vl,vr];simp);rw [hbd] at b1;cases q2
   ·rw [b2 rfl];simp only [jd,w1,w2,g1,g2,g3,g4,j9,r1,r2,e1,e2,e3,v1,v2,b1];rfl
   ·rw [<-b3 rfl];simp only [jd,w1,w2,g1,g2,g3,g4,j9,r1,r2,e1,e2,e3,v1,v2,b1,hn]
  ·cases hc:yX (sub [] l).name (sub [] r).name
   ·obtain ⟨q2,u,b1,b2,b3⟩:=bindC (Or.inl vl);have hbd:jv (sub [] l) (sub [] r)=((sub [] l).name,sub [] r):=jf (by rw [vl,vr,hc];simp);rw [hbd] at b1;cases q2
    ·rw [b2 rfl];simp only [jd,w1,w2,g1,g2,g3,g4,j9,r1,r2,e1,e2,e3,v1,v2,hc,b1];rfl
    ·rw [<-b3 rfl];simp only [jd,w1,w2,g1,g2,g3,g4,j9,r1,r2,e1,e2,e3,v1,v2,hc,b1,hn]
   ·obtain ⟨q2,u,b1,b2,b3⟩:=bindC (Or.inl vl);have hbd:jv (sub [] l) (sub [] r)=((sub [] r).name,sub [] l):=jg (Or.inr ⟨vr,hc⟩);rw [hbd] at b1;cases q2
    ·rw [b2 rfl];simp only [jd,w1,w2,g1,g2,g3,g4,j9,r1,r2,e1,e2,e3,v1,v2,hc,b1];rfl
    ·rw [<-b3 rfl];simp only [jd,w1,w2,g1,g2,g3,g4,j9,r1,r2,e1,e2,e3,v1,v2,hc,b1,hn]
 cases vr:jp (sub [] r).name<;>rw [vr] at v2
 rotate_left
 ·obtain ⟨q2,u,b1,b2,b3⟩:=bindC (Or.inr vr);have hbd:jv (sub [] l) (sub [] r)=((sub [] r).name,sub [] l):=jg (Or.inl vl);rw [hbd] at b1;cases q2
  ·rw [b2 rfl];simp only [jd,w1,w2,g1,g2,g3,g4,j9,r1,r2,e1,e2,e3,v1,v2,b1];rfl
  ·rw [<-b3 rfl];simp only [jd,w1,w2,g1,g2,g3,g4,j9,r1,r2,e1,e2,e3,v1,v2,b1,hn]
 have hst:=KH (rest:=rest) sl sr hd vl vr;by_cases hnm:(sub [] l).name=(sub [] r).name;rotate_left
 ·rw [jf (λh=>hnm h.1)] at hst;have hnd:=kA hnm;rw [jO hst hu];simp only [jd,w1,w2,g1,g2,g3,g4,j9,r1,r2,e1,e2,e3,v1,v2,hnd];rfl
 have hnd:=jQ hnm;by_cases hal:(sub [] l).args.length=(sub [] r).args.length;rotate_left
 ·rw [jf (λh=>hal h.2)] at hst;have hal':decide ((((sub [] l).args.length:Nat):Int)=(((sub [] r).args.length:Nat):Int))=false:=kA (by omega);rw [jO hst hu];simp only [jd,w1,w2,g1,g2,g3,g4,j9,r1,r2,e1,e2,e3,v1,v2,hnd,hal'];rfl
 rw [jg ⟨hnm,hal⟩] at hst;have hnext:=ih _ _ res (zo hi hst).1 (zL hi hg hst) (kT hst hu);have hnext:=(hnext.2.2 rfl).2;have hin:=juW W (off+1) hlen (sub [] l) (sub [] r) hal (Yk xl);rw [d2] at hin;rw [hnext] at hin;have hal':decide ((((sub [] l).args.length:Nat):Int)=(((sub [] r).args.length:Nat):Int))=true:=jQ (by omega);simp only [jd,w1,w2,g1,g2,g3,g4,j9,r1,r2,e1,e2,e3,v1,v2,hnd,hal',hn];exact hin
theorem jMs (k:Nat) (ih:∀(s:jw) (es:JV) (res:Option jw),ZK s es->Hgt s 126 es->zE k s es=some res->USS s es (yn res)) (l r:T) (rest:JV) (hi:ZK [] ((l,r)::rest)) (hg:Hgt [] 126 ((l,r)::rest)) (res:Option jw) (hu:zE (k+1) [] ((l,r)::rest)=some res) (W:JV) (hW:W=(l,r)::rest) (hlen:W.length<=1000):jdx (W.map ec) [] [] []=yn res:=by
 have hW0:W.drop 0=(l,r)::rest:=hW;obtain ⟨d1,d2,d3⟩:=KF hW0;obtain ⟨r1,r2⟩:=jce d1;obtain ⟨al,ar,nl,nr⟩:=JP hi;have hv:=hi.1;have e1:=Je [] hv l al (by omega);have e2:=Je [] hv r ar (by omega);have g1:ju .gtr false (zU (W.map ec)) (vi 0)=some (vb true):=by
  rw [KZ,kj,jb4,jQ (by omega)]
 have g2:Zf W.length (vi 0)=some 0:=zz (i:=0) (by omega);have g3:pB (yM (W.map ec)) (yi (W.map ec) 0) none=some W.length:=by
  rw [qX,show yi (W.map ec) 0=W.length by rw [Jh,kj];rfl];exact yg (kz _)
 have g4:pB 0 W.length (some (vi 1))=some 1:=Jq (n:=1) (by omega);have g0:(0:Int) < ((W.length:Nat):Int):=by omega
 have hn:kP (W.length) 1=W.length - (0+1):=by unfold kP;omega
 rw [jsS];cases sl:jD (sub [] l)<;>rw [sl] at e1
 ·have e1:G 193 [.agg [.sl 3 []],tm l]=some (.tup [.agg [sv [],.sl 2 []],vb false],[]):=e1;have hr:res=none:=jO (by unfold yl;rw [jg (Or.inl sl)]) hu;subst hr;obtain ⟨q,e2⟩:∃q:T × Bool,G 193 [.agg [.sl 3 []],tm r]=some (.tup [tm q.1,vb q.2],[]):=by
   cases h:jD (sub [] r)<;>rw [h] at e2
   ·exact ⟨(.mk [] [],false),e2⟩
   ·exact ⟨(sub [] r,true),e2⟩
  simp only [jd,g0,g2,g3,g4,r1,r2,e1,e2];rfl
 have e1:G 193 [.agg [.sl 3 []],tm l]=some (.tup [tm (sub [] l),vb true],[]):=e1;cases sr:jD (sub [] r)<;>rw [sr] at e2
 ·have e2:G 193 [.agg [.sl 3 []],tm r]=some (.tup [.agg [sv [],.sl 2 []],vb false],[]):=e2;have hr:res=none:=jO (by unfold yl;rw [jg (Or.inr sr)]) hu;subst hr;simp only [jd,g0,g2,g3,g4,r1,r2,e1,e2];rfl
 have e2:G 193 [.agg [.sl 3 []],tm r]=some (.tup [tm (sub [] r),vb true],[]):=e2;have xl:KN (sub [] l):=KN.sub hv al;have xr:KN (sub [] r):=KN.sub hv ar;have ml:=kV sl;have mr:=kV sr;have tl:=xl.tz (by omega);have tr:=xr.tz (by omega);have e3:=Jx (sub [] l) tl.wf (sub [] r) tr.wf;have ll:=(j6 hv).1;cases hd:dq (sub [] l) (sub [] r)<;>rw [hd] at e3
 rotate_left
 ·have hst:=KI (rest:=rest) sl sr hd;have hnext:=ih _ _ res (zo hi hst).1 (zL hi hg hst) (kT hst hu);have hnext:=(hnext.2.2 rfl).1 W (0+1) d2 (by omega) hlen;simp only [jd,g0,g2,g3,g4,r1,r2,e1,e2,e3,hn];exact hnext
 have v1:=zK (sub [] l).name ((kR _).1 tl.wf).1;have v2:=zK (sub [] r).name ((kR _).1 tr.wf).1;have bindC:jp (sub [] l).name=true\/jp (sub [] r).name=true-> ∃q2:Bool,∃u:jw,G 194 [.agg [.sl 3 []],sv (jv (sub [] l) (sub [] r)).1,tm (jv (sub [] l) (sub [] r)).2]=some (.tup [sb u,vb q2],[])/\(q2=false->yn res=yn none)/\(q2=true->YD (nA (0+1)) (nA (W.length - (0+1))) (K8 u) (W.map ec) [] []=yn res):=by
  intro hvar;have hst:=KG (rest:=rest) sl sr hd hvar;obtain ⟨bv,hor⟩:=jbC hvar;have bz:Tz (jv (sub [] l) (sub [] r)).2:=hor.elim (λh=>by rw [h.2];exact tl) λh=>by rw [h.2];exact tr
  have bk:(jv (sub [] l) (sub [] r)).1∈kK (jv (sub [] l) (sub [] r)).2\/(jv (sub [] l) (sub [] r)).2.name≠(jv (sub [] l) (sub [] r)).1:=by
   by_cases hnm:(jv (sub [] l) (sub [] r)).2.name=(jv (sub [] l) (sub [] r)).1
   ·left;rw [vsv (by rw [hnm];exact bv),hnm];simp
   ·exact Or.inr hnm
  obtain ⟨z,eb⟩:=jcQ [] hv _ _ bv bz bk;rw [<-jmg] at eb;cases hc:(!decide ((jv (sub [] l) (sub [] r)).1∈kK (jv (sub [] l) (sub [] r)).2) && jL [jv (sub [] l) (sub [] r)]) && jL (zO [] [jv (sub [] l) (sub [] r)])
  ·rw [hc,jf j7] at hst;have eb:=eb.trans (by rw [show ((jv (sub [] l) (sub [] r)).1,(jv (sub [] l) (sub [] r)).2)=jv (sub [] l) (sub [] r) from rfl,hc,jf j7]);exact ⟨false,z,eb,λ_=>by rw [jO hst hu],λh=>by cases h⟩
  ·rw [hc,jg rfl] at hst;have eb:=eb.trans (by rw [show ((jv (sub [] l) (sub [] r)).1,(jv (sub [] l) (sub [] r)).2)=jv (sub [] l) (sub [] r) from rfl,hc,jg rfl]);refine ⟨true,_,eb,(λh=>by cases h),λ_=> ?_⟩;have hnext:=ih _ _ res (zo hi hst).1 (zL hi hg hst) (kT hst hu);exact hnext.1 W (0+1) d2 (by omega) hlen
 cases vl:jp (sub [] l).name<;>rw [vl] at v1
 rotate_left
 ·cases vr:jp (sub [] r).name<;>rw [vr] at v2
  ·obtain ⟨q2,u,b1,b2,b3⟩:=bindC (Or.inl vl);have hbd:jv (sub [] l) (sub [] r)=((sub [] l).name,sub [] r):=jf (by rw [vl,vr];simp);rw [hbd] at b1;cases q2
   ·rw [b2 rfl];simp only [jd,g0,g2,g3,g4,r1,r2,e1,e2,e3,v1,v2,b1];rfl
   ·rw [<-b3 rfl];simp only [jd,g0,g2,g3,g4,r1,r2,e1,e2,e3,v1,v2,b1,hn]
  ·cases hc:yX (sub [] l).name (sub [] r).name
   ·obtain ⟨q2,u,b1,b2,b3⟩:=bindC (Or.inl vl);have hbd:jv (sub [] l) (sub [] r)=((sub [] l).name,sub [] r):=jf (by rw [vl,vr,hc];simp);rw [hbd] at b1;cases q2
    ·rw [b2 rfl];simp only [jd,g0,g2,g3,g4,r1,r2,e1,e2,e3,v1,v2,hc,b1];rfl
    ·rw [<-b3 rfl];simp only [jd,g0,g2,g3,g4,r1,r2,e1,e2,e3,v1,v2,hc,b1,hn]
   ·obtain ⟨q2,u,b1,b2,b3⟩:=bindC (Or.inl vl);have hbd:jv (sub [] l) (sub [] r)=((sub [] r).name,sub [] l):=jg (Or.inr ⟨vr,hc⟩);rw [hbd] at b1;cases q2
    ·rw [b2 rfl];simp only [jd,g0,g2,g3,g4,r1,r2,e1,e2,e3,v1,v2,hc,b1];rfl
    ·rw [<-b3 rfl];simp only [jd,g0,g2,g3,g4,r1,r2,e1,e2,e3,v1,v2,hc,b1,hn]
 cases vr:jp (sub [] r).name<;>rw [vr] at v2
 rotate_left
 ·obtain ⟨q2,u,b1,b2,b3⟩:=bindC (Or.inr vr);have hbd:jv (sub [] l) (sub [] r)=((sub [] r).name,sub [] l):=jg (Or.inl vl);rw [hbd] at b1;cases q2
  ·rw [b2 rfl];simp only [jd,g0,g2,g3,g4,r1,r2,e1,e2,e3,v1,v2,b1];rfl
  ·rw [<-b3 rfl];simp only [jd,g0,g2,g3,g4,r1,r2,e1,e2,e3,v1,v2,b1,hn]
 have hst:=KH (rest:=rest) sl sr hd vl vr;by_cases hnm:(sub [] l).name=(sub [] r).name;rotate_left
 ·rw [jf (λh=>hnm h.1)] at hst;have hnd:=kA hnm;rw [jO hst hu];simp only [jd,g0,g2,g3,g4,r1,r2,e1,e2,e3,v1,v2,hnd];rfl
 have hnd:=jQ hnm;by_cases hal:(sub [] l).args.length=(sub [] r).args.length;rotate_left
 ·rw [jf (λh=>hal h.2)] at hst;have hal':decide ((((sub [] l).args.length:Nat):Int)=(((sub [] r).args.length:Nat):Int))=false:=kA (by omega);rw [jO hst hu];simp only [jd,g0,g2,g3,g4,r1,r2,e1,e2,e3,v1,v2,hnd,hal'];rfl
 rw [jg ⟨hnm,hal⟩] at hst;have hnext:=ih _ _ res (zo hi hst).1 (zL hi hg hst) (kT hst hu);have hnext:=(hnext.2.2 rfl).2;have hin:=juW W (0+1) hlen (sub [] l) (sub [] r) hal (Yk xl);rw [d2] at hin;rw [hnext] at hin;have hal':decide ((((sub [] l).args.length:Nat):Int)=(((sub [] r).args.length:Nat):Int))=true:=jQ (by omega);simp only [jd,g0,g2,g3,g4,r1,r2,e1,e2,e3,v1,v2,hnd,hal',hn];exact hin
theorem jBD (s:jw):USS s [] (yn (some s)):=by
 refine ⟨λW off hW h1 h2=> ?_,?_,λhs=> ?_⟩
 ·have h3:=congrArg List.length hW;rw [qu,yw] at h3;have w2:yk (nA (W.length - off))=W.length - off:=rfl;have g1:ju .gtr false (nA (W.length - off)) (vi 0)=some (vb false):=by
   show some (vb (decide ((0:Int) < ((W.length - off:Nat):Int))))=_;rw [kA (by omega)]
  rw [jzr];simp only [jd,w2,g1];rfl
 ·rw [jzu];have g1:ju .gtr false (zU (List.map ec [])) (vi 0)=some (vb false):=rfl;simp only [jd,g1];rfl
 ·subst hs;refine ⟨λW off hW h1 h2=> ?_,?_⟩
  ·have h3:=congrArg List.length hW;rw [qu,yw] at h3;have w2:yk (nA (W.length - off))=W.length - off:=rfl;have g1:ju .gtr false (nA (W.length - off)) (vi 0)=some (vb false):=by
    show some (vb (decide ((0:Int) < ((W.length - off:Nat):Int))))=_;rw [kA (by omega)]
   rw [jzq];simp only [jd,w2,g1];rfl
  ·rw [jsS];have g1:ju .gtr false (zU (List.map ec [])) (vi 0)=some (vb false):=rfl;simp only [jd,g1];rfl
theorem jHf:∀(k:Nat) (s:jw) (es:JV) (res:Option jw),ZK s es->Hgt s 126 es->zE k s es=some res->USS s es (yn res):=by
 intro k;induction k with
 | zero=>
  intro s es res hi hg hu;cases es with
  | nil=>simp only [zE,zg] at hu;rw [<-hu];exact jBD s
  | cons p es=>simp [zE] at hu
 | succ k ih=>
  intro s es res hi hg hu;cases es with
  | nil=>simp only [zE,zg] at hu;rw [<-hu];exact jBD s
  | cons p rest=>
   obtain ⟨l,r⟩:=p;have hl:=hg.len;refine ⟨λW off hW _ hlen=>jMr k ih s l r rest hi hg res hu W off hW hlen,jMt k ih s l r rest hi hg res hu _ rfl (by omega),λhs=> ?_⟩;subst hs;exact ⟨λW off hW _ hlen=>jMq k ih l r rest hi hg res hu W off hW hlen,jMs k ih l r rest hi hg res hu _ rfl (by omega)⟩
theorem jJk (W:JV):jsj (W.map ec) [] [] []=jdx (W.map ec) [] [] []:=by
 rw [jGz,jsS]
theorem jaI (a b:T) (ha:Exx a) (hb:Exx b):G 144 [tm a,tm b]=yn (JQ a b):=by
 obtain ⟨k,hk⟩:=ZV ha hb;have h:=((jHf k [] [(a,b)] _ (jlY ha hb) (jID a b) hk).2.2 rfl).2;rw [<-jJk] at h;rw [jKF];simp only [jd];exact h
open Go Go.RowKit Go.ChangeShapes Go.Deep Go.Proofs.YtbgikpffkgjecaaGreatDoor.Abs
section
variable {P:Program} {t:Nat} {H:Type} {enc:TypeId × Value->H} {w:World} {base:Nat} {spare:Nat->Bool} {held:Bool} {fuel:Nat} {cs:List Value} {x:DataW H × List MemPlace}
end
abbrev QD (c:kh):List A:=[.sl 3 (c.map jG)]
structure Stp where
 rule:Int
 par:List Int
 whr:List Int
 cls:kh
abbrev stc (s:Stp):List A:=[vi s.rule,ints s.par,ints s.whr,.sl 3 (s.cls.map jG)]
abbrev stm (s:Stp):A:= .agg [vi s.rule,ints s.par,ints s.whr,.sl 3 (s.cls.map jG)]
structure Prf where
 ax:List kh
 st:List Stp
abbrev cls (l:List kh):A:= .sl 1 (l.map QD)
abbrev JE (l:List Stp):A:= .sl 4 (l.map stc)
abbrev prc (p:Prf):List A:=[cls p.ax,JE p.st]
abbrev prm (p:Prf):A:= .agg [cls p.ax,JE p.st]
structure Sch where
 prf:Prf
 act:List Int
 pas:List Int
 lost:Bool
abbrev scc (s:Sch):List A:=[cls s.prf.ax,JE s.prf.st,ints s.act,ints s.pas,vb s.lost]
abbrev scm (s:Sch):A:= .agg [cls s.prf.ax,JE s.prf.st,ints s.act,ints s.pas,vb s.lost]
def iwf (l:List Int):Prop:=(∀x∈l,I64 x)/\l.length<=9223372036854775807
def cwf (c:kh):Prop:=(∀l∈c,Zc l.2)/\c.length<=9223372036854775807
def swf (s:Stp):Prop:=I64 s.rule/\iwf s.par/\iwf s.whr/\cwf s.cls
def pwf (p:Prf):Prop:=((∀c∈p.ax,cwf c)/\p.ax.length<=9223372036854775807)/\((∀s∈p.st,swf s)/\p.st.length<=9223372036854775807)
def jMP (s:Sch):Prop:=pwf s.prf/\iwf s.act/\iwf s.pas
theorem Yz (c:kh):ky 1 (.elt (QD c) 0)=some (cm c):=rfl
theorem Zt (s:Stp):ky 4 (.elt (stc s) 0)=some (stm s):=rfl
def lsz:kh->Nat
 | []=>0
 | l::c=>tsz l.2+lsz c
def csz (c:kh):Nat:=c.length+lsz c
def jCg:List kh->Nat
 | []=>0
 | c::l=>csz c+jCg l
def ssz (s:Stp):Nat:=s.par.length+s.whr.length+csz s.cls
def jEa:List Stp->Nat
 | []=>0
 | s::l=>ssz s+jEa l
def psz (p:Prf):Nat:=(p.ax.length+jCg p.ax)+(p.st.length+jEa p.st)
def jMO (s:Sch):Nat:=psz s.prf+s.act.length+s.pas.length
theorem jvb:∀ {c:kh} {l:Lt},l∈c->tsz l.2<=lsz c
 | x::c,l,h=>by
  simp only [lsz];rcases jZ.1 h with rfl|h
  ·omega
  ·have:=jvb h;omega
theorem jpc:∀ {l:List kh} {c:kh},c∈l->csz c<=jCg l
 | x::c,l,h=>by
  simp only [jCg];rcases jZ.1 h with rfl|h
  ·omega
  ·have:=jpc h;omega
theorem jff:∀ {l:List Stp} {s:Stp},s∈l->ssz s<=jEa l
 | x::c,l,h=>by
  simp only [jEa];rcases jZ.1 h with rfl|h
  ·omega
  ·have:=jff h;omega
end Go.Proofs.YtbgikpffkgjecaaGreatDoor
