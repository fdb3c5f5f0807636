/- Pg -/
import Derived.Test.YtoaifmomhaneiaaGreatDoorPf
namespace Go.Proofs.YtoaifmomhaneiaaGreatDoor
open Go Go.RowKit Go.Proofs.YtoaifmomhaneiaaGreatDoor.Abs
set_option linter.unusedSimpArgs false
set_option linter.unusedVariables false
set_option maxHeartbeats 1000000
theorem has_eq (l:List Int) (v:Int) (hl:l.length<=9223372036854775807):G 87 [ints l,vi v]=some (vb (decide (v∈l)),[]):=by
 have key:=upto (P:=λi=>jul (ints l) (vi v) (vi (i:Nat))=some (vb (decide (v∈l.drop i)),[])) (n:=l.length) ?_ ?_ 0 (jD _)
 .rw [g87];simpa only [jP,kg] using key
 .rw [jC9,j6];simp only [jd];rw [kA (by simp)]
 .intro i hi ih;have hlt:(i:Int) < ((l.length:Nat):Int):=by omega
  have h5:=jm hi hl;have a1:jg 1 (ints l) (vi (i:Nat))=some (.elt (ci l[i]) 0):=ja hi;rw [jC9,jh hi];generalize l[i]=x at a1;by_cases hv:x=v
  .rw [jW (p:=v∈x::l.drop (i+1)) (by rw [hv];exact jba ..)]
   simp only [jd,hlt,a1,yK,hv]
  .have:decide (v∈x::l.drop (i+1))=decide (v∈l.drop (i+1)):=jhi.2 ⟨λh=>(kW.1 h).resolve_left (λe=>hv e.symm),JE _⟩;rw [this];simp only [jd,hlt,a1,yK,hv,h5,ih]
theorem jx1 (n:Nat) (hl:n<=1048576):jxe (vi (n:Nat))=some (.top,[.sl 1 []]):=by
 rw [jFx];have h0:¬((n:Nat):Int) < 0:=by omega
 have hs:ck ((0:Int) - 0)=some (vi 0):=jZ (by decide) (by decide);have hs2:ck (((n:Nat):Int) - 0)=some (vi (n:Nat)):=by rw [Int.sub_zero];exact jZ (by omega) (by omega)
 by_cases hn:n=0
 .subst hn;simp only [jd,hs,hs2,jP]
 .have h1:(0:Int) < ((n:Nat):Int):=by omega
  have hm:=Jg (b:=8) (n:=n) (by omega) hl;have p1:pB 0 0 (some (vi 0))=some 0:=rfl;have p2:pB (z6 (qV n [vi 0])) (zG (qV n [vi 0]) 0) (some (vi 0))=some 0:=Jj (n:=0) (jD _);simp only [jd,hs,hs2,h0,h1,hm,p1,p2,pF8 (show n<=4194304 by omega),qS,Jm,jb2]
theorem jsW (a b:List Int) (hl:a.length+b.length<=1048576):jxd [[ints a],[ints b]]=some (.top,[ints (a++b)]):=by
 have hg:=jx1 (a.length+b.length) hl;have i0:QI 2 (vi 0)=some 0:=rfl;have i1:QI 2 (vi 1)=some 1:=rfl;have r0:Yb [[ints a],[ints b]] 0 0=some (ints a):=rfl;have r1:Yb [[ints a],[ints b]] 1 0=some (ints b):=rfl;have s1:ck ((0:Int)+(a.length:Nat))=some (vi (a.length:Nat)):=by rw [Int.zero_add];exact jZ (by omega) (by omega)
 have s2:ck (((a.length:Nat):Int)+(b.length:Nat))=some (vi ((a.length+b.length:Nat):Int)):=by rw [jdI];exact jZ (by omega) (by omega)
 have n1:¬((a.length:Nat):Int) < 0:=by omega
 have n2:¬((a.length+b.length:Nat):Int) < 0:=by omega
 have t1:ck ((0:Int)+1)=some (vi 1):=jZ (by decide) (by decide);have t2:ck ((1:Int)+1)=some (vi 2):=jZ (by decide) (by decide);have l1:((0:Int) < 2)=True:=by simp
 have l2:((1:Int) < 2)=True:=by simp
 have l3:((2:Nat):Int)=2:=rfl;have e3:jdK (vi 2) (vi 2) (jU (jU [] (a.map ci)) (b.map ci)) [[ints a],[ints b]]=some (.top,[ints (a++b)]):=by
  rw [joH];simp only [jd,jU,qQ];show _=some (A.top,[A.sl 1 ((a++b).map ci)]);rw [zV]
 have e2:jdK (vi 2) (vi 1) (jU [] (a.map ci)) [[ints a],[ints b]]=some (.top,[ints (a++b)]):=by
  have hf:jK ((jU [] (a.map ci)).length+b.length) 8=true:=pF8 (by simp only [jU,qQ,jM];omega)
  rw [joH];simp only [jd,l2,i1,r1,hf,t2,e3]
 have e1:jdK (vi 2) (vi 0) [] [[ints a],[ints b]]=some (.top,[ints (a++b)]):=by
  have hf:jK a.length 8=true:=pF8 (by omega);rw [joH];simp only [jd,l1,i0,r0,hf,t1,e2]
 have d2:jfi (vi ((a.length+b.length:Nat):Int)) (vi 2) (vi 2) [[ints a],[ints b]]=some (.top,[ints (a++b)]):=by
  rw [joG];simp only [jd,hg,l3,e1]
 have d1:jfi (vi (a.length:Nat)) (vi 2) (vi 1) [[ints a],[ints b]]=some (.top,[ints (a++b)]):=by
  rw [joG];simp only [jd,l2,i1,r1,s2,n2,t2,d2]
 rw [jFw,joG];simp only [jd,l3,l1,i0,r0,s1,n1,t1,d1]
abbrev km (x:Int):List A:=[vi x,vb true]
theorem jtq (x:Int):∀(l:List Int) (k:Nat),∃j,Jr (some .i64) (vi x) (l.map km) k=some (if x∈l then some (j,vb true) else none)
 | [],k=>⟨0,by rw [jq (by simp)];rfl⟩
 | y::l,k=>by
  obtain ⟨j,h⟩:=jtq x l (k+1);have e:eqK (some .i64) (vi x) (vi y)=some (decide (x=y)):=by
   show (if IntKind.i64=IntKind.i64 then some (decide (x=y)) else none)=_;exact jp rfl
  by_cases hxy:x=y
  .refine ⟨k,?_⟩;rw [jW hxy] at e;rw [jp (by rw [hxy];exact jba ..),kV,Jr,e]
  .refine ⟨j,?_⟩;rw [kA hxy] at e;rw [kV,Jr,e];show Jr (some .i64) (vi x) (l.map km) (k+1)=_;rw [h];by_cases hm:x∈l
   .rw [jp hm,jp (JE _ hm)]
   .rw [jq hm,jq (λh=>(kW.1 h).elim hxy hm)]
theorem jEL (l:List Int) (x:Int):Kq (some .i64) false true [vb false] (.mp (l.map km)) (vi x)=some (vb (decide (x∈l))):=by
 show ((some (l.map km)).bind λxs=>(Jr (some .i64) (vi x) xs 0).map (jq2 false true [vb false]))=_;obtain ⟨j,h⟩:=jtq x l 0;rw [yz,h];by_cases hm:x∈l
 .rw [jp hm,jW hm];rfl
 .rw [jq hm,kA hm];rfl
theorem jGc {l:List Int} {x:Int} (hm:¬x∈l):jik (some .i64) (l.map km) (vi x) (vb true)=some ((l++[x]).map km):=by
 obtain ⟨j,h⟩:=jtq x l 0;show (Jr (some .i64) (vi x) (l.map km) 0).map _=_;rw [h,jq hm,zV];rfl
def okS (hi:Int):List Int->List Int->Bool
 | _,[]=>true
 | u,x::r=> !decide (x∈u) && (yS 0 hi x && okS hi (u++[x]) r)
theorem joT (hi:Int):∀(l u:List Int),okS hi u l=true↔(∀x∈l,yS 0 hi x=true/\ ¬x∈u)/\l.Nodup
 | [],u=>by simp [okS]
 | x::r,u=>by
  rw [okS,jy,jy,joT hi r (u++[x]),jho,JF,jcg];constructor
  .rintro ⟨h1,h2,h3,h4⟩;refine ⟨λy hy=> ?_,λhx=>(h3 x hx).2 (by simp),h4⟩;rcases kW.1 hy with rfl|hy
   .exact ⟨h2,h1⟩
   .exact ⟨(h3 y hy).1,λh=>(h3 y hy).2 (by simp [h])⟩
  .rintro ⟨h1,h2,h3⟩;refine ⟨(h1 x (jba ..)).2,(h1 x (jba ..)).1,λy hy=>⟨(h1 y (JE _ hy)).1,λh=> ?_⟩,h3⟩;rcases kM.1 h with h|h
   .exact (h1 y (JE _ hy)).2 h
   .rw [kG] at h;rw [h] at hy;exact h2 hy
def srt (l:List Int):Nat->Bool
 | 0=>true
 | i+1=> !decide (l.getD (i+1) 0 < l.getD i 0) && srt l i
theorem jBH (a b:Int):G 89 [vi a,vi b]=some (vb (decide (a < b)),[]):=by
 have n1:∀a,G 121 [vi a]=some (vb false,[]):=λa=>by
  rw [jEl];simp only [jd]
 rw [g89];simp only [jd,n1]
theorem jr7 (l:List Int) (hl:l.length<=1048576):∀i,i < l.length->jui (ints l) (vi (i:Nat))=some (vb (srt l i),[])
 | 0,h=>by
  rw [jzH];simp only [jd,srt,jP]
 | i+1,h=>by
  have ih:=jr7 l hl i (by omega);have h0:(0:Int) < ((i+1:Nat):Int):=by omega
  have a1:jg 1 (ints l) (vi ((i+1:Nat):Int))=some (.elt (ci l[i+1]) 0):=ja h;have a2:jg 1 (ints l) (vi (i:Nat))=some (.elt (ci l[i]) 0):=ja (by omega);have c1:ck (((i+1:Nat):Int) - 1)=some (vi (i:Nat)):=by rw [jZ (by omega) (by omega),show ((i+1:Nat):Int) - 1=(i:Int) by omega]
  have e:=jBH l[i+1] l[i];rw [jzH,srt,show l.getD (i+1) 0=l[i+1] by simp [h],show l.getD i 0=l[i] by simp [show i < l.length by omega]];cases hd:decide (l[i+1] < l[i])<;>rw [hd] at e
  .simp only [jd,h0,a1,a2,yK,c1,e,ih,jli,jJ]
  .simp only [jd,h0,a1,a2,yK,c1,e,jan,jH]
theorem jwJ (l:List Int) (hl:l.length<=1048576):G 62 [ints l]=some (vb (srt l (l.length - 1)),[]):=by
 have c1:ck (((l.length:Nat):Int) - 1)=some (vi (((l.length:Nat):Int) - 1)):=jZ (by omega) (by omega);rw [g62];by_cases h:l.length=0
 .have n0:¬(0:Int) < ((l.length:Nat):Int) - 1:=by omega
  have e0:srt l (l.length - 1)=true:=by rw [h];rfl
  rw [e0];simp only [jd,c1];rw [jzH];simp only [jd,n0]
 .have e:=jr7 l hl (l.length - 1) (by omega);rw [show ((l.length - 1:Nat):Int)=((l.length:Nat):Int) - 1 by omega] at e;simp only [jd,c1,e]
theorem jAA (l:List Int):∀i,srt l i=true↔ ∀j,j < i->l.getD j 0<=l.getD (j+1) 0
 | 0=>by simp [srt]
 | i+1=>by
  rw [srt,jy,jAA l i,JF,jcg];constructor
  .rintro ⟨h1,h2⟩ j hj;by_cases e:j=i
   .subst e;omega
   .exact h2 j (by omega)
  .intro h;exact ⟨by have:=h i (by omega);omega,λj hj=>h j (by omega)⟩
theorem jCn (l:List Int):srt l (l.length - 1)=true↔l.Pairwise (· <= ·):=by
 rw [jAA,jhq];constructor
 .intro h i j hi hj hij;have key:∀d,(hd:i+d < l.length)->l[i]<=l[i+d]:=λd=>by
   induction d with
   | zero=>intro _;exact Int.le_refl _
   | succ d ih=>
    intro hd;have h1:=ih (by omega);have h2:=h (i+d) (by omega);rw [show l.getD (i+d) 0=l[i+d] by simp [show i+d < l.length by omega],show l.getD (i+d+1) 0=l[i+d+1] by simp [show i+d+1 < l.length by omega]] at h2;exact jgf h1 h2
  have:=key (j - i) (by omega);simpa only [show i+(j - i)=j by omega] using this
 .intro h j hj;have:=h j (j+1) (by omega) (by omega) (by omega);rw [show l.getD j 0=l[j] by simp [show j < l.length by omega],show l.getD (j+1) 0=l[j+1] by simp [show j+1 < l.length by omega]];exact this
def gtO:Option Int->Int->Bool
 | some y,x=>decide (y < x)
 | none,_=>true
def ris (hi:Int):Option Int->List Int->Bool
 | _,[]=>true
 | p,x::r=>yS 0 hi x && (gtO p x && ris hi (some x) r)
theorem ju8 (hi:Int):∀(l:List Int) (p:Option Int),ris hi p l=true↔(∀x∈l,yS 0 hi x=true)/\l.Pairwise (· < ·)/\ ∀y,p=some y-> ∀x∈l,y < x
 | [],p=>by simp [ris]
 | x::r,p=>by
  have hm:gtO p x=true↔ ∀y,p=some y->y < x:=by
   cases p with
   | none=>simp [gtO]
   | some y=>simp [gtO]
  rw [ris,jy,jy,ju8 hi r (some x),hm,qi];constructor
  .rintro ⟨h1,h2,h3,h4,h5⟩;refine ⟨λy hy=> ?_,⟨λy hy=>h5 x rfl y hy,h4⟩,λy hy z hz=> ?_⟩
   .rcases kW.1 hy with rfl|hy
    .exact h1
    .exact h3 y hy
   .rcases kW.1 hz with rfl|hz
    .exact h2 y hy
    .exact Int.lt_trans (h2 y hy) (h5 x rfl z hz)
  .rintro ⟨h1,⟨h2,h3⟩,h4⟩;refine ⟨h1 x (jba ..),λy hy=>h4 y hy x (jba ..),λy hy=>h1 y (JE _ hy),h3,λy hy z hz=> ?_⟩;cases hy;exact h2 z hz
theorem jww (l:List Int) (hi:Int) (hl:l.length<=1048576):G 86 [ints l,vi 0,vi hi]=some (vb (ris hi none l),[]):=by
 have key:=upto (P:=λi=>∀p:Option Int,(p=none↔i=0)->(∀m,p=some m-> ∃h:i - 1 < l.length,l[i - 1]=m)->juk (ints l) (vi 0) (vi hi) (vi (i:Nat))=some (vb (ris hi p (l.drop i)),[])) (n:=l.length) ?_ ?_ 0 (jD _) none (by simp) (λm h=>by cases h)
 .rw [g86];simpa only [jP,kg] using key
 .intro p _ _;rw [jC8,j6];simp only [jd,ris]
 .intro i hi' ih p hp hq;have hlt:(i:Int) < ((l.length:Nat):Int):=by omega
  have h5:=jm hi' (by show l.length<=9223372036854775807;omega)
  have a1:jg 1 (ints l) (vi (i:Nat))=some (.elt (ci l[i]) 0):=ja hi';have e1:=zN l[i] 0 hi;have ih:=ih (some l[i]) (by simp) (λm h=>by cases h;exact ⟨by omega,by simp⟩);rw [jC8,jh hi',ris];generalize l[i]=x at a1 e1 ih;cases hn:yS 0 hi x<;>rw [hn] at e1
  .simp only [jd,hlt,a1,yK,e1,jH]
  cases p with
  | none=>
   have h0:¬(0:Int) < (i:Int):=by have:=hp.1 rfl;omega
   simp only [jd,hlt,a1,yK,e1,h0,h5,ih,gtO,jJ]
  | some y=>
   have h0:(0:Int) < (i:Int):=by
    have:i≠0:=λe=>by have:=hp.2 e;cases this
    omega
   obtain ⟨hq1,hq2⟩:=hq y rfl;have c1:ck ((i:Int) - 1)=some (vi ((i - 1:Nat):Int)):=by rw [jZ (by omega) (by omega),show (i:Int) - 1=((i - 1:Nat):Int) by omega]
   have a2:jg 1 (ints l) (vi ((i - 1:Nat):Int))=some (.elt (ci l[i - 1]) 0):=ja hq1;rw [hq2] at a2;by_cases hy:x<=y
   .have hy2:¬y < x:=by omega
    simp only [jd,hlt,a1,yK,e1,h0,c1,a2,hy,hy2,gtO,jJ,jH]
   .have hy2:y < x:=by omega
    simp only [jd,hlt,a1,yK,e1,h0,c1,a2,hy,hy2,h5,ih,gtO,jJ]
def joc (hi:Int) (q:List Int):List Int->List Int->Bool
 | _,[]=>true
 | u,x::r=>yS 0 hi x && (!decide (x∈q) && (!decide (x∈u) && joc hi q (u++[x]) r))
theorem jpL (hi:Int) (q:List Int):∀(l u:List Int),joc hi q u l=true↔(∀x∈l,yS 0 hi x=true/\ ¬x∈q/\ ¬x∈u)/\l.Nodup
 | [],u=>by simp [joc]
 | x::r,u=>by
  rw [joc,jy,jy,jy,jpL hi q r (u++[x]),jho,JF,jcg,JF,jcg];constructor
  .rintro ⟨h1,h2,h3,h4,h5⟩;refine ⟨λy hy=> ?_,λhx=>(h4 x hx).2.2 (by simp),h5⟩;rcases kW.1 hy with rfl|hy
   .exact ⟨h1,h2,h3⟩
   .exact ⟨(h4 y hy).1,(h4 y hy).2.1,λh=>(h4 y hy).2.2 (by simp [h])⟩
  .rintro ⟨h1,h2,h3⟩;have hx:=h1 x (jba ..);refine ⟨hx.1,hx.2.1,hx.2.2,λy hy=>⟨(h1 y (JE _ hy)).1,(h1 y (JE _ hy)).2.1,λh=> ?_⟩,h3⟩;rcases kM.1 h with h|h
   .exact (h1 y (JE _ hy)).2.2 h
   .rw [kG] at h;rw [h] at hy;exact h2 hy
theorem jtO (hi:Int) (a q:List Int):(okS hi [] (a++q) && srt q (q.length - 1))=(ris hi none q && joc hi q [] a):=by
 rw [jss,jy,jy,joT,jCn,ju8,jpL,jk8];constructor
 .rintro ⟨⟨h1,h2,h3,h4⟩,h5⟩;refine ⟨⟨λx hx=>(h1 x (jgh _ hx)).1,?_,λy h=>by cases h⟩,λx hx=>⟨(h1 x (jb7 _ hx)).1,λhq=>h4 x hx x hq rfl,by simp⟩,h2⟩;have:=h5.and h3;exact this.imp λ⟨g1,g2⟩=>by omega
 .rintro ⟨⟨h1,h2,_⟩,h3,h4⟩;refine ⟨⟨λx hx=>⟨?_,by simp⟩,h4,?_,λx hx y hy e=>(h3 x hx).2.1 (by rw [e];exact hy)⟩,?_⟩
  .rcases kM.1 hx with hx|hx
   .exact (h3 x hx).1
   .exact h1 x hx
  .exact h2.imp λg=>by omega
  .exact h2.imp λg=>by omega
structure Zs (s:Sch):Prop where
 prf:Pz s.prf
 len:s.act.length+s.pas.length<=1048576
noncomputable def jcc (s:Sch):Bool:=decide (s.prf.st.length<=40) && (KR s.prf && (okS (((s.prf.st.length:Nat):Int) - 1) [] (s.act++s.pas) && srt s.pas (s.pas.length - 1)))
theorem jkW {s:Sch} (hs:Zs s):G 28 [scm s]=some (vb (jcc s),[]):=by
 have hst:=hs.prf.st;have ha:=hs.len;have v1:=(YF hs.prf).1;have cat:=jsW s.act s.pas (by omega);have so:=jwJ s.pas (by omega);unfold jcc;generalize srt s.pas (s.pas.length - 1)=B at so;have key:jpy (vi ((s.act++s.pas).length:Nat)) (vi 0) (cls s.prf.ax) (yr s.prf.st) (ints s.act) (ints s.pas) (vb s.lost) [] ((s.act++s.pas).map ci)=some (vb (okS (((s.prf.st.length:Nat):Int) - 1) [] (s.act++s.pas) && B),[]):=by
  have hl:(s.act++s.pas).length<=1048576:=by rw [ym];omega
  generalize s.act++s.pas=l at hl;have key:=upto (P:=λi=>jpy (vi (l.length:Nat)) (vi (i:Nat)) (cls s.prf.ax) (yr s.prf.st) (ints s.act) (ints s.pas) (vb s.lost) ((l.take i).map km) (l.map ci)=some (vb (okS (((s.prf.st.length:Nat):Int) - 1) (l.take i) (l.drop i) && B),[])) (n:=l.length) ?_ ?_ 0 (jD _)
  .simpa only [jP,kg,Jm,ye] using key
  .rw [jCS,j6,okS,jJ];simp only [jd,so]
  .intro i hi ih;have hlt:(i:Int) < ((l.length:Nat):Int):=by omega
   have h5:=jm hi (by show l.length<=9223372036854775807;omega)
   have c1:ck (((s.prf.st.length:Nat):Int) - 1)=some (vi (((s.prf.st.length:Nat):Int) - 1)):=jZ (by omega) (by omega);have i1:QI l.length (vi (i:Nat))=some i:=yp hi;have r1:Yb (l.map ci) i 0=some (vi l[i]):=by unfold Yb;rw [qu,kh hi];rfl
   have e1:=yw l[i] 0 (((s.prf.st.length:Nat):Int) - 1);have lk:=jEL (l.take i) l[i];have pt:=jGc (l:=l.take i) (x:=l[i]);rw [<-List.take_append_getElem hi] at ih;rw [jCS,jh hi,okS];generalize l[i]=x at r1 e1 lk pt ih;by_cases hm:x∈l.take i
   .rw [jW hm] at lk;rw [jW hm,jan,jH,jH];simp only [jd,hlt,i1,r1,lk]
   .rw [kA hm] at lk;have pt:=pt hm;rw [kA hm,jli,jJ];cases hb:yS 0 (((s.prf.st.length:Nat):Int) - 1) x<;>rw [hb] at e1
    .rw [jH,jH];simp only [jd,hlt,i1,r1,lk,c1,e1]
    .rw [jJ];simp only [jd,hlt,i1,r1,lk,c1,e1,pt,h5,ih]
 rw [g28];by_cases h40:((s.prf.st.length:Nat):Int) > 40
 .rw [kA (p:=s.prf.st.length<=40) (by omega),jH];simp only [jd,h40,jCK]
 .rw [jW (p:=s.prf.st.length<=40) (by omega),jJ];cases hv:KR s.prf<;>rw [hv] at v1
  .rw [jH];simp only [jd,h40,v1,jCK]
  .rw [jJ];simp only [jd,h40,v1,cat,key,jCK]
theorem jkX {s:Sch} (hs:Zs s):G 59 [scm s]=some (vb (jcc s),[]):=by
 have hst:=hs.prf.st;have ha:=hs.len;have v2:=(YF hs.prf).2;have c1:ck (((s.prf.st.length:Nat):Int) - 1)=some (vi (((s.prf.st.length:Nat):Int) - 1)):=jZ (by omega) (by omega);have ri:=jww s.pas (((s.prf.st.length:Nat):Int) - 1) (by omega);unfold jcc;rw [jtO];have key:jpD (vi (s.prf.st.length:Nat)) (vi 0) (cls s.prf.ax) (yr s.prf.st) (ints s.act) (ints s.pas) (vb s.lost)=some (vb (joc (((s.prf.st.length:Nat):Int) - 1) s.pas [] s.act),[]):=by
  have key:=upto (P:=λi=>jpD (vi (s.prf.st.length:Nat)) (vi (i:Nat)) (cls s.prf.ax) (yr s.prf.st) (ints s.act) (ints s.pas) (vb s.lost)=some (vb (joc (((s.prf.st.length:Nat):Int) - 1) s.pas (s.act.take i) (s.act.drop i)),[])) (n:=s.act.length) ?_ ?_ 0 (jD _)
  .simpa only [jP,kg,Jm] using key
  .rw [jC3,j6,joc];simp only [jd]
  .intro i hi ih;have hlt:(i:Int) < ((s.act.length:Nat):Int):=by omega
   have h5:=jm hi (by show s.act.length<=9223372036854775807;omega)
   have a1:jg 1 (ints s.act) (vi (i:Nat))=some (.elt (ci s.act[i]) 0):=ja hi;have e1:=zN s.act[i] 0 (((s.prf.st.length:Nat):Int) - 1);have sl:zS 1 (ints s.act) none (some (vi (i:Nat)))=some (ints (s.act.take i)):=by
    rw [qP (by rw [jM];omega),<-jev]
   have b1:=has_eq s.pas s.act[i] (by show s.pas.length<=9223372036854775807;omega)
   have b2:=has_eq (s.act.take i) s.act[i] (by show (s.act.take i).length<=9223372036854775807;rw [qe];omega)
   rw [<-List.take_append_getElem hi] at ih;rw [jC3,jh hi,joc];generalize s.act[i]=x at a1 e1 b1 b2 ih;cases hb:yS 0 (((s.prf.st.length:Nat):Int) - 1) x<;>rw [hb] at e1
   .rw [jH];simp only [jd,hlt,a1,yK,c1,e1]
   cases h1:decide (x∈s.pas)<;>rw [h1] at b1
   .cases h2:decide (x∈s.act.take i)<;>rw [h2] at b2
    .rw [jli,jJ,jJ,jJ];simp only [jd,hlt,a1,yK,c1,e1,b1,sl,b2,h5,ih]
    .rw [jan,jH,yb,yb];simp only [jd,hlt,a1,yK,c1,e1,b1,sl,b2]
   .rw [jan,jH,yb];simp only [jd,hlt,a1,yK,c1,e1,b1]
 rw [g59];by_cases h40:((s.prf.st.length:Nat):Int) > 40
 .rw [kA (p:=s.prf.st.length<=40) (by omega),jH];simp only [jd,h40,jCK]
 .rw [jW (p:=s.prf.st.length<=40) (by omega),jJ];cases hv:KR s.prf<;>rw [hv] at v2
  .rw [jH];simp only [jd,h40,v2,jCK]
  .rw [jJ];cases hr:ris (((s.prf.st.length:Nat):Int) - 1) none s.pas<;>rw [hr] at ri
   .rw [jH];simp only [jd,h40,v2,c1,ri,jCK]
   .rw [jJ];simp only [jd,h40,v2,c1,ri,key,jCK]
theorem Zs.of {s:Sch} (hw:jmJ s) (h:jh6 s<=1048576):Zs s:=by
 unfold jh6 at h;exact ⟨Pz.of hw.1 (by omega),by omega⟩
theorem jfM (s:Sch) (hw:jmJ s):G 8 [scm s]=some (vb true,[]):=by
 have e1:=jmT s hw 1048576 (by decide) (by decide);rw [g8];by_cases h1:ko 1048576 ((jh6 s:Nat):Int) < 0
 .simp only [jd,e1,h1,jCK]
 .obtain ⟨b1,b2,b3⟩:=YU (by decide) (by decide) h1;have a1:=jmU s b3;have a2:=jlV s hw;have r1:=jkW (Zs.of hw b3);have r2:G 26 [scm s]=some (vb (jcc s),[]):=by
   have:=jkX (Zs.of hw b3);rw [g26];simp only [jd,this,jCK]
  simp only [jd,e1,h1,a1,a2,r1,r2,jCK]
theorem jvR:∀t:T,JO t->tsz t<=1048576->G 124 [tm t]=some (vi (nodes t:Nat),[]):=by
 refine T.ind λt ih hw hs=> ?_;obtain ⟨w1,w2,w3⟩:=(kJ t).1 hw;have w3:=(kD _).1 w3;have hn:=qG t;rw [jS] at hn ⊢;rw [kQ] at hs;have hn2:js t.args<=1048577:=by rw [kQ] at hn;omega
 have key:=upto (P:=λi=>∀a:Nat,a+js (t.args.drop i)<=1048578->jng (vi (a:Nat)) (vi (i:Nat)) (sv t.name) (jQ t.args)=some (vi ((a+js (t.args.drop i):Nat):Int),[])) (n:=t.args.length) ?_ ?_ 0 (jD _) 1 (by rw [kg];omega)
 .simp only [jP,jle,kg] at key;rw [jKA];simp only [jd,key]
 .intro a ha;rw [jym,j6];simp only [jd,js,kC]
 .intro i hi ih' a ha;have hlt:(i:Int) < ((t.args.length:Nat):Int):=by omega
  have h5:=jm hi w2;have hm:=jo hi;have e:=ih _ hm (w3 _ hm) (by have:=yC hm;omega);have x1:jg 2 (jQ t.args) (vi (i:Nat))=some (.elt (jw t.args[i]) 0):=ja hi;rw [jh hi] at ha ⊢;simp only [js] at ha ⊢;generalize t.args[i]=u at e x1 ha ⊢;have hk:ck ((a:Int)+(nodes u:Nat))=some (vi ((a+nodes u:Nat):Int)):=by rw [jZ (by omega) (by omega)];rfl
  have e2:=ih' (a+nodes u) (by omega);rw [ja9] at e2;rw [jym];simp only [jd,hlt,x1,jf,e,hk,h5,e2]
def wgt:zg->Nat
 | []=>0
 | l::c=>nodes l.2+wgt c
theorem weights {c:zg} (h:jX c=true):G 93 [cm c]=some (vi (wgt c:Nat),[])/\G 92 [cm c]=some (vi (wgt c:Nat),[]):=by
 have hc:=kL h;have hz:=(Zg h).2;have h8:=hc.1.1;have h30:∀l∈c,nodes l.2<=30:=λl hl=>(hc.1.2 l hl).2;have ld:∀l:Lt,ky 3 (.elt (j8 l) 0)=some (ltm l):=λl=>rfl;have ld2:∀l:Lt,ky 2 (.elt (j8 l) 1)=some (tm l.2):=λl=>rfl;have ad:∀l:Lt,yI (.elt (j8 l) 0) 1=some (.elt (j8 l) 1):=λl=>by rw [qp,yc]
 constructor
 .have key:=upto (P:=λi=>∀a:Nat,a<=30 * i->jun (vi (a:Nat)) (.sl 3 (c.map j8)) (vi (c.length:Nat)) (vi (i:Nat))=some (vi ((a+wgt (c.drop i):Nat):Int),[])) (n:=c.length) ?_ ?_ 0 (jD _) 0 (jD _)
  .simp only [jP,kg,yc] at key;rw [g93];simp only [jd,key]
  .intro a ha;rw [jDb,j6,wgt];simp only [jd,kC]
  .intro i hi ih a ha;have hlt:(i:Int) < ((c.length:Nat):Int):=by omega
   have h5:=jm hi (by show c.length<=9223372036854775807;omega)
   have hm:=jo hi;have x1:jg 3 (.sl 3 (c.map j8)) (vi (i:Nat))=some (.elt (j8 c[i]) 0):=ja hi;have hz1:=hz _ hm;have h31:=h30 _ hm;obtain ⟨r,e,_,r2,_⟩:=size_eq c[i].2 hz1.wf hz1;have r2:=r2 h31;rw [jh hi,wgt];generalize c[i]=l at x1 e r2 h31 ⊢;subst r2;have hk:ck ((a:Int)+(nodes l.2:Nat))=some (vi ((a+nodes l.2:Nat):Int)):=by rw [jZ (by omega) (by omega)];rfl
   have ih:=ih (a+nodes l.2) (by omega);rw [ja9] at ih;rw [jDb];simp only [jd,hlt,x1,ld,e,hk,h5,ih]
 .have key:=upto (P:=λi=>∀a:Nat,a<=30 * i->jum (vi (a:Nat)) (vi (i:Nat)) (.sl 3 (c.map j8))=some (vi ((a+wgt (c.drop i):Nat):Int),[])) (n:=c.length) ?_ ?_ 0 (jD _) 0 (jD _)
  .simp only [jP,kg,yc] at key;rw [g92];simp only [jd,key]
  .intro a ha;rw [jDa,j6,wgt];simp only [jd,kC]
  .intro i hi ih a ha;have hlt:(i:Int) < ((c.length:Nat):Int):=by omega
   have h5:=jm hi (by show c.length<=9223372036854775807;omega)
   have hm:=jo hi;have x1:jg 3 (.sl 3 (c.map j8)) (vi (i:Nat))=some (.elt (j8 c[i]) 0):=ja hi;have hz1:=hz _ hm;have h31:=h30 _ hm;have e:=jvR c[i].2 hz1.wf hz1;rw [jh hi,wgt];generalize c[i]=l at x1 e h31 ⊢;have hk:ck ((a:Int)+(nodes l.2:Nat))=some (vi ((a+nodes l.2:Nat):Int)):=by rw [jZ (by omega) (by omega)];rfl
   have ih:=ih (a+nodes l.2) (by omega);rw [ja9] at ih;rw [jDa];simp only [jd,hlt,x1,ad,ld2,e,hk,h5,ih]
theorem jt2 {p:Prf} (hp:Pz p) (h:KR p=true) (i:Nat) (hi:i < p.st.length):jX p.st[i].cls=true:=by
 unfold KR at h;rw [jy,kK] at h;exact (YQ hp i hi).2.2 (jbC p _ 0 h.2 i (jD _) (by omega)) h.1
def wAt (p:Prf) (x:Int):Nat:=wgt (((p.st[x.toNat]?).map Stp.cls).getD [])
def Yc (p:Prf):Int->List Int->Int
 | b,[]=>b
 | b,x::r=>Yc p (if wAt p x < wAt p b then x else b) r
theorem jwo (p:Prf) (b:Int) (r:List Int):Yc p b (b::r)=Yc p b r:=by
 rw [Yc,jq (by omega)]
section
variable {s:Sch} (hp:Pz s.prf) (hv:KR s.prf=true)
include hp hv
theorem jiF {x:Int} (hx:0<=x/\x < ((s.prf.st.length:Nat):Int)):∃q:Stp,jg 4 (yr s.prf.st) (vi x)=some (.elt (stc q) 0)/\G 93 [cm q.cls]=some (vi (wAt s.prf x:Nat),[])/\G 92 [cm q.cls]=some (vi (wAt s.prf x:Nat),[]):=by
 obtain ⟨n,rfl⟩:=jce hx.1;have hn:n < s.prf.st.length:=by omega
 have hw:=weights (jt2 hp hv n hn);refine ⟨s.prf.st[n],ja hn,?_⟩;unfold wAt;rw [jgg,kh hn];exact hw
theorem jx0 (hl:s.pas.length<=1048576) (hr:∀x∈s.pas,0<=x/\x < ((s.prf.st.length:Nat):Int)) (h0:0 < s.pas.length) :
  G 68 [.elt (scc s) 0]=some (vi (Yc s.prf s.pas[0] s.pas),[])/\G 67 [scm s]=some (vi (Yc s.prf s.pas[0] s.pas),[]):=by
 have a0:jg 1 (ints s.pas) (vi 0)=some (.elt (ci s.pas[0]) 0):=ja h0;have ck0:jwk (.elt (scc s) 0)=some (.elt (scc s) 0):=rfl;have ad3:yI (.elt (scc s) 0) 3=some (.elt (scc s) 3):=by rw [qp,yc]
 have ad0:yI (.elt (scc s) 0) 0=some (.elt (scc s) 0):=by rw [qp]
 have ad1:yI (.elt (scc s) 0) 1=some (.elt (scc s) 1):=by rw [qp,yc]
 have ld3:kq (.elt (scc s) 3)=some (ints s.pas):=rfl;have ld1:kq (.elt (scc s) 1)=some (yr s.prf.st):=rfl;have cl:∀(x:Int) (q:Stp),jg 4 (yr s.prf.st) (vi x)=some (.elt (stc q) 0)->G 94 [.elt (scc s) 0,vi x]=some (cm q.cls,[]):=λx q hq=>by
  rw [g94];simp only [jd,ck0,ad0,ad1,ld1,hq,adS,ldC]
 have fc:∀c:zg,fin false (cm c,[])=some (cm c):=λc=>rfl;constructor
 .have key:=upto (P:=λi=>∀b:Int,0<=b/\b < ((s.prf.st.length:Nat):Int)->jpF (.elt (scc s) 0) (vi b) (ints s.pas) (vi (s.pas.length:Nat)) (vi (i:Nat))=some (vi (Yc s.prf b (s.pas.drop i)),[])) (n:=s.pas.length) ?_ ?_ 0 (jD _) s.pas[0] (hr _ (jo h0))
  .simp only [jP,kg] at key;rw [g68];simp only [jd,ck0,ad3,ld3,a0,yK,key]
  .intro b hb;rw [jC6,j6,Yc];simp only [jd]
  .intro i hi ih b hb;have hlt:(i:Int) < ((s.pas.length:Nat):Int):=by omega
   have h5:=jm hi (by show s.pas.length<=9223372036854775807;omega)
   have x1:jg 1 (ints s.pas) (vi (i:Nat))=some (.elt (ci s.pas[i]) 0):=ja hi;have hx:=hr _ (jo hi);rw [jh hi,Yc];generalize s.pas[i]=x at x1 hx ⊢;obtain ⟨q,q1,q2,_⟩:=jiF hp hv hx;obtain ⟨r,r1,r2,_⟩:=jiF hp hv hb;have e1:=cl x q q1;have e2:=cl b r r1;rw [jC6];by_cases hw:wAt s.prf x < wAt s.prf b
   .have hw2:((wAt s.prf x:Nat):Int) < ((wAt s.prf b:Nat):Int):=by omega
    rw [jp hw,<-ih x hx];simp only [jd,hlt,x1,yK,e1,e2,fc,q2,r2,hw2,h5]
   .have hw2:¬((wAt s.prf x:Nat):Int) < ((wAt s.prf b:Nat):Int):=by omega
    rw [jq hw,<-ih b hb];simp only [jd,hlt,x1,yK,e1,e2,fc,q2,r2,hw2,h5]
 .have key:=upto (P:=λi=>∀b:Int,0<=b/\b < ((s.prf.st.length:Nat):Int)->jpE (vi b) (vi (i:Nat)) (cls s.prf.ax) (yr s.prf.st) (ints s.act) (ints s.pas) (vb s.lost)=some (vi (Yc s.prf b (s.pas.drop i)),[])) (n:=s.pas.length) ?_ ?_ 1 h0 s.pas[0] (hr _ (jo h0))
  .have e:Yc s.prf s.pas[0] s.pas=Yc s.prf s.pas[0] (s.pas.drop 1):=by
    have h:=jh h0;rw [kg] at h;exact (congrArg (Yc s.prf s.pas[0]) h).trans (jwo _ _ _)
   simp only [jle] at key;rw [g67,e];simp only [jd,a0,yK,key,jCK]
  .intro b hb;rw [jC5,j6,Yc];simp only [jd]
  .intro i hi ih b hb;have hlt:(i:Int) < ((s.pas.length:Nat):Int):=by omega
   have h5:=jm hi (by show s.pas.length<=9223372036854775807;omega)
   have x1:jg 1 (ints s.pas) (vi (i:Nat))=some (.elt (ci s.pas[i]) 0):=ja hi;have hx:=hr _ (jo hi);rw [jh hi,Yc];generalize s.pas[i]=x at x1 hx ⊢;obtain ⟨q,q1,_,q2⟩:=jiF hp hv hx;obtain ⟨r,r1,_,r2⟩:=jiF hp hv hb;rw [jC5];by_cases hw:wAt s.prf x < wAt s.prf b
   .have hw2:((wAt s.prf x:Nat):Int) < ((wAt s.prf b:Nat):Int):=by omega
    rw [jp hw,<-ih x hx];simp only [jd,hlt,x1,yK,q1,r1,adS,ldC,q2,r2,hw2,h5]
   .have hw2:¬((wAt s.prf x:Nat):Int) < ((wAt s.prf b:Nat):Int):=by omega
    rw [jq hw,<-ih b hb];simp only [jd,hlt,x1,yK,q1,r1,adS,ldC,q2,r2,hw2,h5]
end
theorem jwD {s:Sch} (hs:Zs s):∃(d:Int) (b:Bool),G 37 [scm s]=some (.tup [vi d,vb b],[])/\G 36 [scm s]=some (.tup [vi d,vb b],[]):=by
 have hl:=hs.len;have v1:=jkW hs;have v2:=jkX hs;cases hv:jcc s<;>rw [hv] at v1 v2
 .refine ⟨0,false,?_,?_⟩
  .rw [g37];simp only [jd,v1,jCK]
  .rw [g36];simp only [jd,v2,jCK]
 by_cases h0:((s.pas.length:Nat):Int)=0
 .refine ⟨0,false,?_,?_⟩
  .rw [g37];simp only [jd,v1,h0,jCK]
  .rw [g36];simp only [jd,v2,h0,jCK]
 unfold jcc at hv;rw [jy,jy,jy,joT] at hv;have hr:∀x∈s.pas,0<=x/\x < ((s.prf.st.length:Nat):Int):=λx hx=>by
  have:=(hv.2.2.1.1 x (jgh _ hx)).1;unfold yS at this;rw [jy,kK,kK] at this;omega
 obtain ⟨g1,g2⟩:=jx0 hs.prf hv.2.1 (by omega) hr (by omega);refine ⟨Yc s.prf s.pas[0] s.pas,true,?_,?_⟩
 .rw [g37];simp only [jd,v1,h0,g1,jCK]
 .rw [g36];simp only [jd,v2,h0,g2,jCK]
theorem jii (s:Sch) (hw:jmJ s):G 10 [scm s]=some (vb true,[]):=by
 have e1:=jmT s hw 1048576 (by decide) (by decide);rw [g10];by_cases h1:ko 1048576 ((jh6 s:Nat):Int) < 0
 .simp only [jd,e1,h1,jCK]
 .obtain ⟨b1,b2,b3⟩:=YU (by decide) (by decide) h1;have a1:=jmU s b3;have a2:=jlV s hw;obtain ⟨x,b,r1,r2⟩:=jwD (Zs.of hw b3);simp only [jd,e1,h1,a1,a2,r1,r2,jCK]
end Go.Proofs.YtoaifmomhaneiaaGreatDoor
