/- Pa -/
import Derived.Test.YtjgmjdidbgcljaaGreatDoorKt
import Derived.Test.YtjgmjdidbgcljaaGreatDoorPq
import Derived.Test.YtjgmjdidbgcljaaGreatDoorEd
import Derived.ChangeSame
namespace Go.Proofs.YtjgmjdidbgcljaaGreatDoor
open Go Go.RowKit Go.Proofs.YtjgmjdidbgcljaaGreatDoor.Abs
set_option linter.unusedSimpArgs false
set_option linter.unusedVariables false
abbrev ci(n:Int):Xd:=[vi n]
abbrev cs(s:Xb):Xd:=[sv s]
abbrev ints(l:Xi):A:= .sl 1 (l.map ci)
abbrev strs(l:Xa):A:= .sl 1 (l.map cs)
section
theorem jpe{α:Type}(x y:α):brn true x y=x:=rfl
theorem jjp{α:Type}(x y:α):brn false x y=y:=rfl
theorem jBM{α:Type}(b:Bool)(x y:α):brn b x y=if b=true then x else y:=rfl
theorem jCK:(-1:Int)<0:=by decide
theorem jjE(b:Bool):yK (vb b)=some b:=rfl
theorem jpZ(b:Bool)(x y:A):jd9 (vb b) x y=some (if b=true then x else y):=rfl
theorem jAK(b w:Bool)(x:Xl):pG (vb b) w x=if b=w then x else some (.val undef):=rfl
theorem jt8(b w:Bool):yV (vb b) w=some (decide (b=w)):=rfl
theorem jAJ(w:Bool)(x:Xl):pG (.val undef) w x=some (.val undef):=rfl
theorem jt7(w:Bool):yV (.val undef) w=some false:=rfl
theorem jAM(k:Nat)(xs:Xc):jd7 (.sl k xs)=some (vi xs.length):=rfl
theorem jnb(xs:Xc):jbS xs=vi xs.length:=rfl
theorem jp4(xs:Xc):ja9 xs=xs.length:=rfl
theorem jlv(l:Xb):jd8 (sv l)=some (vi l.length):=rfl
theorem jzq(a:A):fin false (a,[])=some a:=rfl
theorem jEA(b c:Bool):fin c (vb b,[])=some (vb b):=by cases c<;>rfl
theorem jEB(c:Bool)(n:Int):fin c (vi n,[])=some (vi n):=by cases c<;>rfl
theorem jCR(b:Bool):pUn .not (vb b)=some (vb (!b)):=rfl
theorem jm8(b:Bool)(x y:Int):jeH .lss b (vi x) (vi y)=some (vb (decide (x<y))):=rfl
theorem jAD(b:Bool)(x y:Int):jeH .leq b (vi x) (vi y)=some (vb (decide (x<=y))):=rfl
theorem jAC(b:Bool)(x y:Int):jeH .gtr b (vi x) (vi y)=some (vb (decide (y<x))):=rfl
theorem jAB(b:Bool)(x y:Int):jeH .geq b (vi x) (vi y)=some (vb (decide (y<=x))):=rfl
theorem jt4(b:Bool)(x y:Int):jeH .eql b (vi x) (vi y)=some (vb (decide (x=y))):=rfl
theorem jAF(b:Bool)(x y:Int):jeH .neq b (vi x) (vi y)=some (vb (!decide (x=y))):=rfl
theorem jx7(b:Bool)(x y:Int):jeH .lss b (vy x) (vy y)=some (vb (decide (x<y))):=rfl
theorem jx6(b:Bool)(x y:Int):jeH .leq b (vy x) (vy y)=some (vb (decide (x<=y))):=rfl
theorem jx5(b:Bool)(x y:Int):jeH .gtr b (vy x) (vy y)=some (vb (decide (y<x))):=rfl
theorem jx4(b:Bool)(x y:Int):jeH .geq b (vy x) (vy y)=some (vb (decide (y<=x))):=rfl
theorem jx3(b:Bool)(x y:Int):jeH .eql b (vy x) (vy y)=some (vb (decide (x=y))):=rfl
theorem jx8(b:Bool)(x y:Int):jeH .neq b (vy x) (vy y)=some (vb (!decide (x=y))):=rfl
theorem jx9(x y:Bool):jeH .eql true (vb x) (vb y)=some (vb (decide (x=y))):=rfl
theorem jya(x y:Bool):jeH .neq true (vb x) (vb y)=some (vb (!decide (x=y))):=rfl
theorem jiM(b:Bool)(x y:Int):jeH .add b (vi x) (vi y)=ck (x+y):=by cases b<;>rfl
theorem jt5(b:Bool)(x y:Int):jeH .sub b (vi x) (vi y)=ck (x-y):=by cases b<;>rfl
theorem jAE(b:Bool)(x y:Int):jeH .mul b (vi x) (vi y)=ck (x*y):=by cases b<;>rfl
theorem jeY{n:Int}(h1: -9223372036854775808<=n)(h2:n<=9223372036854775807):ck n=some (vi n):=jc6 ⟨h1,h2⟩
theorem jkm(b:Bool)(x y:Xb):jeH .add b (sv x) (sv y)=if x.length+y.length<=9223372036854775807 then some (sv (x++y))else none:=by cases b<;>rfl
theorem jnL(b:Bool)(x y:Xb):jeH .eql b (sv x) (sv y)=some (vb (decide (x=y))):=rfl
theorem jye(b:Bool)(x y:Xb):jeH .neq b (sv x) (sv y)=some (vb (!decide (x=y))):=rfl
theorem jyd(b:Bool)(x y:Xb):jeH .lss b (sv x) (sv y)=some (vb (sLt x y)):=rfl
theorem jAN(a:A)(l:Xd):jas (.elt (a::l) 0)=some a:=rfl
theorem jhj(cs:Xd)(off n:Nat):jeG (.elt cs off) n=some (.elt cs (off+n)):=rfl
theorem jvK(off:Nat)(cs:Xd):jaq off (.agg cs)=cs[off]? :=rfl
theorem jvI(n:Nat)(ds:Xd):jcI n (.agg ds)=if ds.length=n/\ds.all Za=true then some ds else none:=rfl
theorem jxF(a:A)(l:Xd):ym (a::l) 0=a:=rfl
theorem jy5(a b:A)(l:Xd):ym (a::b::l) 1=b:=rfl
theorem jy6(a b c:A)(l:Xd):ym (a::b::c::l) 2=c:=rfl
theorem jvh(a b c d:A)(l:Xd):ym (a::b::c::d::l) 3=d:=rfl
theorem jEQ(k:Nat)(xs:Xc):Za (.sl k xs)=true:=rfl
theorem jCM(cs:Xd)(o:Nat):Za (.elt cs o)=true:=rfl
theorem jEP(f:FuncId)(l:Xd):Za (.fn f l)=true:=rfl
theorem jET(n:Int):Za (vi n)=true:=rfl
theorem jES(b:Bool):Za (vb b)=true:=rfl
theorem jER(l:Xb):Za (sv l)=true:=rfl
theorem jEV(n:Nat)(i:Int):pIx n (vi i)=if 0<=i/\i<(n:Int)then some i.toNat else none:=rfl
theorem jg7{n i:Nat}(h:i<n):pIx n (vi i)=some i:=by
 rw[jEV,jc6 ⟨by omega,by omega⟩];simp
theorem jAQ(k:Nat)(xs:Xc):ja8 k (.sl k xs)=some xs:=jc6 rfl
theorem jEX(a:A)(l:Xd):jfw (.tup (a::l)) 0=some a:=rfl
theorem jEY(a b:A)(l:Xd):jfw (.tup (a::b::l)) 1=some b:=rfl
theorem jEZ(a b c:A)(l:Xd):jfw (.tup (a::b::c::l)) 2=some c:=rfl
theorem jCP(x y:Int):jeK (vi x) (vi y)=some (vi (if x<y then y else x)):=by
 unfold jeK;simp
theorem jCQ(x y:Int):jeL (vi x) (vi y)=some (vi (if y<x then y else x)):=by
 unfold jeL;simp
theorem jF3(a:A)(l:Xd)(i:Nat):hD (a,l) i=l[i]? :=rfl
theorem jIi(k:Nat)(a:A)(xs:Xc)(l:Xd):hR k (a,.sl k xs::l) 0=some xs:=by simp[hR]
theorem jIj(k:Nat)(a b:A)(xs:Xc)(l:Xd):hR k (a,b:: .sl k xs::l) 1=some xs:=by simp[hR]
theorem jIk(k:Nat)(a b c:A)(xs:Xc)(l:Xd):hR k (a,b::c:: .sl k xs::l) 2=some xs:=by simp[hR]
theorem jir{f:FuncId}{caps args:Xd}{c:Bool}(h:K.pureF f=true):DX.run K (MM K) (.callc (.fn f caps) args c)=(G f (args++caps)).bind (fin c):=by
 simp only[DX.run,h,zv]
theorem jaa{α:Type}{k:Nat}{f:α->Xd}{xs:List α}{i:Nat}(h:i<xs.length):jda k (.sl k (xs.map f)) (vi i)=some (.elt (f xs[i]) 0):=by
 simp only[jda,zv,jbw,jg7 h,z6];simp[jK,h]
theorem jef{i n:Nat}(h:i<n)(hn:n<=9223372036854775807):jeH .add false (vi i) (vi 1)=some (vi ((i+1:Nat):Int)):=by
 rw[jiM,jeY (by omega) (by omega)];rfl
theorem jGn(d top:Nat)(z:Int):pB d top (some (vi z))=if 0<=z/\z<=(top:Int)then some z.toNat else none:=rfl
theorem jhY{d top n:Nat}(h:n<=top):pB d top (some (vi n))=some n:=by
 rw[jGn,jc6 ⟨by omega,by omega⟩];simp
theorem jg6{d top:Nat}(h:d<=top):pB d top none=some d:=jc6 h
theorem jsC(xs:Xc):jbR xs=xs.length:=rfl
theorem jhW(xs:Xc)(off:Nat):jfy xs off=xs.length-off:=rfl
theorem jxe(ys:Xc)(n:Nat):jgp ys n=vi (min ys.length n:Nat):=rfl
theorem juo(ys:Xc)(n:Nat):jfz ys n=ys.take n:=rfl
theorem jnc(xs:Xc)(off n:Nat):jgq xs off n=(xs.drop off).take n:=rfl
theorem jkn(xs:Xc)(off:Nat)(ys:Xc):yL xs off ys=xs.take off++ys++xs.drop (off+ys.length):=rfl
theorem jhJ(a b:Nat):jgk a b=a-b:=rfl
theorem jAO(off n:Nat)(ys xs:Xc):jea off n ys xs=decide (off+n+ys.length<=xs.length):=rfl
theorem upto{P:Nat->Prop}{n:Nat}(h0:P n)(hs:∀i,i<n->P (i+1)->P i):∀i,i<=n->P i:=by
 intro i hi;obtain⟨k,hk⟩:∃k,n=i+k:=⟨n-i,by omega⟩;induction k generalizing i with
 |zero=>rw[show i=n by omega];exact h0
 |succ k ih=>exact hs i (by omega) (ih (i+1) (by omega) (by omega))
theorem jdb{α:Type}{xs:List α}{i:Nat}(h:i<xs.length):xs.drop i=xs[i]::xs.drop (i+1):=List.drop_eq_getElem_cons h
theorem evs :
  ((-1:Int)<0)/\
  (∀{α:Type}(x y:α),brn true x y=x)/\
  (∀{α:Type}(x y:α),brn false x y=y)/\
  (∀{α:Type}(b:Bool)(x y:α),brn b x y=if b=true then x else y)/\
  (∀{α β:Type}(a:α)(f:α->Option β),(some a).bind f=f a)/\
  (∀{α β:Type}(f:α->Option β),none.bind f=none)/\
  (∀(b:Bool),yK (vb b)=some b)/\
  (∀(b:Bool)(x y:A),jd9 (vb b) x y=some (if b=true then x else y))/\
  (∀(b w:Bool)(x:Xl),pG (vb b) w x=if b=w then x else some (A.val undef))/\
  (∀(b w:Bool),yV (vb b) w=some (decide (b=w)))/\
  (∀(w:Bool)(x:Xl),pG (A.val undef) w x=some (A.val undef))/\
  (∀(w:Bool),yV (A.val undef) w=some false)/\
  (∀(k:Nat)(xs:Xc),jd7 (A.sl k xs)=some (vi ↑xs.length))/\
  (∀(xs:Xc),jbS xs=vi ↑xs.length)/\
  (∀(xs:Xc),ja9 xs=xs.length)/\
  (∀(l:Xb),jd8 (sv l)=some (vi ↑l.length))/\
  (∀(a:A),fin false (a,[])=some a)/\
  (∀(b c:Bool),fin c (vb b,[])=some (vb b))/\
  (∀(c:Bool)(n:Int),fin c (vi n,[])=some (vi n))/\
  (∀(b:Bool),pUn UnOp.not (vb b)=some (vb !b))/\
  (∀(b:Bool)(x y:Int),jeH BinOp.lss b (vi x) (vi y)=some (vb (decide (x<y))))/\
  (∀(b:Bool)(x y:Int),jeH BinOp.leq b (vi x) (vi y)=some (vb (decide (x<=y))))/\
  (∀(b:Bool)(x y:Int),jeH BinOp.gtr b (vi x) (vi y)=some (vb (decide (y<x))))/\
  (∀(b:Bool)(x y:Int),jeH BinOp.geq b (vi x) (vi y)=some (vb (decide (y<=x))))/\
  (∀(b:Bool)(x y:Int),jeH BinOp.eql b (vi x) (vi y)=some (vb (decide (x=y))))/\
  (∀(b:Bool)(x y:Int),jeH BinOp.neq b (vi x) (vi y)=some (vb !decide (x=y)))/\
  (∀(b:Bool)(x y:Int),jeH BinOp.lss b (vy x) (vy y)=some (vb (decide (x<y))))/\
  (∀(b:Bool)(x y:Int),jeH BinOp.leq b (vy x) (vy y)=some (vb (decide (x<=y))))/\
  (∀(b:Bool)(x y:Int),jeH BinOp.gtr b (vy x) (vy y)=some (vb (decide (y<x))))/\
  (∀(b:Bool)(x y:Int),jeH BinOp.geq b (vy x) (vy y)=some (vb (decide (y<=x))))/\
  (∀(b:Bool)(x y:Int),jeH BinOp.eql b (vy x) (vy y)=some (vb (decide (x=y))))/\
  (∀(b:Bool)(x y:Int),jeH BinOp.neq b (vy x) (vy y)=some (vb !decide (x=y)))/\
  (∀(x y:Bool),jeH BinOp.eql true (vb x) (vb y)=some (vb (decide (x=y))))/\
  (∀(x y:Bool),jeH BinOp.neq true (vb x) (vb y)=some (vb !decide (x=y)))/\
  (∀(b:Bool)(x y:Int),jeH BinOp.add b (vi x) (vi y)=ck (x+y))/\
  (∀(b:Bool)(x y:Int),jeH BinOp.sub b (vi x) (vi y)=ck (x-y))/\
  (∀(b:Bool)(x y:Int),jeH BinOp.mul b (vi x) (vi y)=ck (x*y))/\
  (∀(b:Bool)(x y:Xb),jeH BinOp.eql b (sv x) (sv y)=some (vb (decide (x=y))))/\
  (∀(b:Bool)(x y:Xb),jeH BinOp.neq b (sv x) (sv y)=some (vb !decide (x=y)))/\
  (∀(b:Bool)(x y:Xb),jeH BinOp.lss b (sv x) (sv y)=some (vb (sLt x y)))/\
  (∀(a:A)(l:Xd),jas (A.elt (a::l) 0)=some a)/\
  (∀(cs:Xd)(off n:Nat),jeG (A.elt cs off) n=some (A.elt cs (off+n)))/\
  (∀(off:Nat)(cs:Xd),jaq off (A.agg cs)=cs[off]?)/\
  (∀(n:Nat)(ds:Xd),jcI n (A.agg ds)=if ds.length=n/\ds.all Za=true then some ds else none)/\
  (∀(a:A)(l:Xd),ym (a::l) 0=a)/\
  (∀(a b:A)(l:Xd),ym (a::b::l) 1=b)/\
  (∀(a b c:A)(l:Xd),ym (a::b::c::l) 2=c)/\
  (∀(a b c d:A)(l:Xd),ym (a::b::c::d::l) 3=d)/\
  (∀(k:Nat)(xs:Xc),Za (A.sl k xs)=true)/\
  (∀(cs:Xd)(o:Nat),Za (A.elt cs o)=true)/\
  (∀(f:FuncId)(l:Xd),Za (A.fn f l)=true)/\
  (∀(n:Int),Za (vi n)=true)/\
  (∀(b:Bool),Za (vb b)=true)/\
  (∀(l:Xb),Za (sv l)=true)/\
  (∀(k:Nat)(xs:Xc),ja8 k (A.sl k xs)=some xs)/\
  (∀(a:A)(l:Xd),jfw (A.tup (a::l)) 0=some a)/\
  (∀(a b:A)(l:Xd),jfw (A.tup (a::b::l)) 1=some b)/\
  (∀(a b c:A)(l:Xd),jfw (A.tup (a::b::c::l)) 2=some c)/\
  (∀(x y:Int),jeK (vi x) (vi y)=some (vi (if x<y then y else x)))/\
  (∀(x y:Int),jeL (vi x) (vi y)=some (vi (if y<x then y else x)))/\
  (∀(a:A)(l:Xd)(i:Nat),hD (a,l) i=l[i]?)/\
  (∀(k:Nat)(a:A)(xs:Xc)(l:Xd),hR k (a,A.sl k xs::l) 0=some xs)/\
  (∀(k:Nat)(a b:A)(xs:Xc)(l:Xd),hR k (a,b::A.sl k xs::l) 1=some xs)/\
  (∀(k:Nat)(a b c:A)(xs:Xc)(l:Xd),hR k (a,b::c::A.sl k xs::l) 2=some xs)/\
  (∀{α:Type}{a:α}{l:List α}{f:α->Bool},(a::l).all f=(f a && l.all f))/\
  (∀{α:Type}{f:α->Bool},([]:List α).all f=true)/\
  (∀{α:Type}{a:α}{l:List α},(a::l).length=l.length+1)/\
  (∀{α:Type},([]:List α).length=0)/\
  (∀{α β:Type}{l:List α}(f:α->β),(List.map f l).length=l.length)/\
  (∀(n:Nat),0+n=n)/\
  (∀(b:Bool),(b && b)=b)/\
  (∀(b:Bool),(b && true)=b)/\
  (∀(p:Prop),(p/\p)=p)/\
  (∀{α:Type}{_x:Decidable True}(t e:α),(if True then t else e)=t)/\
  (∀{α:Type}{_x:Decidable False}(t e:α),(if False then t else e)=e)/\
  ((true=false)=False)/\
  ((false=true)=False)/\
  (∀(_h:Decidable True),decide True=true)/\
  (∀(_h:Decidable False),decide False=false)/\
  ((!true)=false)/\
  ((!false)=true)/\
  (∀(b:Bool),((!b)=true)=(b=false))/\
  (∀{p:Prop} [Decidable p],(decide p=true)=p)/\
  (∀{p:Prop}{x:Decidable p},decide p=false↔ ¬p)/\
  (∀(a:Int),¬a<a)/\
  ((¬True)=False)/\
  ((¬False)=True)/\
  (∀{α:Type}(a b:α),(if True then a else b)=a)/\
  (∀{α:Type}(a b:α),(if False then a else b)=b):=
 ⟨@jCK,@jpe,@jjp,@jBM,@Option.bind_some.{0,0},@Option.bind_none.{0,0},@jjE,@jpZ,@jAK,@jt8,@jAJ,@jt7,@jAM,@jnb,@jp4,@jlv,@jzq,@jEA,@jEB,@jCR,@jm8,@jAD,@jAC,@jAB,@jt4,@jAF,@jx7,@jx6,@jx5,@jx4,@jx3,@jx8,@jx9,@jya,@jiM,@jt5,@jAE,@jnL,@jye,@jyd,@jAN,@jhj,@jvK,@jvI,@jxF,@jy5,@jy6,@jvh,@jEQ,@jCM,@jEP,@jET,@jES,@jER,@jAQ,@jEX,@jEY,@jEZ,@jCP,@jCQ,@jF3,@jIi,@jIj,@jIk,@jbq.{0},@List.all_nil.{0},@yv.{0},@jgS.{0},@jbw.{0,0},@jfO,@Bool.and_self,@Bool.and_true,@and_self,@zv.{1},@if_false.{1},@Bool.true_eq_false,@JG,@decide_true,@decide_false,@Bool.not_true,@Bool.not_false,@JK,@Q5,@decide_eq_false_iff_not,@Int.lt_irrefl,@not_true_eq_false,@not_false_eq_true,@ite_true.{1},@ite_false.{1}⟩
end
theorem jFT:(∀{α:Type}{h:Decidable True}(a b:α),@ite α True h a b=a)/\(∀{α:Type}{h:Decidable False}(a b:α),@ite α False h a b=b)/\(1+1=2/\1+2=3/\1+3=4/\1+4=5/\2+1=3/\2+2=4/\2+3=5/\2+4=6/\3+1=4/\3+2=5/\3+3=6/\3+4=7/\4+1=5/\4+2=6/\4+3=7/\4+4=8/\5+1=6/\5+2=7/\5+3=8/\5+4=9/\6+1=7/\6+2=8/\6+3=9/\6+4=10/\7+1=8/\7+2=9/\7+3=10/\7+4=11/\8+1=9/\8+2=10/\8+3=11/\8+4=12/\9+1=10/\9+2=11/\9+3=12/\9+4=13/\10+1=11/\10+2=12/\10+3=13/\10+4=14/\11+1=12/\11+2=13/\11+3=14/\11+4=15/\12+1=13/\12+2=14/\12+3=15/\12+4=16):=by refine⟨?_,?_,by decide⟩<;>intros<;>simp
theorem evz:type_of% (And.intro evs (And.intro cev jFT)):=And.intro evs (And.intro cev jFT)
open Go Go.RowKit Go.ChangeShapes Go.Deep Go.Proofs.YtjgmjdidbgcljaaGreatDoor.Abs
section
variable{P:Program}{t:Nat}{H:Type}{enc:TypeId×Value->H}{w:World}{base:Nat}{spare:Nat->Bool}{held:Bool}{fuel:Nat}{cs:Xh}{x:DataW H×List MemPlace}
end
inductive T where
 |mk (name:Xb) (args:List T)
abbrev Xg:=List T
def T.name:T->Xb|.mk n _=>n
def T.args:T->Xg|.mk _ us=>us
theorem T.eta(t:T):T.mk t.name t.args=t:=by cases t;rfl
mutual
def jdd:T->Xd
 |.mk n us=>[sv n,.sl 2 (joP us)]
def joP:Xg->Xc
 | []=>[]
 |t::ts=>jdd t::joP ts
end
theorem jof:∀ts:Xg,joP ts=ts.map jdd
 | []=>rfl
 |t::ts=>by simp[joP,jof ts]
theorem jfY(t:T):jdd t=[sv t.name,.sl 2 (t.args.map jdd)]:=by
 cases t;simp[jdd,T.name,T.args,jof]
abbrev tm(t:T):A:= .agg [sv t.name,.sl 2 (t.args.map jdd)]
abbrev tms(ts:Xg):A:= .sl 2 (ts.map jdd)
theorem ja1(t:T):jar 2 (.elt (jdd t) 0)=some (.agg [sv t.name,.sl 2 (t.args.map jdd)]):=by rw[jfY];rfl
mutual
def tsz:T->Nat
 |.mk n us=>n.length+us.length+jhv us
def jhv:Xg->Nat
 | []=>0
 |t::ts=>tsz t+jhv ts
end
theorem jgG(t:T):tsz t=t.name.length+t.args.length+jhv t.args:=by cases t;simp[tsz,T.name,T.args]
theorem jhq:∀{ts:Xg}{t:T},t∈ts->tsz t<=jhv ts
 | [],_,h=>by cases h
 |u::us,t,h=>by
  simp only[jhv];rcases yN.1 h with rfl|h
  .omega
  .have:=jhq h;omega
mutual
def twf:T->Prop
 |.mk n us=>n.length<=9223372036854775807/\us.length<=9223372036854775807/\jyt us
def jyt:Xg->Prop
 | []=>True
 |t::ts=>twf t/\jyt ts
end
theorem jgM(t:T):twf t↔t.name.length<=9223372036854775807/\t.args.length<=9223372036854775807/\jyt t.args:=by cases t;simp[twf,T.name,T.args]
theorem jgz:∀ts:Xg,jyt ts↔ ∀t∈ts,twf t
 | []=>by simp[jyt]
 |t::ts=>by simp[jyt,jgz ts]
theorem T.ind{p:T->Prop}(h:∀t,(∀u∈t.args,p u)->p t):∀t,p t:=by
 intro t;induction hn:SizeOf.sizeOf t using Nat.strongRecOn generalizing t with
 |ind n ih=>
  subst hn;refine h t λu hu=>ih (SizeOf.sizeOf u) ?_ u rfl;cases t with
  |mk nm us=>
   have:=List.sizeOf_lt_of_mem hu;simp only[T.args]at this;simp only[T.mk.sizeOf_spec];omega
section
variable{P:Program}{tT tS:Nat}
end
structure Ord' where
 syms:Xa
 ws:Xi
 var:Int
abbrev jsz(o:Ord'):Xd:=[strs o.syms,ints o.ws,vi o.var]
abbrev od(o:Ord'):A:= .agg [strs o.syms,ints o.ws,vi o.var]
def owf(o:Ord'):Prop:=((∀s∈o.syms,s.length<=9223372036854775807)/\o.syms.length<=9223372036854775807)/\((∀x∈o.ws,I64 x)/\o.ws.length<=9223372036854775807)/\I64 o.var
set_option maxHeartbeats 1000000
def jIN(left n:Int):Int:=if 0<=left-n then left-n else -1
def part{α:Type}(f:α->Xd)(z:Xd)(xs:List α)(i:Nat):Xc:=(xs.take i).map f++List.replicate (xs.length-i) z
section
variable{α:Type}{f:α->Xd}{z:Xd}{xs:List α}
theorem jra:jcP xs.length z=part f z xs 0:=by simp[part,jcP]
theorem jub:part f z xs xs.length=xs.map f:=by simp[part]
theorem jn7{i:Nat}(h:i<=xs.length):(part f z xs i).length=xs.length:=by simp[part];omega
theorem juc{i:Nat}(h:i<xs.length):jfx (part f z xs i) i=some z:=by
 unfold jfx part;rw[QU (by simp;omega)];simp;rw[List.getElem?_replicate,jc6 (by omega)]
theorem jud{i:Nat}(h:i<xs.length):jau (part f z xs i) i (f xs[i])=part f z xs (i+1):=by
 unfold jau part;have e:xs.length-i=(xs.length-(i+1))+1:=by omega
 rw[List.set_append_right _ _ (by simp;omega),e,jc9]
 simp only[jbw,List.length_take,Nat.min_eq_left (Nat.le_of_lt h),Nat.sub_self,ZB];rw[<-List.take_append_getElem h,jv];simp
end
theorem jmL(a b c d:A):jfg [a,b] 0 [c,d]=[c,d]:=rfl
theorem jnN{b n:Nat}(hb:(b:Int)*(n:Int)<=281474976710656)(hn:n<=1048576):ja7 b (vi n) (vi n)=some n:=by
 show(if _ then _ else _)=_;rw[jc6 (show je2 b n n from⟨by omega,Int.le_refl _,hb,by omega⟩),Int.toNat_natCast]
theorem jiD{k:Nat}{xs:Xc}{i:Nat}(h:i<=xs.length):J2 k (.sl k xs) none (some (vi i))=some (.sl k (xs.take i)):=by
 simp only[J2,zU,Option.bind_some];rw[jc6 ⟨trivial,Int.le_refl _,by omega,by omega⟩];simp
theorem jid{k:Nat}{xs:Xc}{i:Nat}(h:i<=xs.length):J2 k (.sl k xs) (some (vi i)) none=some (.sl k (xs.drop i)):=by
 simp only[J2,zU,Option.bind_some];rw[jc6 ⟨trivial,by omega,by omega,by omega⟩];simp
def jIm(k:Int):Nat->Xi
 |0=>[]
 |n+1=>k::jIm (k+1) n
section
variable{α:Type}{f:α->Xd}(M r:List α)(x:α)
end
section
variable(M R:Xc)(x y:Xd)
end
def jBb:Xa->Nat
 | []=>0
 |s::l=>s.length+jBb l
def osz(o:Ord'):Nat:=o.syms.length+jBb o.syms+o.ws.length
theorem ji3{l:Xb}{i:Nat}(h:i<l.length):YM (sv l) (vi i)=some (vy (l[i].toNat:Int)):=by
 show(if _ then _ else _)=_;rw[jc6 ⟨by omega,by simpa using h⟩];simp[jK,h]
theorem jhO{c:UInt8}{l:Xb} :YM (sv (c::l)) (vi 0)=some (vy (c.toNat:Int)):=ji3 (i:=0) (l:=c::l) (by simp)
def inB(lo hi x:Int):Bool:=decide (lo<=x) && decide (x<=hi)
theorem jiF(x a b:Int):G 54 [vi x,vi a,vi b]=some (vb (inB a b x),[]):=by
 rw[g54];by_cases h:a<=x<;>simp only[evz,h,inB,Bool.true_and,Bool.false_and]
theorem jhz(x a b:Int):G 23 [vi x,vi a,vi b]=some (vb (inB a b x),[]):=by
 rw[g23];by_cases h:a<=x<;>simp only[evz,h,inB,Bool.true_and,Bool.false_and]
def upc(c:UInt8):Bool:=inB 65 90 (c.toNat:Int)
def jlX(c:UInt8):Bool:=inB 97 122 (c.toNat:Int)
def jxL(c:UInt8):Bool:=inB 48 57 (c.toNat:Int)
def jio(c:UInt8):Bool:=jlX c || jxL c
theorem jmi(c:UInt8):G 97 [vy (c.toNat:Int)]=some (vb (upc c),[]):=by
 rw[g97];by_cases h:65<=(c.toNat:Int)<;>simp only[evz,h,upc,inB,Bool.true_and,Bool.false_and]
theorem jmf(c:UInt8):G 188 [vy (c.toNat:Int)]=some (vb (jlX c),[]):=by
 rw[jH2];by_cases h:97<=(c.toNat:Int)<;>simp only[evz,h,jlX,inB,Bool.true_and,Bool.false_and]
theorem jpt(c:UInt8):G 189 [vy (c.toNat:Int)]=some (vb (jxL c),[]):=by
 rw[jH3];by_cases h:48<=(c.toNat:Int)<;>simp only[evz,h,jxL,inB,Bool.true_and,Bool.false_and]
theorem jpD(c:UInt8):G 87 [vy (c.toNat:Int)]=some (vb (jio c),[]):=by
 rw[g87];by_cases h:97<=(c.toNat:Int)<;>by_cases h2:(c.toNat:Int)<=122<;>by_cases h3:48<=(c.toNat:Int)<;>simp only[evz,h,h2,h3,jio,jlX,jxL,inB,Bool.true_and,Bool.false_and,Bool.or_false,Bool.true_or,Bool.false_or]
def jdc:Xb->Bool
 | []=>false
 |c::r=>upc c && (r.all jio && decide (r.length<=3))
theorem joJ(r:Xb)(k:Nat)(hk:k<=9):inB 1 (k+1:Nat) (((r.length+1:Nat)):Int)=decide (r.length<=k):=by
 unfold inB;have:decide ((1:Int)<=((r.length+1:Nat):Int))=true:=by simp;omega
 rw[this,Bool.true_and];by_cases h:r.length<=k<;>simp[h]<;>omega
theorem joo(s:Xb)(hs:s.length<=9223372036854775807):∀i,i<=s.length->1<=i->jo3 (sv s) (vi (s.length:Nat)) (vi i)=some (vb ((s.drop i).all jio && inB 1 4 (s.length:Nat)),[]):=by
 refine upto (P:=λi=>1<=i->jo3 (sv s) (vi (s.length:Nat)) (vi i)=some (vb ((s.drop i).all jio && inB 1 4 (s.length:Nat)),[])) ?_ ?_
 .intro _;rw[jsi,List.drop_length];have e:=jiF (s.length:Nat) 1 4;simp only[evz,e,Bool.true_and]
 .intro i hi ih h1;have ih:=ih (by omega);have hn:¬((i:Int)=0):=by omega
  have hp:(0:Int)<(i:Int):=by omega
  have hlt:(i:Int)<((s.length:Nat):Int):=by omega
  have h5:=jef hi hs;have hx:=ji3 hi;have e1:=jmf s[i];have e2:=jpt s[i];rw[jsi,jdb hi];generalize s[i]=ch at *;rw[jbq];cases h8:jlX ch<;>cases h9:jxL ch<;>rw[h8]at e1<;>rw[h9]at e2<;>simp only[evz,hn,hp,hlt,hx,e1,e2,h5,ih,jio,h8,h9,Bool.true_and,Bool.false_and,Bool.or_true,Bool.or_false]
theorem jl3(s:Xb)(hs:s.length<=9223372036854775807):G 183 [sv s]=some (vb (jdc s),[]):=by
 rw[jHZ];show(jd8 (sv s)).bind _=_;rw[jlv,Option.bind_some];cases s with
 |nil=>
  rw[jsi];have e:=jiF ((0:Nat):Int) 1 4;simp only[evz,e];rfl
 |cons c r=>
  have key:=joo (c::r) hs 1 (by simp) (jl _);simp only[List.drop_succ_cons,List.drop_zero]at key;have e':inB 1 4 (((c::r).length:Nat):Int)=decide (r.length<=3):=joJ r 3 (by decide);rw[e']at key;rw[jsi];have h5:jeH .add false (vi 0) (vi 1)=some (vi ((1:Nat):Int)):=by rw[jiM,jeY (by decide) (by decide)];rfl
  have h6:(0:Int)<(((c::r).length:Nat):Int):=Int.natCast_pos.2 (Nat.succ_pos _);have e1:=jmi c;generalize ((((c::r).length:Nat)):Int)=n at *;cases hu:upc c<;>rw[hu]at e1<;>simp only[evz,h6,jhO,e1,h5,key,jdc,hu,Bool.true_and,Bool.false_and]
theorem jvz(s:Xb)(hs:s.length<=9223372036854775807):∀i,i<=s.length->jqD (sv s) (vi i)=some (vb ((s.drop i).all jio),[]):=by
 refine upto (P:=λi=>jqD (sv s) (vi i)=some (vb ((s.drop i).all jio),[])) ?_ ?_
 .rw [jDy,List.drop_length];simp only[evz]
 .intro i hi ih;have hlt:(i:Int)<((s.length:Nat):Int):=by omega
  have h5:=jef hi hs;have hx:=ji3 hi;have e1:=jpD s[i];rw[jDy,jdb hi];generalize s[i]=ch at *;rw[jbq];cases h8:jio ch<;>rw[h8]at e1<;>simp only[evz,hlt,hx,e1,h5,ih,Bool.true_and,Bool.false_and]
theorem jg8(s:Xb)(hs:s.length<=9223372036854775807):G 44 [sv s]=some (vb (jdc s),[]):=by
 rw[g44];show(jd8 (sv s)).bind _=_;rw[jlv,Option.bind_some];cases s with
 |nil=>
  have e:=jhz ((0:Nat):Int) 1 4;simp only[evz,e];rfl
 |cons c r=>
  have e:=jhz (((c::r).length:Nat):Int) 1 4;have e':inB 1 4 (((c::r).length:Nat):Int)=decide (r.length<=3):=joJ r 3 (by decide);rw[e']at e;have key:=jvz (c::r) hs 1 (by simp);simp only[List.drop_succ_cons,List.drop_zero]at key;have key:jqD (sv (c::r)) (vi 1)=some (vb (r.all jio),[]):=key;generalize ((((c::r).length:Nat)):Int)=n at *;by_cases h3:r.length<=3
  .rw [decide_eq_true h3]at e;by_cases ha:(c.toNat:Int)<65
   .have:¬(65<=(c.toNat:Int)):=by omega
    simp only[evz,e,jhO,ha,jdc,upc,inB,this,Bool.false_and]
   .have h65:65<=(c.toNat:Int):=by omega
    by_cases hb:90<(c.toNat:Int)
    .have:¬((c.toNat:Int)<=90):=by omega
     simp only[evz,e,jhO,ha,hb,jdc,upc,inB,this,Bool.false_and,Bool.and_false]
    .have:(c.toNat:Int)<=90:=by omega
     simp only[evz,e,jhO,ha,hb,jdc,upc,inB,this,h65,key,h3,Bool.true_and]
  .rw [decide_eq_false h3]at e;simp only[evz,e,jdc,h3,Bool.and_false]
def jhL(s:Xb):Xa->Option Nat
 | []=>none
 |x::l=>if s=x then some 0 else(jhL s l).map (· + 1)
def jhf(i:Nat):Option Nat->Int
 |none=> -1
 |some k=>((i+k:Nat):Int)
theorem jjT(s:Xb):∀l,(jhL s l).isSome=l.contains s
 | []=>rfl
 |x::l=>by
  simp only[jhL,List.contains_cons];by_cases h:s=x
  .simp [h]
  .have:=jjT s l;simp[h,this]
theorem joI{s:Xb} :∀{l:Xa}{k:Nat},jhL s l=some k->k<l.length/\l[k]? = some s
 | [],_,h=>by cases h
 |x::l,k,h=>by
  simp only[jhL]at h;split at h
  .rename_i e;cases h;exact⟨by simp,by simp[e]⟩
  .obtain ⟨j,h1,rfl⟩:=kV.1 h;have:=joI h1;exact⟨by simp;exact this.1,by simpa using this.2⟩
theorem jxM(s:Xb)(l:Xa):decide (jhf 0 (jhL s l)<0)=!l.contains s:=by
 rw[<-jjT];cases jhL s l<;>simp[jhf]
theorem jse(s:Xb)(l:Xa):decide (0<=jhf 0 (jhL s l))=l.contains s:=by
 rw[<-jjT];cases jhL s l<;>simp[jhf]
theorem jpp{s x:Xb}{l:Xa}{i:Nat}(h:¬s=x):jhf (i+1) (jhL s l)=jhf i (jhL s (x::l)):=by
 simp only[jhL,h,if_false];cases jhL s l<;>simp[jhf];omega
theorem jkG(l:Xa)(s:Xb)(hl:l.length<=9223372036854775807):G 191 [strs l,sv s]=some (vi (jhf 0 (jhL s l)),[]):=by
 have key:=upto (P:=λi=>jrZ (strs l) (sv s) (vi (l.length:Nat)) (vi i)=some (vi (jhf i (jhL s (l.drop i))),[])) (n:=l.length) ?_ ?_ 0 (Nat.zero_le _)
 .simp only[Int.natCast_zero,List.drop_zero]at key;rw[jH5];simp only[evz,key]
 .rw [jz4,List.drop_length];simp only[evz,jhL,jhf]
 .intro i hi ih;have hlt:(i:Int)<((l.length:Nat):Int):=by omega
  have h5:=jef hi hl;rw[jz4,jdb hi];by_cases h:s=l[i]
  .simp only[evz,hlt,jaa hi,h,jhL,jhf,z7]
  .simp only[evz,hlt,jaa hi,h,h5,ih,jpp h]
theorem ji5(l:Xa)(s:Xb)(hl:l.length<=9223372036854775807):G 147 [strs l,sv s]=some (vb (l.contains s),[]):=by
 have e:=jkG l s hl;rw[jHB];simp only[evz,e,jse]
theorem joN(o:Ord')(s:Xb)(hl:o.syms.length<=9223372036854775807):G 211 [od o,sv s]=some (vi (jhf 0 (jhL s o.syms)),[]):=by
 have key:=upto (P:=λi=>jr4 (sv s) (vi i) (strs o.syms) (ints o.ws) (vi o.var)=some (vi (jhf i (jhL s (o.syms.drop i))),[])) (n:=o.syms.length) ?_ ?_ 0 (Nat.zero_le _)
 .simp only[Int.natCast_zero,List.drop_zero]at key;rw[jIc];simp only[evz,key]
 .rw [jAa,List.drop_length];simp only[evz,jhL,jhf]
 .intro i hi ih;have hlt:(i:Int)<((o.syms.length:Nat):Int):=by omega
  have h5:=jef hi hl;rw[jAa,jdb hi];by_cases h:s=o.syms[i]
  .simp only[evz,hlt,jaa hi,h,jhL,jhf,z7]
  .have h':¬o.syms[i]=s:=λe=>h e.symm;simp only[evz,hlt,jaa hi,h',h5,ih,jpp h]
theorem jsm(l:Xa)(s:Xb)(hl:l.length<=9223372036854775807):G 124 [strs l,sv s]=some (vb (l.contains s),[]):=by
 have key:=upto (P:=λi=>jrK (strs l) (sv s) (vi i)=some (vb ((l.drop i).contains s),[])) (n:=l.length) ?_ ?_ 0 (Nat.zero_le _)
 .simp only[Int.natCast_zero,List.drop_zero]at key;rw[jHi];exact key
 .rw [jzN,List.drop_length];simp only[evz,List.contains_nil]
 .intro i hi ih;have hlt:(i:Int)<((l.length:Nat):Int):=by omega
  have h5:=jef hi hl;rw[jzN,jdb hi,List.contains_cons];by_cases h:l[i]=s
  .have:(s == l[i])=true:=by simp[h]
   simp only[evz,hlt,jaa hi,h];simp
  .have:(s == l[i])=false:=by simp;exact λe=>h e.symm
   simp only[evz,hlt,jaa hi,h,this,h5,ih,Bool.false_or]
def juu:Xa:=[[116,114,117,101],[102,97,108,115,101],[116,114,117,116,104],[98,111,116,104],[101,105,116,104,101,114],[105,102],[97,108,108],[115,111,109,101]]
def jsM(c:UInt8):Bool:=jio c || decide ((c.toNat:Int)=95)
def jhu:Xb->Bool
 | []=>false
 |c::r=>jlX c && (r.all jsM && (decide (r.length<=5) && !juu.contains (c::r)))
theorem jBL(a b:Xb):(a == b)=decide (a=b):=by by_cases h:a=b<;>simp[h]
theorem jqt(s:Xb)(hs:s.length<=9223372036854775807):∀i,i<=s.length->1<=i->joY (sv s) (vi (s.length:Nat)) (vi i)=some (vb ((s.drop i).all jsM && (inB 1 6 (s.length:Nat) && !juu.contains s)),[]):=by
 refine upto (P:=λi=>1<=i->joY (sv s) (vi (s.length:Nat)) (vi i)=some (vb ((s.drop i).all jsM && (inB 1 6 (s.length:Nat) && !juu.contains s)),[])) ?_ ?_
 .intro _;rw[jsh,List.drop_length];have e:=jiF (s.length:Nat) 1 6;have e2:=ji5 juu s (by decide);have e3:G 190 []=some (strs juu,[]):=jH4;cases h:inB 1 6 (s.length:Nat)<;>rw[h]at e<;>simp only[evz,e,e2,e3,Bool.true_and,Bool.false_and]
 .intro i hi ih h1;have ih:=ih (by omega);have hn:¬((i:Int)=0):=by omega
  have hlt:(i:Int)<((s.length:Nat):Int):=by omega
  have h5:=jef hi hs;have hx:=ji3 hi;have e1:=jmf s[i];have e2:=jpt s[i];rw[jsh,jdb hi];generalize s[i]=ch at *;rw[jbq];cases h7:decide ((ch.toNat:Int)=95)<;>cases h8:jlX ch<;>cases h9:jxL ch<;>rw[h8]at e1<;>rw[h9]at e2<;>
   simp only[evz,hn,hlt,hx,e1,e2,h5,ih,jsM,jio,h7,h8,h9,Bool.true_and,Bool.false_and,Bool.or_true,Bool.or_false]
theorem jlj(s:Xb)(hs:s.length<=9223372036854775807):G 146 [sv s]=some (vb (jhu s),[]):=by
 rw[jHA];show(jd8 (sv s)).bind _=_;rw[jlv,Option.bind_some];cases s with
 |nil=>
  rw[jsh];have e:G 54 [vi ((0:Nat):Int),vi 1,vi 6]=some (vb false,[]):=jiF ((0:Nat):Int) 1 6;simp only[evz,e];rfl
 |cons c r=>
  have key:=jqt (c::r) hs 1 (by simp) (jl _);simp only[List.drop_succ_cons,List.drop_zero]at key;have e':inB 1 6 (((c::r).length:Nat):Int)=decide (r.length<=5):=joJ r 5 (by decide);rw[e']at key;rw[jsh];have h5:jeH .add false (vi 0) (vi 1)=some (vi ((1:Nat):Int)):=by rw[jiM,jeY (by decide) (by decide)];rfl
  have h6:(0:Int)<(((c::r).length:Nat):Int):=Int.natCast_pos.2 (Nat.succ_pos _);have e1:=jmf c;generalize ((((c::r).length:Nat)):Int)=n at *;cases hu:jlX c<;>rw[hu]at e1<;>simp only[evz,h6,jhO,e1,h5,key,jhu,hu,Bool.true_and,Bool.false_and]
theorem jqv(s:Xb)(hs:s.length<=9223372036854775807):∀i,i<=s.length->jkd (sv s) (vi i)=some (vb ((s.drop i).all jsM),[]):=by
 refine upto (P:=λi=>jkd (sv s) (vi i)=some (vb ((s.drop i).all jsM),[])) ?_ ?_
 .rw [jDQ,List.drop_length];simp only[evz]
 .intro i hi ih;have hlt:(i:Int)<((s.length:Nat):Int):=by omega
  have h5:=jef hi hs;have hx:=ji3 hi;have e1:=jpD s[i];rw[jDQ,jdb hi];generalize s[i]=ch at *;rw[jbq];cases h7:decide ((ch.toNat:Int)=95)<;>cases h8:jio ch<;>rw[h8]at e1<;>simp only[evz,hlt,hx,e1,h5,ih,jsM,h7,h8,Bool.true_and,Bool.false_and,Bool.or_true,Bool.or_false]
theorem jjW(s:Xb)(hs:s.length<=9223372036854775807):G 90 [sv s]=some (vb (jhu s),[]):=by
 rw[g90];show(jd8 (sv s)).bind _=_;rw[jlv,Option.bind_some];cases s with
 |nil=>
  have e:G 23 [vi ((0:Nat):Int),vi 1,vi 6]=some (vb false,[]):=jhz ((0:Nat):Int) 1 6;simp only[evz,e];rfl
 |cons c r=>
  have e:=jhz (((c::r).length:Nat):Int) 1 6;have e':inB 1 6 (((c::r).length:Nat):Int)=decide (r.length<=5):=joJ r 5 (by decide);rw[e']at e;have key:=jqv (c::r) hs 1 (by simp);simp only[List.drop_succ_cons,List.drop_zero]at key;have key:jkd (sv (c::r)) (vi 1)=some (vb (r.all jsM),[]):=key;generalize ((((c::r).length:Nat)):Int)=n at *;have hres:juu.contains (c::r)=(decide (c::r=[116,114,117,101]) || (decide (c::r=[102,97,108,115,101]) || (decide (c::r=[116,114,117,116,104]) || (decide (c::r=[98,111,116,104]) || (decide (c::r=[101,105,116,104,101,114]) || (decide (c::r=[105,102]) || (decide (c::r=[97,108,108]) || decide (c::r=[115,111,109,101])))))))):=by
   simp only[juu,List.contains_cons,List.contains_nil,Bool.or_false,jBL]
  by_cases h3:r.length<=5
  .rw [decide_eq_true h3]at e;by_cases ha:(c.toNat:Int)<97
   .have:¬(97<=(c.toNat:Int)):=by omega
    simp only[evz,e,jhO,ha,jhu,jlX,inB,this,Bool.false_and]
   .have h65:97<=(c.toNat:Int):=by omega
    by_cases hb:122<(c.toNat:Int)
    .have:¬((c.toNat:Int)<=122):=by omega
     simp only[evz,e,jhO,ha,hb,jhu,jlX,inB,this,Bool.false_and,Bool.and_false]
    .have h122:(c.toNat:Int)<=122:=by omega
     have e0:jhu (c::r)=(r.all jsM && !juu.contains (c::r)):=by
      simp[jhu,jlX,inB,h65,h122,h3]
     rw[e0,hres];have hx0:=jhO (c:=c) (l:=r);clear hres e0;generalize c::r=s at *;cases q0:decide (s=[116,114,117,101]);rotate_left
     .simp only[evz,e,hx0,ha,hb,q0,Bool.true_or,Bool.and_false]
     cases q1:decide (s=[102,97,108,115,101]);rotate_left
     .simp only[evz,e,hx0,ha,hb,q0,q1,Bool.true_or,Bool.false_or,Bool.and_false]
     cases q2:decide (s=[116,114,117,116,104]);rotate_left
     .simp only[evz,e,hx0,ha,hb,q0,q1,q2,Bool.true_or,Bool.false_or,Bool.and_false]
     cases q3:decide (s=[98,111,116,104]);rotate_left
     .simp only[evz,e,hx0,ha,hb,q0,q1,q2,q3,Bool.true_or,Bool.false_or,Bool.and_false]
     cases q4:decide (s=[101,105,116,104,101,114]);rotate_left
     .simp only[evz,e,hx0,ha,hb,q0,q1,q2,q3,q4,Bool.true_or,Bool.false_or,Bool.and_false]
     cases q5:decide (s=[105,102]);rotate_left
     .simp only[evz,e,hx0,ha,hb,q0,q1,q2,q3,q4,q5,Bool.true_or,Bool.false_or,Bool.and_false]
     cases q6:decide (s=[97,108,108]);rotate_left
     .simp only[evz,e,hx0,ha,hb,q0,q1,q2,q3,q4,q5,q6,Bool.true_or,Bool.false_or,Bool.and_false]
     cases q7:decide (s=[115,111,109,101]);rotate_left
     .simp only[evz,e,hx0,ha,hb,q0,q1,q2,q3,q4,q5,q6,q7,Bool.false_or,Bool.and_false]
     simp only[evz,e,hx0,ha,hb,q0,q1,q2,q3,q4,q5,q6,q7,Bool.or_false,key]
  .rw [decide_eq_false h3]at e;simp only[evz,e,jhu,h3,Bool.false_and,Bool.and_false]
mutual
def nodes:T->Nat
 |.mk _ us=>1+jdi us
def jdi:Xg->Nat
 | []=>0
 |t::ts=>nodes t+jdi ts
end
theorem jfj(t:T):nodes t=1+jdi t.args:=by cases t;rfl
mutual
def dep:T->Nat
 |.mk _ us=>1+jj4 us
def jj4:Xg->Nat
 | []=>0
 |t::ts=>max (dep t) (jj4 ts)
end
theorem jjz(t:T):dep t=1+jj4 t.args:=by cases t;rfl
mutual
def okT:T->Bool
 |.mk n us=>if jdc n then us.isEmpty else jhu n && (decide (us.length<=4) && jm6 us)
def jm6:Xg->Bool
 | []=>true
 |t::ts=>okT t && jm6 ts
end
theorem jhp(t:T):okT t=if jdc t.name then t.args.isEmpty else jhu t.name && (decide (t.args.length<=4) && jm6 t.args):=by cases t;rfl
theorem jiu:∀ts,jm6 ts=ts.all okT
 | []=>rfl
 |t::ts=>by rw[jm6,jiu ts,jbq]
theorem jhM:∀t:T,nodes t<=1+tsz t:=by
 refine T.ind λt ih=>?_;have:∀ts:Xg,(∀u∈ts,nodes u<=1+tsz u)->jdi ts<=ts.length+jhv ts:=by
  intro ts;induction ts with
  |nil=>intro _;simp[jdi]
  |cons u us ih=>
   intro h;have h1:=h u (by simp);have h2:=ih λv hv=>h v (by simp[hv]);simp only[jdi,jhv,yv];omega
 have h:=this t.args ih;rw[jfj,jgG];omega
theorem jhN(t:T):1<=nodes t:=by rw[jfj];omega
theorem jhU{ts:Xg}{t:T}(h:t∈ts):nodes t<=jdi ts:=by
 induction ts with
 |nil=>cases h
 |cons u us ih=>
  simp only[jdi];rcases yN.1 h with rfl|h
  .omega
  .have:=ih h;omega
theorem jvl:∀t:T,dep t<=nodes t:=by
 refine T.ind λt ih=>?_;have:∀ts:Xg,(∀u∈ts,dep u<=nodes u)->jj4 ts<=jdi ts:=by
  intro ts;induction ts with
  |nil=>intro _;simp[jj4]
  |cons u us ih=>
   intro h;have h1:=h u (by simp);have h2:=ih λv hv=>h v (by simp[hv]);simp only[jdi,jj4];omega
 have h:=this t.args ih;rw[jfj,jjz];omega
theorem jyi(ts:Xg)(hl:ts.length<=9223372036854775807)(hn:jdi ts<=1048577)(ih:∀t∈ts,∃r:Nat,G 144 [tm t]=some (vi r,[])/\r<=nodes t/\(nodes t<=30->r=nodes t)/\(30<nodes t->30<r)) :
  ∀i,i<=ts.length-> ∀a:Nat,a+jdi (ts.drop i)<=1048578-> ∃r:Nat,jrQ (vi a) (tms ts) (vi (ts.length:Nat)) (vi i)=some (vi r,[])/\r<=a+jdi (ts.drop i)/\(a+jdi (ts.drop i)<=30->r=a+jdi (ts.drop i))/\(30<a+jdi (ts.drop i)->30<r):=by
 refine upto ?_ ?_
 .intro a ha;rw[jvw,List.drop_length];simp only[evz,jdi,z7];exact⟨a,rfl,jl _,λ_=>rfl,λh=>h⟩
 .intro i hi ih' a ha;have hlt:(i:Int)<((ts.length:Nat):Int):=by omega
  have h5:=jef hi hl;rw[jdb hi]at ha⊢;simp only[jdi]at ha⊢;obtain⟨r1,e1,b1,b2,b3⟩:=ih ts[i] (jcF _);by_cases hc:(30:Int)<(a:Int)
  .refine ⟨a,?_,by omega,by omega,by omega⟩;rw[jvw];simp only[evz,hlt,jaa hi,ja1,hc]
  .have hk:ck ((a:Int)+(r1:Int))=some (vi ((a+r1:Nat):Int)):=by rw[jeY (by omega) (by omega)];rfl
   obtain⟨r2,e2,c1,c2,c3⟩:=ih' (a+r1) (by omega);refine⟨r2,?_,by omega,by omega,by omega⟩;rw[jvw];simp only[evz,hlt,jaa hi,ja1,hc,e1,hk,h5,e2]
theorem size_eq:∀t:T,twf t->tsz t<=1048576-> ∃r:Nat,G 144 [tm t]=some (vi r,[])/\r<=nodes t/\(nodes t<=30->r=nodes t)/\(30<nodes t->30<r):=by
 refine T.ind λt ih hw hs=>?_;obtain⟨w1,w2,w3⟩:=(jgM t).1 hw;have w3:=(jgz _).1 w3;have hn:=jhM t;rw[jfj]at hn;rw[jgG]at hs;obtain⟨r,h1,h2,h3,h4⟩:=jyi t.args w2 (by rw[jgG]at hn;omega) (λu hu=>ih u hu (w3 u hu) (by have:=jhq hu;omega)) 0 (Nat.zero_le _) 1 (by rw[jgG]at hn;simp;omega);simp only[List.drop_zero,Int.natCast_zero,Int.natCast_one]at h1 h2 h3 h4;refine⟨r,?_,by rw[jfj];exact h2,by rw[jfj];exact h3,by rw[jfj];exact h4⟩;rw[jHy];simp only[evz,h1]
theorem jx0(n:Xb)(most:Int)(hm1: -1048600<=most)(hm:most<=1048576)(ts:Xg)(hl:ts.length<=9223372036854775807)(ih:∀t∈ts,∀m:Int,-1048600<=m->m<=1048576-> ∃r:Nat,G 126 [tm t,vi m]=some (vi r,[])/\1<=r/\r<=nodes t/\((nodes t:Int)<=m->r=nodes t)/\(m<nodes t->m<r)) :
  ∀i,i<=ts.length-> ∀a:Nat,1<=a->a+jdi (ts.drop i)<=1048578-> ∃r:Nat,jrL (vi most) (vi a) (vi i) (sv n) (tms ts)=some (vi r,[])/\1<=r/\r<=a+jdi (ts.drop i)/\(((a+jdi (ts.drop i):Nat):Int)<=most->r=a+jdi (ts.drop i))/\(most<((a+jdi (ts.drop i):Nat):Int)->most<r):=by
 refine upto ?_ ?_
 .intro a h1 ha;rw[jvt,List.drop_length];simp only[evz,jdi,z7];exact⟨a,rfl,h1,jl _,λ_=>rfl,λh=>h⟩
 .intro i hi ih' a h1 ha;have hlt:(i:Int)<((ts.length:Nat):Int):=by omega
  have h5:=jef hi hl;rw[jdb hi]at ha⊢;simp only[jdi]at ha⊢;by_cases hc:(a:Int)<=most
  .obtain ⟨r1,e1,b0,b1,b2,b3⟩:=ih ts[i] (jcF _) (most-a) (by omega) (by omega);have hk0:ck (most-(a:Int))=some (vi (most-a)):=jeY (by omega) (by omega);have hk:ck ((a:Int)+(r1:Int))=some (vi ((a+r1:Nat):Int)):=by rw[jeY (by omega) (by omega)];rfl
   obtain⟨r2,e2,c0,c1,c2,c3⟩:=ih' (a+r1) (by omega) (by omega);refine⟨r2,?_,by omega,by omega,by omega,by omega⟩;rw[jvt];simp only[evz,hlt,jaa hi,ja1,hc,hk0,e1,hk,h5,e2]
  .refine ⟨a,?_,h1,by omega,by omega,by omega⟩;rw[jvt];simp only[evz,hlt,hc]
theorem jCI:∀t:T,twf t->tsz t<=1048576-> ∀m:Int,-1048600<=m->m<=1048576-> ∃r:Nat,G 126 [tm t,vi m]=some (vi r,[])/\1<=r/\r<=nodes t/\((nodes t:Int)<=m->r=nodes t)/\(m<nodes t->m<r):=by
 refine T.ind λt ih hw hs m hm1 hm=>?_;obtain⟨w1,w2,w3⟩:=(jgM t).1 hw;have w3:=(jgz _).1 w3;have hn:=jhM t;rw[jfj]at hn;obtain⟨r,h1,h0,h2,h3,h4⟩:=jx0 t.name m hm1 hm t.args w2 (λu hu m h1 h2=>ih u hu (w3 u hu) (by have:=jhq hu;rw[jgG]at hs;omega) m h1 h2) 0 (Nat.zero_le _) 1 (jl _) (by simp;omega);simp only[List.drop_zero,Int.natCast_zero,Int.natCast_one]at h1 h2 h3 h4;refine⟨r,?_,h0,by rw[jfj];exact h2,by rw[jfj];exact h3,by rw[jfj];exact h4⟩;rw[jHk];simp only[evz,h1]
theorem jvm(ts:Xg)(hl:ts.length<=9223372036854775807)(hn:jdi ts<=1048577)(ih:∀t∈ts,G 145 [tm t]=some (vi (dep t:Nat),[])) :
  ∀i,i<=ts.length-> ∀a:Nat,a<=1048577->jrR (vi a) (tms ts) (vi (ts.length:Nat)) (vi i)=some (vi ((max a (jj4 (ts.drop i))+1:Nat):Int),[]):=by
 refine upto ?_ ?_
 .intro a ha;have hk:ck ((a:Int)+1)=some (vi ((a+1:Nat):Int)):=by rw[jeY (by omega) (by omega)];rfl
  rw[jzS,List.drop_length];simp only[evz,jj4,hk,Nat.max_zero]
 .intro i hi ih' a ha;have hlt:(i:Int)<((ts.length:Nat):Int):=by omega
  have h5:=jef hi hl;have e1:=ih ts[i] (jcF _);have hd:dep ts[i]<=1048577:=ZD (jvl _) (ZD (jhU (jcF hi)) hn);have hmx:(if(a:Int)<((dep ts[i]:Nat):Int)then((dep ts[i]:Nat):Int)else(a:Int))=((max a (dep ts[i]):Nat):Int):=by split<;>omega
  have ih':=ih' (max a (dep ts[i])) (by omega);rw[jzS,jdb hi];simp only[evz,hlt,jaa hi,ja1,e1,hmx,h5,ih',jj4,Nat.max_assoc]
theorem jzf:∀t:T,twf t->tsz t<=1048576->G 145 [tm t]=some (vi (dep t:Nat),[]):=by
 refine T.ind λt ih hw hs=>?_;obtain⟨w1,w2,w3⟩:=(jgM t).1 hw;have w3:=(jgz _).1 w3;have hn:=jhM t;rw[jfj]at hn;have h1:=jvm t.args w2 (by omega) (λu hu=>ih u hu (w3 u hu) (by have:=jhq hu;rw[jgG]at hs;omega)) 0 (Nat.zero_le _) 0 (by omega);simp only[List.drop_zero,Int.natCast_zero,Nat.zero_max]at h1;rw[jHz,jjz,Nat.add_comm];simp only[evz,h1]
theorem jCJ(a b:Nat):G 172 [vi a,vi b]=some (vi ((max a b:Nat):Int),[]):=by
 rw[jHS];by_cases h:(b:Int)<(a:Int)
 .simp only[evz,h];rw[Nat.max_eq_left (by omega)]
 .simp only[evz,h];rw[Nat.max_eq_right (by omega)]
theorem jsl(n:Xb)(ts:Xg)(hl:ts.length<=9223372036854775807)(hn:jdi ts<=1048577)(ih:∀t∈ts,G 127 [tm t]=some (vi (dep t:Nat),[])) :
  ∀i,i<=ts.length-> ∀a:Nat,a<=1048577->jrM (vi a) (vi i) (sv n) (tms ts)=some (vi ((max a (jj4 (ts.drop i))+1:Nat):Int),[]):=by
 refine upto ?_ ?_
 .intro a ha;have hk:ck ((a:Int)+1)=some (vi ((a+1:Nat):Int)):=by rw[jeY (by omega) (by omega)];rfl
  rw[jzO,List.drop_length];simp only[evz,jj4,hk,Nat.max_zero]
 .intro i hi ih' a ha;have hlt:(i:Int)<((ts.length:Nat):Int):=by omega
  have h5:=jef hi hl;have e1:=ih ts[i] (jcF _);have e2:=jCJ a (dep ts[i]);have hd:dep ts[i]<=1048577:=ZD (jvl _) (ZD (jhU (jcF hi)) hn);have ih':=ih' (max a (dep ts[i])) (by omega);rw[jzO,jdb hi];simp only[evz,hlt,jaa hi,ja1,e1,e2,h5,ih',jj4,Nat.max_assoc]
theorem jvy:∀t:T,twf t->tsz t<=1048576->G 127 [tm t]=some (vi (dep t:Nat),[]):=by
 refine T.ind λt ih hw hs=>?_;obtain⟨w1,w2,w3⟩:=(jgM t).1 hw;have w3:=(jgz _).1 w3;have hn:=jhM t;rw[jfj]at hn;have h1:=jsl t.name t.args w2 (by omega) (λu hu=>ih u hu (w3 u hu) (by have:=jhq hu;rw[jgG]at hs;omega)) 0 (Nat.zero_le _) 0 (by omega);simp only[List.drop_zero,Int.natCast_zero,Nat.zero_max]at h1;rw[jHl,jjz,Nat.add_comm];simp only[evz,h1]
def jfs(t:T):Bool:=decide (nodes t<=30) && decide (dep t<=8)
def jgQ(t:T):Bool:=jfs t && okT t
theorem jmh(t:T)(hw:twf t)(hs:tsz t<=1048576):G 102 [tm t]=some (vb (jfs t),[]):=by
 obtain⟨r,h1,h2,h3,h4⟩:=size_eq t hw hs;have hd:=jzf t hw hs;rw[jG5];by_cases h:nodes t<=30
 .have:(r:Int)<=30:=by have:=h3 h;omega
  have e:decide (((dep t:Nat):Int)<=8)=decide (dep t<=8):=by congr 1;exact propext (by omega)
  simp only[evz,h1,hd,this,jfs,h,e,Bool.true_and]
 .have:¬(r:Int)<=30:=by have:=h4 (by omega);omega
  simp only[evz,h1,this,jfs,h,Bool.false_and]
theorem jqX(t:T)(hw:twf t)(hs:tsz t<=1048576):G 88 [tm t]=some (vb (jfs t),[]):=by
 obtain⟨r,h1,h0,h2,h3,h4⟩:=jCI t hw hs 30 (by decide) (by decide);have hd:=jvy t hw hs;rw[g88];by_cases h:nodes t<=30
 .have:(r:Int)<=30:=by have:=h3 (by omega);omega
  have e:decide (((dep t:Nat):Int)<=8)=decide (dep t<=8):=by congr 1;exact propext (by omega)
  simp only[evz,h1,hd,this,jfs,h,e,Bool.true_and]
 .have:¬(r:Int)<=30:=by have:=h4 (by omega);omega
  simp only[evz,h1,this,jfs,h,Bool.false_and]
theorem jom{f:FuncId}{caps:Xd}(hsig:K.pureF f=true)(p:T->Bool)(ts:Xg)(hl:ts.length<=9223372036854775807)(h:∀t∈ts,G f (tm t::caps)=some (vb (p t),[])) :
  ∃r:Int,G 233 [tms ts,.fn f caps]=some (vi r,[])/\decide (0<=r)=ts.any p:=by
 have key:=upto (P:=λi=>∃r:Int,jr5 (tms ts) (.fn f caps) (vi (ts.length:Nat)) (vi i)=some (vi r,[])/\decide (0<=r)=(ts.drop i).any p) (n:=ts.length) ?_ ?_ 0 (Nat.zero_le _)
 .obtain ⟨r,h1,h2⟩:=key;simp only[Int.natCast_zero,List.drop_zero]at h1 h2;refine⟨r,?_,h2⟩;rw[jIg];simp only[evz,h1]
 .refine ⟨-1,?_,by simp⟩;rw[jAc];simp only[evz]
 .intro i hi ih;obtain⟨r,h1,h2⟩:=ih;have hlt:(i:Int)<((ts.length:Nat):Int):=by omega
  have h5:=jef hi hl;have e1:=h ts[i] (jcF _);rw[jAc,jdb hi,List.any_cons];cases hp:p ts[i]<;>rw[hp]at e1
  .refine ⟨r,?_,by rw[h2,Bool.false_or]⟩;simp only[evz,hlt,jaa hi,ja1,jir hsig,jG,zx,e1,h5,h1]
  .refine ⟨i,?_,by simp⟩;simp only[evz,hlt,jaa hi,ja1,jir hsig,jG,zx,e1]
theorem jpl{f:FuncId}{caps:Xd}(hsig:K.pureF f=true)(p:T->Bool)(ts:Xg)(hl:ts.length<=9223372036854775807)(h:∀t∈ts,G f (tm t::caps)=some (vb (p t),[])) :
  G 213 [tms ts,.fn f caps]=some (vb (ts.any p),[]):=by
 obtain⟨r,h1,h2⟩:=jom hsig p ts hl h;rw[jIe];simp only[evz,h1,h2]
theorem jtj(p:T->Bool)(ts:Xg):(ts.any λt=> !p t)=!ts.all p:=by
 induction ts with
 |nil=>rfl
 |cons t ts ih=>rw[List.any_cons,jbq,ih];cases p t<;>rfl
theorem jli:∀t:T,twf t->G 173 [tm t]=some (vb (okT t),[]):=by
 refine T.ind λt ih hw=>?_;obtain⟨w1,w2,w3⟩:=(jgM t).1 hw;have w3:=(jgz _).1 w3;have e1:=jl3 t.name w1;have e2:=jlj t.name w1;have e3:=jpl (f:=214) (caps:=[]) rfl (λu=> !okT u) t.args w2 (λu hu=>by
  have:=ih u hu (w3 u hu);rw[jIf];simp only[evz,this])
 rw[jtj,<-jiu]at e3;rw[jHT,jhp];have e4:decide (((t.args.length:Nat):Int)=0)=t.args.isEmpty:=by cases t.args<;>simp;omega
 have e5:decide (((t.args.length:Nat):Int)<=4)=decide (t.args.length<=4):=by congr 1;exact propext (by omega)
 cases hv:jdc t.name<;>rw[hv]at e1
 .cases hy:jhu t.name<;>rw[hy]at e2
  .simp only[evz,e1,e2,Bool.false_and]
  .cases ha:decide (t.args.length<=4)<;>rw[ha]at e5
   .simp only[evz,e1,e2,e5,Bool.false_and,Bool.true_and]
   .simp only[evz,e1,e2,e5,e3,Bool.true_and,Bool.not_not]
 .simp only[evz,e1,e4]
theorem jmk:∀t:T,twf t->G 89 [tm t]=some (vb (okT t),[]):=by
 refine T.ind λt ih hw=>?_;obtain⟨w1,w2,w3⟩:=(jgM t).1 hw;have w3:=(jgz _).1 w3;have e1:=jg8 t.name w1;have e2:=jjW t.name w1;have key:=upto (P:=λi=>jwt (vi i) (sv t.name) (tms t.args)=some (vb (jm6 (t.args.drop i)),[])) (n:=t.args.length) ?_ ?_ 0 (Nat.zero_le _)
 .simp only[Int.natCast_zero,List.drop_zero]at key;rw[g89,jhp];have e4:decide (((t.args.length:Nat):Int)=0)=t.args.isEmpty:=by cases t.args<;>simp;omega
  cases hv:jdc t.name<;>rw[hv]at e1
  .cases hy:jhu t.name<;>rw[hy]at e2
   .simp only[evz,e1,e2,Bool.false_and]
   .by_cases ha:4<((t.args.length:Nat):Int)
    .have:¬t.args.length<=4:=by omega
     simp only[evz,e1,e2,ha,this,Bool.false_and,Bool.and_false]
    .have:t.args.length<=4:=by omega
     simp only[evz,e1,e2,ha,this,key,Bool.true_and]
  .simp only[evz,e1,e4]
 .rw [jDP,List.drop_length];simp only[evz,jm6]
 .intro i hi ih';have hlt:(i:Int)<((t.args.length:Nat):Int):=by omega
  have h5:=jef hi w2;have e3:=ih t.args[i] (jcF _) (w3 _ (jcF _));rw[jDP,jdb hi,jm6];cases hp:okT t.args[i]<;>rw[hp]at e3
  .simp only[evz,hlt,jaa hi,ja1,e3,Bool.false_and]
  .simp only[evz,hlt,jaa hi,ja1,e3,h5,ih',Bool.true_and]
theorem jlk(t:T)(hw:twf t)(hs:tsz t<=1048576):G 174 [tm t]=some (vb (jgQ t),[]):=by
 have e1:=jmh t hw hs;have e2:=jli t hw;rw[jHU,jgQ];cases h:jfs t<;>rw[h]at e1<;>simp only[evz,e1,e2,Bool.true_and,Bool.false_and]
theorem jiX(t:T)(hw:twf t)(hs:tsz t<=1048576):G 70 [tm t]=some (vb (jgQ t),[]):=by
 have e1:=jqX t hw hs;have e2:=jmk t hw;rw[g70,jgQ];cases h:jfs t<;>rw[h]at e1<;>simp only[evz,e1,e2,Bool.true_and,Bool.false_and]
theorem jiv{xs:Xi}{i:Nat}(h:i<xs.length):jda 1 (ints xs) (vi i)=some (.elt (ci xs[i]) 0):=jaa h
def jxG(o:Ord')(i:Nat):Bool:=jhu (o.syms.getD i []) && (!(o.syms.take i).contains (o.syms.getD i []) && inB o.var 100 (o.ws.getD i 0))
def jhr(o:Ord'):Bool:=inB 1 12 (o.syms.length:Nat) && (decide (o.ws.length=o.syms.length) && (inB 1 100 o.var && (List.range o.syms.length).all (jxG o)))
theorem jvL{n i:Nat}(h:i<n):(List.range n).drop i=i::(List.range n).drop (i+1):=by
 have h':i<(List.range n).length:=by simpa using h
 rw[List.drop_eq_getElem_cons h',List.getElem_range]
theorem jtT(o:Ord')(hw:owf o)(hl:o.ws.length=o.syms.length):∀i,i<=o.syms.length->jrJ (vi i) (strs o.syms) (ints o.ws) (vi o.var)=some (vb (((List.range o.syms.length).drop i).all (jxG o)),[]):=by
 refine upto ?_ ?_
 .rw [jzM,List.drop_of_length_le (by simp)];simp only[evz]
 .intro i hi ih;have hlt:(i:Int)<((o.syms.length:Nat):Int):=by omega
  have hi2:i<o.ws.length:=by omega
  have h5:=jef hi hw.1.2;have hs:=hw.1.1 o.syms[i] (jcF _);have e1:=jjW o.syms[i] hs;have hsl:J2 1 (strs o.syms) none (some (vi i))=some (strs (o.syms.take i)):=by rw[jiD (by simp;omega),<-List.map_take]
  have e2:=jsm (o.syms.take i) o.syms[i] (by rw[List.length_take];exact ZD (Nat.min_le_right _ _) hw.1.2)
  have e3:=jhz o.ws[i] o.var 100;have hc:jxG o i=(jhu o.syms[i] && (!(o.syms.take i).contains o.syms[i] && inB o.var 100 o.ws[i])):=by simp[jxG,jK,hi,hi2]
  rw[jzM,jvL hi,jbq,hc];cases h1:jhu o.syms[i]<;>rw[h1]at e1
  .simp only[evz,hlt,jaa hi,e1,Bool.false_and]
  .cases h2:(o.syms.take i).contains o.syms[i]<;>rw[h2]at e2
   .cases h3:inB o.var 100 o.ws[i]<;>rw[h3]at e3
    .simp only[evz,hlt,jaa hi,jiv hi2,e1,hsl,e2,e3,Bool.false_and,Bool.true_and]
    .simp only[evz,hlt,jaa hi,jiv hi2,e1,hsl,e2,e3,h5,ih,Bool.true_and]
   .simp only[evz,hlt,jaa hi,e1,hsl,e2,Bool.false_and,Bool.true_and]
theorem jxV(o:Ord')(hw:owf o):G 120 [od o]=some (vb (jhr o),[]):=by
 have e1:=jhz (o.syms.length:Nat) 1 12;have e2:=jhz o.var 1 100;rw[jHe,jhr];cases h1:inB 1 12 (o.syms.length:Nat)<;>rw[h1]at e1
 .simp only[evz,e1,Bool.false_and]
 .by_cases h2:o.ws.length=o.syms.length
  .have h2':((o.ws.length:Nat):Int)=((o.syms.length:Nat):Int):=by rw[h2]
   have key:=jtT o hw h2 0 (Nat.zero_le _);simp only[Int.natCast_zero,List.drop_zero]at key;cases h3:inB 1 100 o.var<;>rw[h3]at e2
   .simp only[evz,e1,h2',e2,Bool.false_and,Bool.and_false]
   .simp only[evz,e1,h2,e2,key,Bool.true_and]
  .have h2':¬((o.ws.length:Nat):Int)=((o.syms.length:Nat):Int):=by omega
   simp only[evz,e1,h2',h2,Bool.false_and,Bool.true_and]
mutual
def jiP(l:Xa):T->Bool
 |.mk n us=>(jdc n || l.contains n) && jjy l us
def jjy(l:Xa):Xg->Bool
 | []=>true
 |t::ts=>jiP l t && jjy l ts
end
theorem jiw(l:Xa)(t:T):jiP l t=((jdc t.name || l.contains t.name) && jjy l t.args):=by cases t;rfl
theorem jki(l:Xa):∀ts,jjy l ts=ts.all (jiP l)
 | []=>rfl
 |t::ts=>by rw[jjy,jki l ts,jbq]
theorem jgW{t:T}(h:okT t=true):∀u∈t.args,okT u=true:=by
 rw[jhp]at h;intro u hu;split at h
 .rw [List.isEmpty_iff.1 h]at hu;cases hu
 .simp only[Yn]at h;rw[jiu]at h;exact jE.1 h.2.2 u hu
theorem jt0{t:T}(h:okT t=true):∃c r,t.name=c::r/\jdc t.name=upc c/\(upc c=false->jhu t.name=true):=by
 rw[jhp]at h;cases hn:t.name with
 |nil=>rw[hn]at h;simp[jdc,jhu]at h
 |cons c r=>
  refine⟨c,r,rfl,?_,?_⟩
  .rw [hn]at h;cases hu:upc c with
   |false=>simp[jdc,hu]
   |true=>
    cases hv:jdc (c::r)with
    |true=>rfl
    |false=>
     rw[hv]at h;have:jlX c=false:=by
      simp only[upc,inB,jlX,Yn,Q5]at hu⊢;have:¬(97<=(c.toNat:Int)):=by omega
      simp[this]
     simp[jhu,this]at h
  .intro hu;rw[hn]at h;have:jdc (c::r)=false:=by simp[jdc,hu]
   rw[this]at h;simp at h;exact h.1
theorem jll(t:T)(h:okT t=true):G 58 [tm t]=some (vb (jdc t.name),[]):=by
 obtain⟨c,r,hn,hv,_⟩:=jt0 h;have e1:=jmi c;rw[<-hv]at e1;rw[g58];have hx:YM (sv t.name) (vi 0)=some (vy (c.toNat:Int)):=by rw[hn];exact jhO
 simp only[evz,hx,e1]
theorem jtS(o:Ord')(ho:o.syms.length<=9223372036854775807):∀t:T,twf t->G 167 [od o,tm t]=some (vb (jiP o.syms t),[]):=by
 refine T.ind λt ih hw=>?_;obtain⟨w1,w2,w3⟩:=(jgM t).1 hw;have w3:=(jgz _).1 w3;have e1:=jg8 t.name w1;have e2:=joN o t.name ho;have e2':=jxM t.name o.syms;have key:=upto (P:=λi=>jrW (vi i) (strs o.syms) (ints o.ws) (vi o.var) (sv t.name) (tms t.args)=some (vb (jjy o.syms (t.args.drop i)),[])) (n:=t.args.length) ?_ ?_ 0 (Nat.zero_le _)
 .simp only[Int.natCast_zero,List.drop_zero]at key;rw[jHN,jiw];cases hv:jdc t.name<;>rw[hv]at e1
  .cases hc:o.syms.contains t.name<;>rw[hc]at e2'
   .simp only[evz,e1,e2,e2',Bool.false_or,Bool.false_and]
   .simp only[evz,e1,e2,e2',key,Bool.false_or,Bool.true_and]
  .simp only[evz,e1,key,Bool.true_or,Bool.true_and]
 .rw [jzX,List.drop_length];simp only[evz,jjy]
 .intro i hi ih';have hlt:(i:Int)<((t.args.length:Nat):Int):=by omega
  have h5:=jef hi w2;have e3:=ih t.args[i] (jcF _) (w3 _ (jcF _));rw[jzX,jdb hi,jjy];cases hp:jiP o.syms t.args[i]<;>rw[hp]at e3
  .simp only[evz,hlt,jaa hi,ja1,e3,Bool.false_and]
  .simp only[evz,hlt,jaa hi,ja1,e3,h5,ih',Bool.true_and]
def good(o:Ord')(t:T):Bool:=jgQ t && jiP o.syms t
theorem jq1(o:Ord')(t:T)(ho:o.syms.length<=9223372036854775807)(hw:twf t)(hs:tsz t<=1048576):G 121 [od o,tm t]=some (vb (good o t),[]):=by
 have e1:=jiX t hw hs;have e2:=jtS o ho t hw;rw[jHf,good];cases h:jgQ t<;>rw[h]at e1<;>simp only[evz,e1,e2,Bool.true_and,Bool.false_and]
def joy(o:Ord')(n:Xb):Int:=match jhL n o.syms with|some k=>o.ws.getD k 0|none=>0
mutual
def wt(o:Ord'):T->Int
 |.mk n us=>(if jdc n then o.var else joy o n)+wtL o us
def wtL(o:Ord'):Xg->Int
 | []=>0
 |t::ts=>wt o t+wtL o ts
end
theorem juY(o:Ord')(t:T):wt o t=(if jdc t.name then o.var else joy o t.name)+wtL o t.args:=by cases t;rfl
theorem jj3{o:Ord'}(h:jhr o=true):o.ws.length=o.syms.length/\1<=o.var/\o.var<=100/\ ∀i,i<o.syms.length->o.var<=o.ws.getD i 0/\o.ws.getD i 0<=100:=by
 simp only[jhr,Yn,Q5,inB]at h;obtain⟨_,h2,⟨h3,h4⟩,h5⟩:=h;refine⟨h2,h3,h4,λi hi=>?_⟩;have:=jE.1 h5 i (by simpa using hi);simp only[jxG,Yn,inB,Q5]at this;exact this.2.2
theorem jmP{o:Ord'}{n:Xb}(h:o.syms.contains n=true):∃k,jhL n o.syms=some k/\k<o.syms.length:=by
 rw[<-jjT]at h;obtain⟨k,hk⟩:=Option.isSome_iff_exists.1 h;exact⟨k,hk,(joI hk).1⟩
theorem jsL{o:Ord'}(hv:jhr o=true){n:Xb}(h:o.syms.contains n=true):jda 1 (ints o.ws) (vi (jhf 0 (jhL n o.syms)))=some (.elt (ci (joy o n)) 0)/\1<=joy o n/\joy o n<=100:=by
 obtain⟨k,hk,hlt⟩:=jmP h;obtain⟨h1,h2,h3,h4⟩:=jj3 hv;have h5:=h4 k hlt;have hlt':k<o.ws.length:=by omega
 have e:joy o n=o.ws[k]:=by simp[joy,hk,jK,hlt']
 rw[hk];have e2:jhf 0 (some k)=((k:Nat):Int):=by simp[jhf]
 rw[e2,jiv hlt',e];have e3:o.ws.getD k 0=o.ws[k]:=by simp[jK,hlt']
 rw[e3]at h5;exact⟨rfl,by omega,by omega⟩
theorem jlE{o:Ord'}(hv:jhr o=true):∀t:T,jiP o.syms t=true->1<=wt o t/\wt o t<=100*nodes t:=by
 refine T.ind λt ih hc=>?_;rw[jiw,Yn]at hc;obtain⟨h1,h2,h3,_⟩:=jj3 hv;have hL:∀ts:Xg,(∀u∈ts,1<=wt o u/\wt o u<=100*nodes u)->0<=wtL o ts/\wtL o ts<=100*jdi ts:=by
  intro ts;induction ts with
  |nil=>intro _;simp[wtL,jdi]
  |cons u us ih=>
   intro h;have a:=h u (by simp);have b:=ih λv hv=>h v (by simp[hv]);simp only[wtL,jdi];omega
 have hb:=hL t.args λu hu=>ih u hu (by
  have:=hc.2;rw[jki]at this;exact jE.1 this u hu)
 rw[juY,jfj];cases hn:jdc t.name with
 |true=>simp only[zv];omega
 |false=>
  have hcn:=hc.1;rw[hn,Bool.false_or]at hcn;have:=(jsL hv hcn).2;simp only[JG,if_false];omega
theorem jkt{o:Ord'}(hv:jhr o=true){ts:Xg}(hc:jjy o.syms ts=true):0<=wtL o ts/\wtL o ts<=100*jdi ts:=by
 induction ts with
 |nil=>simp[wtL,jdi]
 |cons u us ih=>
  simp only[jjy,Yn]at hc;have a:=jlE hv u hc.1;have b:=ih hc.2;simp only[wtL,jdi];omega
theorem jpn{l:Xa}{ts:Xg}(h:jjy l ts=true)(i:Nat):jjy l (ts.drop i)=true:=by
 rw[jki]at h⊢;exact jE.2 λu hu=>jE.1 h u (List.mem_of_mem_drop hu)
theorem jiz{l:Xa}{ts:Xg}(h:jjy l ts=true){u:T}(hu:u∈ts):jiP l u=true:=by
 rw[jki]at h;exact jE.1 h u hu
theorem jtX(ts:Xg)(i:Nat):jdi (ts.drop i)<=jdi ts:=by
 induction ts generalizing i with
 |nil=>simp
 |cons u us ih=>
  cases i with
  |zero=>simp
  |succ i=>have:=ih i;simp only[List.drop_succ_cons,jdi];omega
theorem juW{o:Ord'}(hv:jhr o=true)(ts:Xg)(hl:ts.length<=9223372036854775807)(hn:jdi ts<=1048577)(hc:jjy o.syms ts=true)(ih:∀t∈ts,G 206 [od o,tm t]=some (vi (wt o t),[])) :
  ∀i,i<=ts.length-> ∀a:Int,0<=a->a+wtL o (ts.drop i)<=200000000->jr0 (vi a) (tms ts) (vi (ts.length:Nat)) (vi i) (strs o.syms) (ints o.ws) (vi o.var)=some (vi (a+wtL o (ts.drop i)),[]):=by
 refine upto ?_ ?_
 .intro a ha hb;rw[jz5,List.drop_length];simp only[evz,wtL,Int.add_zero]
 .intro i hi ih' a ha hb;have hlt:(i:Int)<((ts.length:Nat):Int):=by omega
  have h5:=jef hi hl;have e1:=ih ts[i] (jcF _);have b1:=jlE hv ts[i] (jiz hc (jcF _));have b2:=jkt hv (jpn hc (i+1));rw[jdb hi]at hb⊢;simp only[wtL]at hb⊢;have hk:ck (a+wt o ts[i])=some (vi (a+wt o ts[i])):=jeY (by omega) (by omega);have ih':=ih' (a+wt o ts[i]) (by omega) (by omega);rw[jz5];simp only[evz,hlt,jaa hi,ja1,e1,hk,h5,ih',Int.add_assoc]
theorem jry{o:Ord'}(hv:jhr o=true)(ho:o.syms.length<=9223372036854775807):∀t:T,twf t->tsz t<=1048576->okT t=true->jiP o.syms t=true->G 206 [od o,tm t]=some (vi (wt o t),[]):=by
 refine T.ind λt ih hw hs hk hc=>?_;obtain⟨w1,w2,w3⟩:=(jgM t).1 hw;have w3:=(jgz _).1 w3;have e1:=jll t hk;have hb:=jlE hv t hc;have hn:=jhM t;rw[jfj]at hn;rw[jfj]at hb;have hks:=jgW hk;rw[jhp]at hk;rw[jiw,Yn]at hc;rw[juY]at hb⊢;rw[jH8];cases hvn:jdc t.name<;>rw[hvn]at e1 hc hk hb
 .have hcn:=hc.1;rw[Bool.false_or]at hcn;obtain⟨e2,e3,e4⟩:=jsL hv hcn;have e5:=jkG o.syms t.name ho;have hbl:=jkt hv hc.2;have key:=juW hv t.args w2 (by omega) hc.2 (λu hu=>ih u hu (w3 u hu) (by have:=jhq hu;rw[jgG]at hs;omega) (hks u hu) (jiz hc.2 hu)) 0 (Nat.zero_le _) (joy o t.name) (by omega) (by simp only[List.drop_zero];omega);simp only[Int.natCast_zero,List.drop_zero]at key;simp only[evz,e1,e5,e2,key]
 .simp only[zv]at hk;have:t.args=[]:=List.isEmpty_iff.1 hk;rw[this];simp only[evz,e1,wtL,Int.add_zero]
theorem jqw{o:Ord'}(hv:jhr o=true)(n:Xb)(ts:Xg)(hl:ts.length<=9223372036854775807)(hc:jjy o.syms ts=true)(ih:∀t∈ts,G 169 [od o,tm t]=some (vi (wt o t),[])) :
  ∀i,i<=ts.length-> ∀a:Int,0<=a->a+wtL o (ts.drop i)<=200000000->jo0 (vi a) (vi i) (strs o.syms) (ints o.ws) (vi o.var) (sv n) (tms ts)=some (vi (a+wtL o (ts.drop i)),[]):=by
 refine upto ?_ ?_
 .intro a ha hb;rw[jzZ,List.drop_length];simp only[evz,wtL,Int.add_zero]
 .intro i hi ih' a ha hb;have hlt:(i:Int)<((ts.length:Nat):Int):=by omega
  have h5:=jef hi hl;have e1:=ih ts[i] (jcF _);have b1:=jlE hv ts[i] (jiz hc (jcF _));have b2:=jkt hv (jpn hc (i+1));rw[jdb hi]at hb⊢;simp only[wtL]at hb⊢;have hk:ck (a+wt o ts[i])=some (vi (a+wt o ts[i])):=jeY (by omega) (by omega);have ih':=ih' (a+wt o ts[i]) (by omega) (by omega);rw[jzZ];simp only[evz,hlt,jaa hi,ja1,e1,hk,h5,ih',Int.add_assoc]
theorem jn1{o:Ord'}(hv:jhr o=true)(ho:o.syms.length<=9223372036854775807):∀t:T,twf t->tsz t<=1048576->jiP o.syms t=true->G 169 [od o,tm t]=some (vi (wt o t),[]):=by
 refine T.ind λt ih hw hs hc=>?_;obtain⟨w1,w2,w3⟩:=(jgM t).1 hw;have w3:=(jgz _).1 w3;have e1:=jg8 t.name w1;have hb:=jlE hv t hc;have hn:=jhM t;rw[jfj]at hn;rw[jfj]at hb;obtain⟨_,v2,v3,_⟩:=jj3 hv;rw[jiw,Yn]at hc;rw[juY]at hb⊢;rw[jHP];have hbl:=jkt hv hc.2;have key:=λa h1 h2=>jqw hv t.name t.args w2 hc.2 (λu hu=>ih u hu (w3 u hu) (by have:=jhq hu;rw[jgG]at hs;omega) (jiz hc.2 hu)) 0 (Nat.zero_le _) a h1 h2;simp only[Int.natCast_zero,List.drop_zero]at key;cases hvn:jdc t.name<;>rw[hvn]at e1 hc hb
 .have hcn:=hc.1;rw[Bool.false_or]at hcn;obtain⟨e2,e3,e4⟩:=jsL hv hcn;have e5:=joN o t.name ho;have key:=key (joy o t.name) (by omega) (by omega);simp only[evz,e1,e5,e2,key]
 .have key:=key o.var (by omega) (by omega);simp only[evz,e1,key]
theorem jqQ{o:Ord'}{t:T}(h:good o t=true):okT t=true/\jiP o.syms t=true/\nodes t<=30:=by
 simp only[good,jgQ,jfs,Yn,Q5]at h;exact⟨h.1.2,h.2,h.1.1.1⟩
def jE7(o:Ord')(t:T):A:=if jhr o && good o t then .tup [vi (wt o t),vb true]else .tup [vi 0,vb false]
theorem jm9(a b:A):jar 2 (.elt [a,b] 0)=some (.agg [a,b]):=rfl
theorem jna(a b c:A):jar 3 (.elt [a,b,c] 0)=some (.agg [a,b,c]):=rfl
noncomputable def dq{α:Type}(a b:α):Bool:=@decide (a=b) (Classical.propDecidable _)
theorem jiI{α:Type}{a b:α} :dq a b=true↔a=b:=by unfold dq;exact @decide_eq_true_iff _ (Classical.propDecidable _)
theorem jtw{α:Type}{a b:α} :dq a b=false↔ ¬a=b:=by unfold dq;exact @decide_eq_false_iff_not _ (Classical.propDecidable _)
theorem joH{α:Type}(a:α):dq a a=true:=jiI.2 rfl
theorem jwH{α:Type}(a b:α)(l r:List α):dq (a::l) (b::r)=(dq a b && dq l r):=by
 rw[Bool.eq_iff_iff,Yn,jiI,jiI,jiI,j8]
theorem jEx(s t:T):dq s t=(decide (s.name=t.name) && dq s.args t.args):=by
 cases s with
 |mk n us=>cases t with
  |mk m vs=>rw[Bool.eq_iff_iff,Yn,jiI,jiI,decide_eq_true_iff,T.mk.injEq];rfl
theorem jzh{α:Type}{a b:List α}(h:¬a.length=b.length):dq a b=false:=jtw.2 λe=>h (by rw[e])
theorem jol(ts us:Xg)(hl:ts.length<=9223372036854775807)(hlen:ts.length=us.length)(ih:∀t∈ts,∀u∈us,G 98 [tm t,tm u]=some (vb (dq t u),[])) :
  ∀i,i<=ts.length->jrO (tms us) (.fn 98 []) (tms ts) (vi (ts.length:Nat)) (vi i)=some (vb (dq (ts.drop i) (us.drop i)),[]):=by
 refine upto ?_ ?_
 .rw [jzQ,List.drop_length,hlen,List.drop_length,joH];simp only[evz]
 .intro i hi ih';have hlt:(i:Int)<((ts.length:Nat):Int):=by omega
  have hi2:i<us.length:=by omega
  have h5:=jef hi hl;have e1:=ih ts[i] (jcF _) us[i] (jcF _);rw[jzQ,jdb hi,jdb hi2,jwH];cases hp:dq ts[i] us[i]<;>rw[hp]at e1
  .simp only[evz,hlt,jaa hi,jaa hi2,ja1,jir (f:=98) rfl,ZE,e1,Bool.false_and]
  .simp only[evz,hlt,jaa hi,jaa hi2,ja1,jir (f:=98) rfl,ZE,e1,h5,ih',Bool.true_and]
theorem jhE:∀s:T,twf s-> ∀t:T,twf t->G 98 [tm s,tm t]=some (vb (dq s t),[]):=by
 refine T.ind λs ih hw t hw'=>?_;obtain⟨w1,w2,w3⟩:=(jgM s).1 hw;have w3:=(jgz _).1 w3;obtain⟨v1,v2,v3⟩:=(jgM t).1 hw';have v3:=(jgz _).1 v3;rw[g98,jEx];by_cases hn:s.name=t.name
 .have e:G 137 [tms s.args,tms t.args,.fn 98 []]=some (vb (dq s.args t.args),[]):=by
   rw[jHs];by_cases hlen:s.args.length=t.args.length
   .have key:=jol s.args t.args w2 hlen (λa ha b hb=>ih a ha (w3 a ha) b (v3 b hb)) 0 (Nat.zero_le _);simp only[Int.natCast_zero,List.drop_zero]at key;rw[hlen]at key;simp only[evz,hlen,key]
   .have hlen':¬((s.args.length:Nat):Int)=((t.args.length:Nat):Int):=by omega
    simp only[evz,hlen',jzh hlen]
  simp only[evz,hn,e,Bool.true_and]
 .simp only[evz,hn,Bool.false_and]
theorem jtQ(n m:Xb)(ts us:Xg)(hl:ts.length<=9223372036854775807)(hlen:ts.length=us.length)(ih:∀t∈ts,∀u∈us,G 80 [tm t,tm u]=some (vb (dq t u),[])) :
  ∀i,i<=ts.length->jws (vi i) (sv n) (tms ts) (sv m) (tms us)=some (vb (dq (ts.drop i) (us.drop i)),[]):=by
 refine upto ?_ ?_
 .rw [jDM,List.drop_length,hlen,List.drop_length,joH];simp only[evz,hlen]
 .intro i hi ih';have hlt:(i:Int)<((ts.length:Nat):Int):=by omega
  have hi2:i<us.length:=by omega
  have h5:=jef hi hl;have e1:=ih ts[i] (jcF _) us[i] (jcF _);rw[jDM,jdb hi,jdb hi2,jwH];cases hp:dq ts[i] us[i]<;>rw[hp]at e1
  .simp only[evz,hlt,jaa hi,jaa hi2,ja1,e1,Bool.false_and]
  .simp only[evz,hlt,jaa hi,jaa hi2,ja1,e1,h5,ih',Bool.true_and]
theorem jkk:∀s:T,twf s-> ∀t:T,twf t->G 80 [tm s,tm t]=some (vb (dq s t),[]):=by
 refine T.ind λs ih hw t hw'=>?_;obtain⟨w1,w2,w3⟩:=(jgM s).1 hw;have w3:=(jgz _).1 w3;obtain⟨v1,v2,v3⟩:=(jgM t).1 hw';have v3:=(jgz _).1 v3;rw[g80,jEx];by_cases hn:s.name=t.name
 .by_cases hlen:s.args.length=t.args.length
  .have key:=jtQ t.name t.name s.args t.args w2 hlen (λa ha b hb=>ih a ha (w3 a ha) b (v3 b hb)) 0 (Nat.zero_le _);simp only[Int.natCast_zero,List.drop_zero]at key;simp only[evz,hn,hlen,key,Bool.true_and]
  .have hlen':¬((s.args.length:Nat):Int)=((t.args.length:Nat):Int):=by omega
   simp only[evz,hn,hlen',jzh hlen,Bool.and_false]
 .simp only[evz,hn,Bool.false_and]
def rk(o:Ord')(t:T):Int:=jhf 0 (jhL t.name o.syms)
def jkY(a b:Int):Int:=if a<b then -1 else if b<a then 1 else 0
def jha(o:Ord')(s t:T):Int:=if rk o s=rk o t then jkY (s.args.length:Nat) (t.args.length:Nat)else jkY (rk o s) (rk o t)
theorem jCX(o:Ord')(s t:T)(ho:o.syms.length<=9223372036854775807):G 170 [od o,tm s,tm t]=some (vi (jha o s t),[]):=by
 have e1:=joN o s.name ho;have e2:=joN o t.name ho;rw[jHQ];by_cases h:rk o s=rk o t
 .have h':jhf 0 (jhL s.name o.syms)=jhf 0 (jhL t.name o.syms):=h;by_cases h1:((s.args.length:Nat):Int)<((t.args.length:Nat):Int)
  .simp only[evz,e1,e2,h',jha,rk,jkY,h1]
  .by_cases h2:((t.args.length:Nat):Int)<((s.args.length:Nat):Int)
   .simp only[evz,e1,e2,h',jha,rk,jkY,h1,h2]
   .simp only[evz,e1,e2,h',jha,rk,jkY,h1,h2]
 .have h':¬jhf 0 (jhL s.name o.syms)=jhf 0 (jhL t.name o.syms):=h;by_cases h1:jhf 0 (jhL s.name o.syms)<jhf 0 (jhL t.name o.syms)
  .simp only[evz,e1,e2,h',jha,rk,jkY,h1]
  .by_cases h2:jhf 0 (jhL t.name o.syms)<jhf 0 (jhL s.name o.syms)
   .simp only[evz,e1,e2,h',jha,rk,jkY,h1,h2]
   .simp only[evz,e1,e2,h',jha,rk,jkY,h1,h2]
theorem juh(o:Ord')(s t:T)(ho:o.syms.length<=9223372036854775807):G 207 [od o,tm s,tm t]=some (vb (decide (jha o s t<0)),[]):=by
 have e1:=jkG o.syms s.name ho;have e2:=jkG o.syms t.name ho;rw[jH9];by_cases h:rk o s=rk o t
 .have h':jhf 0 (jhL s.name o.syms)=jhf 0 (jhL t.name o.syms):=h;by_cases h1:((s.args.length:Nat):Int)<((t.args.length:Nat):Int)
  .simp only[evz,e1,e2,h',jha,rk,jkY,h1]
  .by_cases h2:((t.args.length:Nat):Int)<((s.args.length:Nat):Int)
   .simp only[evz,e1,e2,h',jha,rk,jkY,h1,h2];rfl
   .simp only[evz,e1,e2,h',jha,rk,jkY,h1,h2]
 .have h':¬jhf 0 (jhL s.name o.syms)=jhf 0 (jhL t.name o.syms):=h;by_cases h1:jhf 0 (jhL s.name o.syms)<jhf 0 (jhL t.name o.syms)
  .simp only[evz,e1,e2,h',jha,rk,jkY,h1]
  .have h2:jhf 0 (jhL t.name o.syms)<jhf 0 (jhL s.name o.syms):=by omega
   simp only[evz,e1,e2,h',jha,rk,jkY,h1,h2];rfl
noncomputable def fd:Xg->Xg->Option (T×T)
 |a::l,b::r=>if dq a b=true then fd l r else some (a,b)
 |_,_=>none
theorem jsd:∀{l r:Xg}{a b:T},fd l r=some (a,b)->a∈l/\b∈r
 | [],_,_,_,h=>by simp[fd]at h
 |_::_,[],_,_,h=>by simp[fd]at h
 |x::l,y::r,a,b,h=>by
  simp only[fd]at h;split at h
  .have:=jsd h;exact⟨by simp[this.1],by simp[this.2]⟩
  .cases h;exact⟨by simp,by simp⟩
theorem jzr(s t:T)(hw:twf s)(hw':twf t)(hlen:s.args.length=t.args.length) :
  (fd s.args t.args=none/\G 171 [tm s,tm t]=some (vi (-1),[]))\/ ∃(k:Nat)(h1:k<s.args.length)(h2:k<t.args.length),fd s.args t.args=some (s.args[k],t.args[k])/\G 171 [tm s,tm t]=some (vi k,[]):=by
 obtain⟨w1,w2,w3⟩:=(jgM s).1 hw;have w3:=(jgz _).1 w3;obtain⟨v1,v2,v3⟩:=(jgM t).1 hw';have v3:=(jgz _).1 v3;have key:=upto (P:=λi=>(fd (s.args.drop i) (t.args.drop i)=none/\jo1 (vi i) (sv s.name) (tms s.args) (sv t.name) (tms t.args)=some (vi (-1),[]))\/ ∃(k:Nat)(h1:k<s.args.length)(h2:k<t.args.length),fd (s.args.drop i) (t.args.drop i)=some (s.args[k],t.args[k])/\jo1 (vi i) (sv s.name) (tms s.args) (sv t.name) (tms t.args)=some (vi k,[])) (n:=s.args.length) ?_ ?_ 0 (Nat.zero_le _)
 .simp only[Int.natCast_zero,List.drop_zero]at key;rw[jHR];rcases key with⟨h1,h2⟩|⟨k,h1,h2,h3,h4⟩
  .exact Or.inl ⟨h1,by simp only[evz,h2]⟩
  .exact Or.inr ⟨k,h1,h2,h3,by simp only[evz,h4]⟩
 .left;rw[jz0,List.drop_length];refine⟨by simp[fd],?_⟩;simp only[evz]
 .intro i hi ih;have hlt:(i:Int)<((s.args.length:Nat):Int):=by omega
  have hi2:i<t.args.length:=by omega
  have h5:=jef hi w2;have e1:=jkk s.args[i] (w3 _ (jcF _)) t.args[i] (v3 _ (jcF _));rw[jz0,jdb hi,jdb hi2,fd];cases hp:dq s.args[i] t.args[i]<;>rw[hp]at e1
  .refine Or.inr ⟨i,hi,hi2,by simp,?_⟩;simp only[evz,hlt,jaa hi,jaa hi2,ja1,e1]
  .simp only[evz,hlt,jaa hi,jaa hi2,ja1,e1,h5];exact ih
def zT:A:= .agg [sv [],.sl 2 []]
noncomputable def fdR(s t:T):A:=match fd s.args t.args with|some (a,b)=>.tup [tm a,tm b,vb true]|none=>.tup [zT,zT,vb false]
theorem jmR(s t:T)(hw:twf s)(hw':twf t)(hn:s.name=t.name)(hlen:s.args.length=t.args.length):G 208 [tm s,tm t]=some (fdR s t,[]):=by
 obtain⟨w1,w2,w3⟩:=(jgM s).1 hw;have w3:=(jgz _).1 w3;obtain⟨v1,v2,v3⟩:=(jgM t).1 hw';have v3:=(jgz _).1 v3;have key:=upto (P:=λi=>jr1 (tms s.args) (vi (s.args.length:Nat)) (vi i) (sv t.name) (tms t.args) (sv []) (sv []) [] []=some ((match fd (s.args.drop i) (t.args.drop i)with|some (a,b)=>.tup [tm a,tm b,vb true]|none=>.tup [zT,zT,vb false]),[])) (n:=s.args.length) ?_ ?_ 0 (Nat.zero_le _)
 .simp only[Int.natCast_zero,List.drop_zero]at key;rw[jF2,fdR];simp only[hlen]at key;simp only[evz,hn,hlen,key]
 .rw [jz6,List.drop_length];simp only[evz,fd,zT]
 .intro i hi ih;have hlt:(i:Int)<((s.args.length:Nat):Int):=by omega
  have hi2:i<t.args.length:=by omega
  have h5:=jef hi w2;have e1:=jhE s.args[i] (w3 _ (jcF _)) t.args[i] (v3 _ (jcF _));rw[jz6,jdb hi,jdb hi2,fd];cases hp:dq s.args[i] t.args[i]<;>rw[hp]at e1
  .simp only[evz,hlt,jaa hi,jaa hi2,ja1,e1]
  .simp only[evz,hlt,jaa hi,jaa hi2,ja1,e1,h5,ih]
theorem jmS(s t:T)(h:¬(s.name=t.name/\s.args.length=t.args.length)):G 208 [tm s,tm t]=some (.tup [zT,zT,vb false],[]):=by
 rw[jF2];by_cases hn:s.name=t.name
 .have hlen':¬((s.args.length:Nat):Int)=((t.args.length:Nat):Int):=λe=>h ⟨hn,by omega⟩;simp only[evz,hn,hlen',zT]
 .simp only[evz,hn,zT]
noncomputable def jxZ(o:Ord'):Nat->T->T->Bool
 |0,_,_=>false
 |n+1,s,t=>if jdc s.name then false else if(s.args.any λa=>dq a t || jxZ o n a t)then true else if jdc t.name then false
   else if(t.args.any λb=> !jxZ o n s b)then false else if 0<jha o s t then true else if jha o s t<0 then false
   else match fd s.args t.args with|some (a,b)=>jxZ o n a b|none=>false
theorem jE3{o:Ord'}{s t:T}(h1:o.syms.contains s.name=true)(h2:o.syms.contains t.name=true)(h:rk o s=rk o t):s.name=t.name:=by
 obtain⟨k,hk,_⟩:=jmP h1;obtain⟨j,hj,_⟩:=jmP h2;have a1:=(joI hk).2;have a2:=(joI hj).2;simp only[rk,hk,hj,jhf,jfO]at h;have:k=j:=by omega
 subst this;rw[a1]at a2;exact QW a2
theorem jvO(o:Ord')(s t:T):jha o t s = - jha o s t:=by
 unfold jha;by_cases h:rk o s=rk o t
 .rw [jc6 h,jc6 h.symm];unfold jkY;split<;>split<;>(try split)<;>omega
 .rw [ko h,ko (Ne.symm h)];unfold jkY;split<;>split<;>(try split)<;>omega
def jle(e g l:Bool):Int:=if e then 1 else if g then 2 else if l then 3 else 0
theorem jxU(e g l:Bool):G 122 [vb e,vb g,vb l]=some (vi (jle e g l),[]):=by
 rw[jHg];cases e<;>cases g<;>cases l<;>simp only[evz,jle]
theorem jpY{f g:FuncId}{caps caps':Xd}(hf:K.pureF f=true)(hg:K.pureF g=true)(e gr le:Bool)(h1:G f caps=some (vb gr,[]))(h2:G g caps'=some (vb le,[])) :
  G 151 [vb e,.fn f caps,.fn g caps']=some (vi (jle e gr le),[]):=by
 rw[jHD];cases e<;>cases gr<;>cases le<;>simp only[evz,jir hf,jir hg,zx,h1,h2,jle]
noncomputable def jEt(o:Ord')(s t:T):Int:=jle (dq s t) (jxZ o (nodes s+nodes t) s t) (jxZ o (nodes s+nodes t) t s)
noncomputable def jEw(o:Ord')(s t:T):A:=if jhr o && (good o s && good o t)then .tup [vi (jEt o s t),vb true]else .tup [vi 0,vb false]
mutual
def jgi:T->Xa
 |.mk n us=>if jdc n then[n]else jgR us
def jgR:Xg->Xa
 | []=>[]
 |t::ts=>jgi t++jgR ts
end
theorem jh0(t:T):jgi t=if jdc t.name then[t.name]else jgR t.args:=by cases t;rfl
theorem jix{n:Nat}(h:n<=4000000):jcK n 16=true:=by
 unfold jcK;simp;omega
def jmv(l:Xa)(vs:Xa)(k:Nat)(r:Xa):Prop:=(∀n,n∈r↔n∈l\/n∈vs)/\r.length<=l.length+k
theorem jqq(ts:Xg)(hl:ts.length<=9223372036854775807)(hn:jdi ts<=1048577)(ih:∀t∈ts,∀l:Xa,l.length+nodes t<=2100000-> ∃r,jk5 (sv t.name) (tms t.args) (l.map cs)=some (.top,[strs r])/\jmv l (jgi t) (nodes t) r) :
  ∀i,i<=ts.length-> ∀l:Xa,l.length+jdi (ts.drop i)<=2100000-> ∃r,jk9 (tms ts) (vi (ts.length:Nat)) (vi i) (l.map cs)=some (.top,[strs r])/\jmv l (jgR (ts.drop i)) (jdi (ts.drop i)) r:=by
 refine upto ?_ ?_
 .intro l hb;rw[jln,List.drop_length];refine⟨l,?_,by simp[jgR],by omega⟩;simp only[evz]
 .intro i hi ih' l hb;have hlt:(i:Int)<((ts.length:Nat):Int):=by omega
  have h5:=jef hi hl;rw[jdb hi]at hb⊢;simp only[jdi,jgR]at hb⊢;obtain⟨r1,e1,c1,c2⟩:=ih ts[i] (jcF _) l (by omega);obtain⟨r2,e2,d1,d2⟩:=ih' r1 (by omega);rw[jln];refine⟨r2,?_,?_,by omega⟩
  .simp only[evz,hlt,jaa hi,ja1,e1,h5,e2]
  .intro n;rw[d1,c1,Yo];exact or_assoc
theorem jvj:∀t:T,twf t->okT t=true->nodes t<=1048577-> ∀l:Xa,l.length+nodes t<=2100000-> ∃r,jk5 (sv t.name) (tms t.args) (l.map cs)=some (.top,[strs r])/\jmv l (jgi t) (nodes t) r:=by
 refine T.ind λt ih hw hk hn l hb=>?_;obtain⟨w1,w2,w3⟩:=(jgM t).1 hw;have w3:=(jgz _).1 w3;have hks:=jgW hk;have e1:=jll t hk;rw[jy4,jh0];have hpos:=jhN t;rw[jfj]at hn hb⊢;cases hv:jdc t.name<;>rw[hv]at e1
 .
  have ih':∀u∈t.args,∀l:Xa,l.length+nodes u<=2100000-> ∃r,jk5 (sv u.name) (tms u.args) (l.map cs)=some (.top,[strs r])/\jmv l (jgi u) (nodes u) r:=λu hu=>ih u hu (w3 u hu) (hks u hu) (by have:=jhU hu;omega)
  have loop:=jqq t.args w2 (by omega) ih';have start:∃r,jk8 (tms t.args) (vi (t.args.length:Nat)) (vi 0) (l.map cs)=some (.top,[strs r])/\jmv l (jgR t.args) (jdi t.args) r:=by
   rw[jtL];by_cases h0:t.args.length=0
   .have ha:t.args=[]:=List.length_eq_zero_iff.1 h0;rw[ha];refine⟨l,?_,by simp[jgR],by simp[jdi]⟩;simp only[evz];rfl
   .have hi:0<t.args.length:=by omega
    have hlt:(0:Int)<((t.args.length:Nat):Int):=by omega
    have hix:jda 2 (tms t.args) (vi 0)=some (.elt (jdd t.args[0]) 0):=jaa (i:=0) hi;have h5:jeH .add false (vi 0) (vi 1)=some (vi ((1:Nat):Int)):=by rw[jiM,jeY (by decide) (by decide)];rfl
    have hd:t.args=t.args[0]::t.args.drop 1:=by have:=jdb hi;simpa using this
    have hns:jdi t.args=nodes t.args[0]+jdi (t.args.drop 1):=by conv=>lhs;rw[hd,jdi]
    have hvs:jgR t.args=jgi t.args[0]++jgR (t.args.drop 1):=by conv=>lhs;rw[hd,jgR]
    obtain⟨r1,e1,c1,c2⟩:=ih' t.args[0] (jcF _) l (by omega);obtain⟨r2,e2,d1,d2⟩:=loop 1 (by omega) r1 (by omega);refine⟨r2,?_,?_,by omega⟩
    .simp only[evz,hlt,hix,ja1,e1,h5,e2]
    .intro n;rw[d1,c1,hvs,Yo];exact or_assoc
  obtain⟨r,e2,d1,d2⟩:=start;refine⟨r,?_,by simpa using d1,by omega⟩;cases h0:decide (((t.args.length:Nat):Int)=0)
  .simp only[evz,h0,e2]
  .simp only[evz,h0,e1,e2]
 .have ha:t.args=[]:=by
   rw[jhp,hv]at hk;simpa using hk
  have h0:decide (((t.args.length:Nat):Int)=0)=true:=by rw[ha];rfl
  have e3:=ji5 l t.name (by omega);cases hc:l.contains t.name<;>rw[hc]at e3
  .have hf:jcK (l.length+1) 16=true:=jix (by omega);refine⟨l++[t.name],?_,by simp,by simp⟩;have happ:jgo (l.map cs) [[sv t.name]]=(l++[t.name]).map cs:=by simp[jgo]
   simp only[evz,h0,e1,e3,hf,happ]
  .refine ⟨l,?_,λn=>⟨λh=>Or.inl h,λh=>by
    rcases h with h|h
    .exact h
    .simp at h;subst h;simpa using hc⟩,by omega⟩
   simp only[evz,h0,e1,e3]
theorem jnk(t:T)(hw:twf t)(hk:okT t=true)(hn:nodes t<=1048577):∃r,G 205 [tm t]=some (strs r,[])/\(∀n,n∈r↔n∈jgi t)/\r.length<=9223372036854775807:=by
 obtain⟨r,e1,c1,c2⟩:=jvj t hw hk hn [] (by simp;omega)
 have e2:joS (r.map cs)=some (.top,[strs (kx r)]):=by
  rw[jy3];simp only[jcY,jaE];rw[jc6 (by simp at c2;omega)]
 refine⟨kx r,?_,λn=>?_,by simp[kx];simp at c2;omega⟩
 .rw [jH7];simp only[List.map_nil]at e1;simp only[evz,e1,e2]
 .unfold kx;rw[List.mem_mergeSort,c1];simp
mutual
def cnt(n:Xb):T->Nat
 |.mk m us=>(if m=n then 1 else 0)+jjk n us
def jjk(n:Xb):Xg->Nat
 | []=>0
 |t::ts=>cnt n t+jjk n ts
end
theorem jnw(n:Xb)(t:T):cnt n t=(if t.name=n then 1 else 0)+jjk n t.args:=by cases t;rfl
theorem jEv(n:Xb):∀t:T,cnt n t<=nodes t:=by
 refine T.ind λt ih=>?_;have:∀ts:Xg,(∀u∈ts,cnt n u<=nodes u)->jjk n ts<=jdi ts:=by
  intro ts;induction ts with
  |nil=>intro _;simp[jjk]
  |cons u us ih=>
   intro h;have h1:=h u (by simp);have h2:=ih λv hv=>h v (by simp[hv]);simp only[jjk,jdi];omega
 have h:=this t.args ih;rw[jnw,jfj];split<;>omega
theorem jwC(n:Xb)(ts:Xg):jjk n ts<=jdi ts:=by
 induction ts with
 |nil=>simp[jjk]
 |cons u us ih=>have:=jEv n u;simp only[jjk,jdi];omega
theorem jpm(n:Xb)(ts:Xg)(hl:ts.length<=9223372036854775807)(hn:jdi ts<=1048577)(ih:∀t∈ts,G 182 [tm t,sv n]=some (vi (cnt n t:Nat),[])) :
  ∀i,i<=ts.length-> ∀a:Nat,a+jjk n (ts.drop i)<=1048579->jo2 (sv n) (vi a) (tms ts) (vi (ts.length:Nat)) (vi i)=some (vi ((a+jjk n (ts.drop i):Nat):Int),[]):=by
 refine upto ?_ ?_
 .intro a ha;rw[jz2,List.drop_length];simp only[evz,jjk,z7]
 .intro i hi ih' a ha;have hlt:(i:Int)<((ts.length:Nat):Int):=by omega
  have h5:=jef hi hl;have e1:=ih ts[i] (jcF _);rw[jdb hi]at ha⊢;simp only[jjk]at ha⊢;have hk:ck ((a:Int)+((cnt n ts[i]:Nat):Int))=some (vi ((a+cnt n ts[i]:Nat):Int)):=by rw[jeY (by omega) (by omega)];rfl
  have ih':=ih' (a+cnt n ts[i]) (by omega);rw[jz2];simp only[evz,hlt,jaa hi,ja1,e1,hk,h5,ih',Q4]
theorem jiH(n:Xb):∀t:T,twf t->nodes t<=1048577->G 182 [tm t,sv n]=some (vi (cnt n t:Nat),[]):=by
 refine T.ind λt ih hw hn=>?_;obtain⟨w1,w2,w3⟩:=(jgM t).1 hw;have w3:=(jgz _).1 w3;rw[jfj]at hn;have hc:=jwC n t.args;have key:=λa h=>jpm n t.args w2 (by omega) (λu hu=>ih u hu (w3 u hu) (by have:=jhU hu;omega)) 0 (Nat.zero_le _) a h;simp only[Int.natCast_zero,List.drop_zero]at key;rw[jHY,jnw];by_cases h:t.name=n
 .have key:=key 1 (by omega);simp only[Int.natCast_one]at key;simp only[evz,h,key]
 .have key:=key 0 (by omega);simp only[Int.natCast_zero]at key;simp only[evz,h,key]
theorem jsk(m n:Xb)(ts:Xg)(hl:ts.length<=9223372036854775807)(hn:jdi ts<=1048577)(ih:∀t∈ts,G 212 [tm t,sv n]=some (vi (cnt n t:Nat),[])) :
  ∀i,i<=ts.length-> ∀a:Nat,a+jjk n (ts.drop i)<=1048579->jo6 (sv n) (vi a) (vi i) (sv m) (tms ts)=some (vi ((a+jjk n (ts.drop i):Nat):Int),[]):=by
 refine upto ?_ ?_
 .intro a ha;rw[jAb,List.drop_length];simp only[evz,jjk,z7]
 .intro i hi ih' a ha;have hlt:(i:Int)<((ts.length:Nat):Int):=by omega
  have h5:=jef hi hl;have e1:=ih ts[i] (jcF _);rw[jdb hi]at ha⊢;simp only[jjk]at ha⊢;have hk:ck ((a:Int)+((cnt n ts[i]:Nat):Int))=some (vi ((a+cnt n ts[i]:Nat):Int)):=by rw[jeY (by omega) (by omega)];rfl
  have ih':=ih' (a+cnt n ts[i]) (by omega);rw[jAb];simp only[evz,hlt,jaa hi,ja1,e1,hk,h5,ih',Q4]
theorem jpC(n:Xb):∀t:T,twf t->nodes t<=1048577->G 212 [tm t,sv n]=some (vi (cnt n t:Nat),[]):=by
 refine T.ind λt ih hw hn=>?_;obtain⟨w1,w2,w3⟩:=(jgM t).1 hw;have w3:=(jgz _).1 w3;rw[jfj]at hn;have hc:=jwC n t.args;have key:=λa h=>jsk t.name n t.args w2 (by omega) (λu hu=>ih u hu (w3 u hu) (by have:=jhU hu;omega)) 0 (Nat.zero_le _) a h;simp only[Int.natCast_zero,List.drop_zero]at key;rw[jId,jnw];by_cases h:t.name=n
 .have key:=key 1 (by omega);simp only[Int.natCast_one]at key;rw[h]at key;simp only[evz,h,key]
 .have key:=key 0 (by omega);simp only[Int.natCast_zero]at key;simp only[evz,h,key]
theorem jAd(l:Xa)(s:Xb)(hl:l.length<=2100000):∃r,G 119 [strs l,sv s]=some (strs r,[])/\jmv l [s] 1 r:=by
 have key:=upto (P:=λi=>∃r,joW (strs l) (sv s) (vi i)=some (strs r,[])/\jmv l [s] 1 r) (n:=l.length) ?_ ?_ 0 (Nat.zero_le _)
 .simp only[Int.natCast_zero]at key;rw[jFV];exact key
 .have hx:¬((l.length:Nat):Int)<((l.length:Nat):Int):=Int.lt_irrefl _;have s1:J2 1 (strs l) none (some (vi (l.length:Nat)))=some (strs l):=by rw[jiD (by simp),jT (by simp)]
  have s2:J2 1 (strs l) (some (vi (l.length:Nat))) none=some (.sl 1 []):=by rw[jid (by simp),List.drop_of_length_le (by simp)]
  have f1:jcK l.length 16=true:=jix (by omega);have f2:jcK (l.length+1) 16=true:=jix (by omega);have happ:jgo (jgo (l.map cs) [[sv s]]) []=(l++[s]).map cs:=by simp[jgo]
  have hlen:(jgo (l.map cs) [[sv s]]).length=l.length+1:=by simp[jgo]
  refine⟨l++[s],?_,by intro n;simp,by simp⟩
  rw[jsg];simp only[evz,hx,s1,s2,f1,f2,hlen,happ,z7]
 .intro i hi ih;have hlt:(i:Int)<((l.length:Nat):Int):=by omega
  have h5:=jef hi (by omega);rw[jsg];cases h1:sLt l[i] s
  .by_cases h2:l[i]=s
   .refine ⟨l,?_,λn=>⟨λh=>Or.inl h,λh=>by
     rcases h with h|h
     .exact h
     .simp at h;rw[h,<-h2];exact jcF _⟩,by omega⟩
    rw[h2]at h1;simp only[evz,hlt,jaa hi,h2,h1]
   .have s1:J2 1 (strs l) none (some (vi i))=some (strs (l.take i)):=by rw[jiD (by simp;omega),<-List.map_take]
    have s2:J2 1 (strs l) (some (vi i)) none=some (strs (l.drop i)):=by rw[jid (by simp;omega),<-List.map_drop]
    have ht:(l.take i).length=i:=by rw[List.length_take];omega
    have f1:jcK i 16=true:=jix (by omega);have f2:jcK (i+1) 16=true:=jix (by omega);have f3:jcK (i+1+(l.drop i).length) 16=true:=jix (by rw[List.length_drop];omega);have happ:jgo (jgo ((l.take i).map cs) [[sv s]]) ((l.drop i).map cs)=(l.take i++[s]++l.drop i).map cs:=by simp[jgo]
    have hlen:(jgo ((l.take i).map cs) [[sv s]]).length=i+1:=by simp[jgo];omega
    refine⟨l.take i++[s]++l.drop i,?_,λn=>?_,by simp;omega⟩
    .simp only[evz,hlt,jaa hi,h1,h2,s1,s2,ht,f1,f2,f3,hlen,happ]
    .have hm:n∈l↔n∈l.take i\/n∈l.drop i:=by rw[<-Yo,Q3]
     simp only[Yo,jU,hm];exact⟨λh=>by rcases h with(h|h)|h<;>simp[h],λh=>by rcases h with(h|h)|h<;>simp[h]⟩
  .obtain ⟨r,e,c⟩:=ih;refine⟨r,?_,c⟩;simp only[evz,hlt,jaa hi,h1,h5,e]
theorem jxR:∀t:T,twf t-> ∀l:Xa,l.length+nodes t<=2100000-> ∃r,G 209 [strs l,tm t]=some (strs r,[])/\jmv l (jgi t) (nodes t) r:=by
 refine T.ind λt ih hw l hb=>?_;obtain⟨w1,w2,w3⟩:=(jgM t).1 hw;have w3:=(jgz _).1 w3;have e1:=jg8 t.name w1;rw[jIa,jh0];rw[jfj]at hb⊢;cases hv:jdc t.name<;>rw[hv]at e1
 .have key:=upto (P:=λi=>∀l:Xa,l.length+jdi (t.args.drop i)<=2100000-> ∃r,jr2 (strs l) (vi i) (sv t.name) (tms t.args)=some (strs r,[])/\jmv l (jgR (t.args.drop i)) (jdi (t.args.drop i)) r) (n:=t.args.length) ?_ ?_ 0 (Nat.zero_le _)
  .simp only[Int.natCast_zero,List.drop_zero]at key;obtain⟨r,e,c1,c2⟩:=key l (by omega);refine⟨r,?_,by simpa using c1,by omega⟩;simp only[evz,e1,e]
  .intro l hb;rw[jz7,List.drop_length];refine⟨l,?_,by simp[jgR],by omega⟩;simp only[evz]
  .intro i hi ih' l hb;have hlt:(i:Int)<((t.args.length:Nat):Int):=by omega
   have h5:=jef hi w2;rw[jdb hi]at hb⊢;simp only[jdi,jgR]at hb⊢;obtain⟨r1,a1,c1,c2⟩:=ih t.args[i] (jcF _) (w3 _ (jcF _)) l (by omega);obtain⟨r2,a2,d1,d2⟩:=ih' r1 (by omega);rw[jz7];refine⟨r2,?_,?_,by omega⟩
   .simp only[evz,hlt,jaa hi,ja1,a1,h5,a2]
   .intro n;rw[d1,c1,Yo];exact or_assoc
 .obtain ⟨r,e,c1,c2⟩:=jAd l t.name (by omega);refine⟨r,?_,by simpa using c1,by omega⟩;simp only[evz,e1,e]
theorem jqY(t:T)(hw:twf t)(hn:nodes t<=1048577):∃r,G 161 [tm t]=some (strs r,[])/\(∀n,n∈r↔n∈jgi t)/\r.length<=9223372036854775807:=by
 obtain⟨r,e,c1,c2⟩:=jxR t hw [] (by simp;omega)
 have e:G 209 [.sl 1 [],tm t]=some (strs r,[]):=e;refine⟨r,?_,λn=>by rw[c1];simp,by simp at c2;omega⟩;rw[jHJ];simp only[evz,e]
def bal(s t:T):Bool:=(jgi t).all λn=>decide (cnt n t<=cnt n s)
theorem jy2{r:Xa}{s t:T}(h:∀n,n∈r↔n∈jgi t):(r.all λn=>decide (cnt n t<=cnt n s))=bal s t:=by
 unfold bal;rw[Bool.eq_iff_iff,jE,jE];exact⟨λa n hn=>a n ((h n).2 hn),λa n hn=>a n ((h n).1 hn)⟩
theorem jtp(s t:T)(hw:twf s)(hw':twf t)(hs:nodes s<=1048577)(ht:nodes t<=1048577):G 168 [tm s,tm t]=some (vb (bal s t),[]):=by
 obtain⟨r,e,c1,c2⟩:=jqY t hw' ht;have key:=upto (P:=λi=>jrX (strs r) (vi i) (sv s.name) (tms s.args) (sv t.name) (tms t.args)=some (vb ((r.drop i).all λn=>decide (cnt n t<=cnt n s)),[])) (n:=r.length) ?_ ?_ 0 (Nat.zero_le _)
 .simp only[Int.natCast_zero,List.drop_zero]at key;rw[jy2 c1]at key;rw[jHO];simp only[evz,e,key]
 .rw [jzY,List.drop_length];simp only[evz]
 .intro i hi ih;have hlt:(i:Int)<((r.length:Nat):Int):=by omega
  have h5:=jef hi c2;have e1:=jpC r[i] s hw hs;have e2:=jpC r[i] t hw' ht;rw[jzY,jdb hi,jbq];by_cases h:cnt r[i] t<=cnt r[i] s
  .have h':¬((cnt r[i] s:Nat):Int)<((cnt r[i] t:Nat):Int):=by omega
   simp only[evz,hlt,jaa hi,e1,e2,h',h,h5,ih,Bool.true_and]
  .have h':((cnt r[i] s:Nat):Int)<((cnt r[i] t:Nat):Int):=by omega
   simp only[evz,hlt,jaa hi,e1,e2,h',h,Bool.false_and]
noncomputable def jjf(o:Ord'):Nat->T->T->Bool
 |0,_,_=>false
 |n+1,s,t=>if bal s t then(if wt o s=wt o t then(if jdc s.name || jdc t.name then false else if jha o s t=0 then(match fd s.args t.args with|some (a,b)=>jjf o n a b|none=>false)else decide (0<jha o s t))else decide (wt o t<wt o s))else false
theorem jtF{s t a b:T}{n:Nat}(ha:a∈s.args)(hb:b∈t.args)(h:nodes s+nodes t<=n+1):nodes a+nodes b<=n:=by
 have h1:=jhU ha;have h2:=jhU hb;rw[jfj s,jfj t]at h;omega
theorem jre{o:Ord'}{s t:T}(h:jha o s t=0):rk o s=rk o t/\s.args.length=t.args.length:=by
 unfold jha jkY at h;split at h
 .rename_i h1;refine⟨h1,?_⟩;split at h
  .cases h
  .split at h
   .cases h
   .omega
 .split at h
  .cases h
  .split at h
   .cases h
   .omega
theorem jpG{o:Ord'}(hv:jhr o=true)(ho:o.syms.length<=9223372036854775807):∀(n:Nat)(s t:T),nodes s+nodes t<=n->twf s->twf t->tsz s<=1048576->tsz t<=1048576->jiP o.syms s=true->jiP o.syms t=true->G 123 [od o,tm s,tm t]=some (vb (jjf o n s t),[])
 |0,s,t,h,_,_,_,_,_,_=>by have:=jhN s;omega
 |n+1,s,t,h,hw,hw',hs,ht,hc,hc'=>by
  obtain⟨w1,w2,w3⟩:=(jgM s).1 hw;have w3:=(jgz _).1 w3;obtain⟨v1,v2,v3⟩:=(jgM t).1 hw';have v3:=(jgz _).1 v3;have hns:=jhM s;have hnt:=jhM t;have e1:=jtp s t hw hw' (by omega) (by omega);have e2:=jn1 hv ho s hw hs hc;have e3:=jn1 hv ho t hw' ht hc';have e4:=jg8 s.name w1;have e5:=jg8 t.name v1;have e6:=jCX o s t ho;have cs1:∀a∈s.args,jiP o.syms a=true:=λa ha=>by rw[jiw,Yn]at hc;exact jiz hc.2 ha
  have cs2:∀a∈t.args,jiP o.syms a=true:=λa ha=>by rw[jiw,Yn]at hc';exact jiz hc'.2 ha
  rw[jHh,jjf];cases hb:bal s t<;>rw[hb]at e1
  .simp only[evz,e1]
  by_cases hwt:wt o s=wt o t;rotate_left
  .simp only[evz,e1,e2,e3,hwt]
  cases hv1:jdc s.name<;>rw[hv1]at e4
  rotate_left
  .simp only[evz,e1,e2,e3,hwt,e4,Bool.true_or]
  cases hv2:jdc t.name<;>rw[hv2]at e5
  rotate_left
  .simp only[evz,e1,e2,e3,hwt,e4,e5,Bool.false_or]
  by_cases hr:jha o s t=0;rotate_left
  .simp only[evz,e1,e2,e3,hwt,e4,e5,e6,hr,Bool.false_or]
  obtain⟨_,hlen⟩:=jre hr;rcases jzr s t hw hw' hlen with⟨f1,f2⟩|⟨k,k1,k2,f1,f2⟩
  .have:¬(0:Int)<= -1:=by decide
   simp only[evz,e1,e2,e3,hwt,e4,e5,e6,hr,Bool.false_or,f1,f2,this]
  .have m1:=jcF k1;have m2:=jcF k2;have e7:=jpG hv ho n s.args[k] t.args[k] (jtF m1 m2 h) (w3 _ m1) (v3 _ m2) (by have:=jhq m1;rw[jgG]at hs;omega) (by have:=jhq m2;rw[jgG]at ht;omega) (cs1 _ m1) (cs2 _ m2);have:(0:Int)<=(k:Int):=by omega
   simp only[evz,e1,e2,e3,hwt,e4,e5,e6,hr,Bool.false_or,f1,f2,this,jaa k1,jaa k2,ja1,e7]
theorem jvr{o:Ord'}(hv:jhr o=true)(ho:o.syms.length<=9223372036854775807):∀(n:Nat)(s t:T),nodes s+nodes t<=n->twf s->twf t->tsz s<=1048576->tsz t<=1048576->okT s=true->okT t=true->jiP o.syms s=true->jiP o.syms t=true->G 153 [od o,tm s,tm t]=some (vb (jjf o n s t),[])
 |0,s,t,h,_,_,_,_,_,_,_,_=>by have:=jhN s;omega
 |n+1,s,t,h,hw,hw',hs,ht,hk,hk',hc,hc'=>by
  obtain⟨w1,w2,w3⟩:=(jgM s).1 hw;have w3:=(jgz _).1 w3;obtain⟨v1,v2,v3⟩:=(jgM t).1 hw';have v3:=(jgz _).1 v3;have hns:=jhM s;have hnt:=jhM t;have ks:=jgW hk;have ks':=jgW hk';have e2:=jry hv ho s hw hs hk hc;have e3:=jry hv ho t hw' ht hk' hc';have e4:=jll s hk;have e5:=jll t hk';have e6:=juh o t s ho;rw[jvO]at e6;have cs1:∀a∈s.args,jiP o.syms a=true:=λa ha=>by rw[jiw,Yn]at hc;exact jiz hc.2 ha
  have cs2:∀a∈t.args,jiP o.syms a=true:=λa ha=>by rw[jiw,Yn]at hc';exact jiz hc'.2 ha
  obtain⟨r,er,c1,c2⟩:=jnk t hw' hk' (by omega);have tail:joZ (strs r) (vi (r.length:Nat)) (vi (r.length:Nat)) (strs o.syms) (ints o.ws) (vi o.var) (sv s.name) (tms s.args) (sv t.name) (tms t.args)=some (vb (if wt o s=wt o t then(if jdc s.name || jdc t.name then false else if jha o s t=0 then(match fd s.args t.args with|some (a,b)=>jjf o n a b|none=>false)else decide (0<jha o s t))else decide (wt o t<wt o s)),[]):=by
   rw[jvx];by_cases hwt:wt o s=wt o t;rotate_left
   .simp only[evz,e2,e3,hwt]
   have hnlt:¬wt o t<wt o s:=by omega
   cases hv1:jdc s.name<;>rw[hv1]at e4
   rotate_left
   .simp only[evz,e2,e3,hwt,e4,Bool.true_or]
   cases hv2:jdc t.name<;>rw[hv2]at e5
   rotate_left
   .simp only[evz,e2,e3,hwt,e4,e5,Bool.false_or]
   by_cases hr:jha o s t=0
   .have hr':¬ -jha o s t<0:=by omega
    obtain⟨hrk,hlen⟩:=jre hr;have hcn:o.syms.contains s.name=true:=by rw[jiw,hv1,Bool.false_or,Yn]at hc;exact hc.1
    have hcn':o.syms.contains t.name=true:=by rw[jiw,hv2,Bool.false_or,Yn]at hc';exact hc'.1
    have e7:=jmR s t hw hw' (jE3 hcn hcn' hrk) hlen;cases hf:fd s.args t.args with
    |none=>
     have:fdR s t = .tup [zT,zT,vb false]:=by unfold fdR;rw[hf]
     rw[this]at e7;simp only[hr]at e6;simp only[evz,e2,e3,hwt,e4,e5,e6,hr,Bool.false_or,e7,zT,Int.neg_zero]
    |some p=>
     obtain⟨a,b⟩:=p;have:fdR s t = .tup [tm a,tm b,vb true]:=by unfold fdR;rw[hf]
     rw[this]at e7;obtain⟨ma,mb⟩:=jsd hf;have e8:=jvr hv ho n a b (jtF ma mb h) (w3 a ma) (v3 b mb) (by have:=jhq ma;rw[jgG]at hs;omega) (by have:=jhq mb;rw[jgG]at ht;omega) (ks a ma) (ks' b mb) (cs1 a ma) (cs2 b mb);simp only[hr]at e6;simp only[evz,e2,e3,hwt,e4,e5,e6,hr,Bool.false_or,e7,e8,Int.neg_zero]
   .by_cases hg:0<jha o s t
    .have hg': -jha o s t<0:=by omega
     simp only[evz,e2,e3,hwt,e4,e5,e6,hr,hg,hg',Bool.false_or]
    .have hg':¬ -jha o s t<0:=by omega
     have hno:¬(s.name=t.name/\s.args.length=t.args.length):=by
      rintro⟨q1,q2⟩;apply hr;have:rk o s=rk o t:=by unfold rk;rw[q1]
      unfold jha jkY;rw[jc6 this,q2];simp
     have e7:=jmS s t hno;simp only[evz,e2,e3,hwt,e4,e5,e6,hr,hg,hg',Bool.false_or,e7,zT]
  have key:=upto (P:=λi=>joZ (strs r) (vi (r.length:Nat)) (vi i) (strs o.syms) (ints o.ws) (vi o.var) (sv s.name) (tms s.args) (sv t.name) (tms t.args)=some (vb (if((r.drop i).all λn=>decide (cnt n t<=cnt n s))then(if wt o s=wt o t then(if jdc s.name || jdc t.name then false else if jha o s t=0 then(match fd s.args t.args with|some (a,b)=>jjf o n a b|none=>false)else decide (0<jha o s t))else decide (wt o t<wt o s))else false),[])) (n:=r.length) ?_ ?_ 0 (Nat.zero_le _)
  .simp only[Int.natCast_zero,List.drop_zero]at key;rw[jy2 c1]at key;rw[jFY,jjf];simp only[evz,er];exact key
  .rw [tail,List.drop_length];rfl
  .intro i hi ih;have hlt:(i:Int)<((r.length:Nat):Int):=by omega
   have h5:=jef hi c2;have a1:=jiH r[i] s hw (by omega);have a2:=jiH r[i] t hw' (by omega);rw[jvx,jdb hi,jbq];by_cases hcn:cnt r[i] t<=cnt r[i] s
   .have h':¬((cnt r[i] s:Nat):Int)<((cnt r[i] t:Nat):Int):=by omega
    simp only[evz,hlt,jaa hi,a1,a2,h',hcn,h5,ih,Bool.true_and]
   .have h':((cnt r[i] s:Nat):Int)<((cnt r[i] t:Nat):Int):=by omega
    simp only[evz,hlt,jaa hi,a1,a2,h',hcn,Bool.false_and]
noncomputable def jkD(o:Ord')(s t:T):Int:=jle (dq s t) (jjf o (nodes s+nodes t) s t) (jjf o (nodes s+nodes t) t s)
noncomputable def jkF(o:Ord')(s t:T):A:=if jhr o && (good o s && good o t)then .tup [vi (jkD o s t),vb true]else .tup [vi 0,vb false]
theorem jot(o:Ord')(s t:T)(ho:owf o)(hw:twf s)(hs:tsz s<=1048576)(hw':twf t)(hs':tsz t<=1048576):G 82 [od o,tm s,tm t]=some (jkF o s t,[]):=by
 have e1:=jxV o ho;have e2:=jq1 o s ho.1.2 hw hs;have e3:=jq1 o t ho.1.2 hw' hs';have e4:=jkk s hw t hw';have e7:=jxU (dq s t) (jjf o (nodes s+nodes t) s t) (jjf o (nodes s+nodes t) t s);rw[g82,jkF];cases h:jhr o<;>rw[h]at e1
 .simp only[evz,e1,Bool.false_and]
 .cases h2:good o s<;>rw[h2]at e2
  .simp only[evz,e1,e2,Bool.and_false,Bool.false_and]
  .cases h3:good o t<;>rw[h3]at e3
   .simp only[evz,e1,e2,e3,Bool.and_false]
   .have g2:=jqQ h2;have g3:=jqQ h3;have e5:=jpG h ho.1.2 (nodes s+nodes t) s t (jl _) hw hw' hs hs' g2.2.1 g3.2.1;have e6:=jpG h ho.1.2 (nodes s+nodes t) t s (by omega) hw' hw hs' hs g3.2.1 g2.2.1;simp only[evz,e1,e2,e3,e4,e5,e6,e7,jkD]
theorem joj{o:Ord'}(hv:jhr o=true)(s t:T)(ho:owf o)(hw:twf s)(hs:tsz s<=1048576)(hw':twf t)(hs':tsz t<=1048576)(hk:okT s=true)(hk':okT t=true)(hc:jiP o.syms s=true)(hc':jiP o.syms t=true):G 106 [od o,tm s,tm t]=some (vi (jkD o s t),[]):=by
 have e4:=jhE s hw t hw';have e5:=jvr hv ho.1.2 (nodes s+nodes t) s t (jl _) hw hw' hs hs' hk hk' hc hc';have e6:=jvr hv ho.1.2 (nodes s+nodes t) t s (by omega) hw' hw hs' hs hk' hk hc' hc;have c1:G 152 [.elt (jsz o) 0,.elt [sv s.name,.sl 2 (s.args.map jdd)] 0,.elt [sv t.name,.sl 2 (t.args.map jdd)] 0]=some (vb (jjf o (nodes s+nodes t) s t),[]):=by
  rw[jFX];simp only[evz,jm9,jna,e5]
 have c2:G 154 [.elt (jsz o) 0,.elt [sv t.name,.sl 2 (t.args.map jdd)] 0,.elt [sv s.name,.sl 2 (s.args.map jdd)] 0]=some (vb (jjf o (nodes s+nodes t) t s),[]):=by
  rw[jFZ];simp only[evz,jm9,jna,e6]
 have e7:=jpY (f:=152) (g:=154) rfl rfl (dq s t) _ _ c1 c2;rw[jFU];simp only[evz,e4,e7,jkD]
def jkg(t:T):T:=t.args.getD 0 (.mk [] [])
def jkX(t:T):T:=t.args.getD 1 (.mk [] [])
def jqs(t:T):Bool:=decide (t.args.length=2) && (jfs t && (okT (jkg t) && okT (jkX t)))
theorem jkh{t:T}(hl:t.args.length=2):jda 2 (tms t.args) (vi 0)=some (.elt (jdd (jkg t)) 0)/\jda 2 (tms t.args) (vi 1)=some (.elt (jdd (jkX t)) 0)/\jkg t∈t.args/\jkX t∈t.args:=by
 have e0:jkg t=t.args[0]:=by unfold jkg;simp[jK,hl]
 have e1:jkX t=t.args[1]:=by unfold jkX;simp[jK,hl]
 rw[e0,e1];exact⟨jaa (i:=0) (by omega),jaa (i:=1) (by omega),jcF _,jcF _⟩
theorem jpA(t:T)(hw:twf t)(hs:tsz t<=1048576)(he:t.name=[61]):G 48 [tm t]=some (vb (jqs t),[]):=by
 obtain⟨w1,w2,w3⟩:=(jgM t).1 hw;have w3:=(jgz _).1 w3;have het:(t.name=[61])=True:=eq_true he;unfold jqs;rw[g48];by_cases hl:t.args.length=2;rotate_left
 .have hl':¬((t.args.length:Nat):Int)=2:=by omega
  simp only[evz,het,hl',hl,Bool.false_and]
 have hl':((t.args.length:Nat):Int)=2:=by omega
 rw[decide_eq_true hl,Bool.true_and];obtain⟨i0,i1,ma,mb⟩:=jkh hl;have p1:=jqX t hw hs;have p2:=jmk _ (w3 _ ma);have p3:=jmk _ (w3 _ mb);cases h1:jfs t<;>rw[h1]at p1
 .simp only[evz,het,hl',p1,Bool.false_and]
 .cases h2:okT (jkg t)<;>rw[h2]at p2
  .simp only[evz,het,hl',p1,i0,ja1,p2,Bool.false_and,Bool.and_false]
  .simp only[evz,het,hl',p1,i0,i1,ja1,p2,p3,Bool.true_and]
theorem jit(t:T):G 55 [tm t]=some (vb (decide (t.name=[61])),[]):=by
 rw[g55];simp only[evz]
theorem jon(t:T)(hw:twf t)(hs:tsz t<=1048576)(he:t.name=[61]):G 128 [tm t]=some (vb (jqs t),[]):=by
 obtain⟨w1,w2,w3⟩:=(jgM t).1 hw;have w3:=(jgz _).1 w3;have q0:=jit t;rw[decide_eq_true he]at q0;unfold jqs;rw[jFW];by_cases hl:t.args.length=2;rotate_left
 .have hl':¬((t.args.length:Nat):Int)=2:=by omega
  simp only[evz,q0,hl',hl,Bool.false_and]
 have hl':((t.args.length:Nat):Int)=2:=by omega
 rw[decide_eq_true hl,Bool.true_and];obtain⟨i0,i1,ma,mb⟩:=jkh hl;have p1:=jmh t hw hs;have p2:=jli _ (w3 _ ma);have p3:=jli _ (w3 _ mb);cases h1:jfs t<;>rw[h1]at p1
 .simp only[evz,q0,hl',p1,Bool.false_and]
 .cases h2:okT (jkg t)<;>rw[h2]at p2
  .simp only[evz,q0,hl',p1,i0,ja1,p2,Bool.false_and,Bool.and_false]
  .simp only[evz,q0,hl',p1,i0,i1,ja1,p2,p3,Bool.true_and]
def jI5(o:Ord')(t:T):Bool:=decide (t.name=[61]) && (jqs t && (jiP o.syms (jkg t) && jiP o.syms (jkX t)))
theorem jif(n:Xb)(us:Xg):tsz (.mk n us)=n.length+us.length+jhv us:=rfl
theorem jE8:∀t:T,tsz t<=1048576->twf t:=by
 refine T.ind λt ih h=>?_;have h':=h;rw[jgG]at h';exact(jgM t).2 ⟨by omega,by omega,(jgz _).2 λu hu=>ih u hu (by have:=jhq hu;omega)⟩
theorem jsB{n:Nat}(h:n<=4194304):jcK n 40=true:=by
 unfold jcK;exact decide_eq_true ⟨by omega,by omega⟩
theorem jkL(t:T):tsz t<=1048576->G 42 [tm t]=some (tm t,[]):=by
 refine T.ind (p:=λt=>tsz t<=1048576->G 42 [tm t]=some (tm t,[])) ?_ t;intro t ih h;rw[jgG]at h;have key:=(upto (P:=λi=>jwi (vi i) (sv t.name) (tms t.args) (sv []) (sv t.name) [] ((t.args.take i).map jdd)=some (tm t,[])) (n:=t.args.length) ?_ ?_ 0 (Nat.zero_le _))
 .rw [g42];simp only[Int.natCast_zero,List.take_zero,List.map_nil]at key;simp only[evz,key]
 .rw [jDx,List.take_length];simp only[evz]
 .intro i hi ih';have hlt:(i:Int)<((t.args.length:Nat):Int):=by omega
  have h5:=jef hi (by show t.args.length<=9223372036854775807;omega)
  have e1:=ih t.args[i] (jcF _) (by have:=jhq (jcF hi);omega)
  have hf:jcK (i+1) 40=true:=jsB (by omega);have hl:((t.args.take i).map jdd).length=i:=by rw[jbw,List.length_take];omega
  have ha:jgo ((t.args.take i).map jdd) [[sv t.args[i].name,tms t.args[i].args]]=(t.args.take (i+1)).map jdd:=by
   rw[show[sv t.args[i].name,tms t.args[i].args]=jdd t.args[i] from(jfY _).symm,List.take_add_one,jz hi,jv];rfl
  rw[jDx];simp only[evz,hlt,jaa hi,ja1,e1,hl,hf,ha,h5,ih']
theorem jCT(o:Ord')(s t:T):jha o s t=0↔rk o s=rk o t/\s.args.length=t.args.length:=by
 unfold jha jkY;constructor
 .intro h;split at h
  .rename_i h1;refine⟨h1,?_⟩;split at h
   .omega
   .split at h<;>omega
  .split at h
   .omega
   .split at h<;>omega
 .rintro ⟨h1,h2⟩;rw[jc6 h1,ko (by omega),ko (by omega)]
theorem jCS(o:Ord')(s:T):jha o s s=0:=(jCT o s s).2 ⟨rfl,rfl⟩
theorem jwJ:∀l:Xg,fd l l=none
 | []=>rfl
 |x::l=>by rw[fd,jc6 (jiI.2 rfl),jwJ l]
def Lp(o:Ord')(s t:T):Prop:=jxZ o (nodes s+nodes t) s t=true
theorem jlK{s a:T}(h:a∈s.args):nodes a<nodes s:=by
 have:=jhU h;rw[jfj s];omega
def Kp(o:Ord')(s t:T):Prop:=jjf o (nodes s+nodes t) s t=true
theorem jmj(o:Ord'):∀(n m:Nat)(s t:T),nodes s+nodes t<=n->nodes s+nodes t<=m->jjf o n s t=jjf o m s t
 |0,_,s,t,h,_=>by have:=jhN s;omega
 |_+1,0,s,t,_,h=>by have:=jhN s;omega
 |n+1,m+1,s,t,h1,h2=>by
  rw[jjf,jjf];cases hf:fd s.args t.args with
  |none=>rfl
  |some p=>
   obtain⟨a,b⟩:=p;have hm:=jsd hf;have h3:=jlK hm.1;have h4:=jlK hm.2;simp only[jmj o n m a b (by omega) (by omega)]
theorem jyQ(o:Ord')(s t:T):Kp o s t↔bal s t=true/\(wt o t<wt o s\/(wt o s=wt o t/\(jdc s.name=false/\jdc t.name=false)/\(0<jha o s t\/(jha o s t=0/\ ∃a b,fd s.args t.args=some (a,b)/\Kp o a b)))):=by
 unfold Kp;obtain⟨n,hn⟩:∃n,nodes s+nodes t=n+1:=⟨nodes s+nodes t-1,by have:=jhN s;omega⟩;rw[hn,jjf];have e3:(match fd s.args t.args with|some (a,b)=>jjf o n a b|none=>false)=true↔ ∃a b,fd s.args t.args=some (a,b)/\jjf o (nodes a+nodes b) a b=true:=by
  cases hf:fd s.args t.args with
  |none=>simp
  |some p=>
   obtain⟨a,b⟩:=p;have hm:=jsd hf;have h3:=jlK hm.1;have h4:=jlK hm.2;dsimp only;rw[jmj o n (nodes a+nodes b) a b (by omega) (jl _)];constructor
   .intro h;exact⟨a,b,rfl,h⟩
   .rintro ⟨a',b',h,h'⟩;cases h;exact h'
 cases hb:bal s t
 .simp
 .rw [jc6 rfl];simp only[true_and];by_cases hw:wt o s=wt o t
  .rw [jc6 hw];have hw':¬wt o t<wt o s:=by omega
   cases hv:jdc s.name
   .cases hv2:jdc t.name
    .simp only[Bool.or_self,JG,if_false,true_and,and_self];by_cases hr:jha o s t=0
     .rw [jc6 hr];refine Iff.trans e3 ?_;constructor
      .intro h;exact Or.inr ⟨hw,Or.inr ⟨hr,h⟩⟩
      .rintro (h|⟨_,h|⟨_,h⟩⟩)
       .exact (hw' h).elim
       .omega
       .exact h
     .rw [ko hr,decide_eq_true_iff];constructor
      .intro h;exact Or.inr ⟨hw,Or.inl h⟩
      .rintro (h|⟨_,h|⟨h,_⟩⟩)
       .exact (hw' h).elim
       .exact h
       .exact (hr h).elim
    .simp [hw']
   .simp [hw']
  .rw [ko hw,decide_eq_true_iff];constructor
   .intro h;exact Or.inl h
   .rintro (h|⟨h,_⟩)
    .exact h
    .exact (hw h).elim
theorem jBq{n:Xb}(hn:jdc n=true):∀t:T,okT t=true->(n∈jgi t↔1<=cnt n t):=by
 refine T.ind λt ih hk=>?_;have hL:∀ts:Xg,(∀u∈ts,(n∈jgi u↔1<=cnt n u))->(n∈jgR ts↔1<=jjk n ts):=by
  intro ts;induction ts with
  |nil=>intro _;simp[jgR,jjk]
  |cons u us ih2=>
   intro h;have h1:=h u (by simp);have h2:=ih2 λv hv=>h v (by simp[hv]);simp only[jgR,jjk,Yo,h1,h2];omega
 have hargs:=hL t.args λu hu=>ih u hu (jgW hk u hu);rw[jh0,jnw];rw[jhp]at hk;cases hv:jdc t.name
 .have hne:t.name≠n:=λe=>by rw[e,hn]at hv;cases hv
  rw[ko Bool.false_ne_true,ko hne,hargs];omega
 .rw [hv,jc6 rfl]at hk;have ha:=List.isEmpty_iff.1 hk;rw[jc6 rfl,jU,ha];by_cases e:t.name=n
  .rw [jc6 e];simp[jjk,e]
  .rw [ko e];simp[jjk];exact λh=>e h.symm
theorem juV{n:Xb} :∀t:T,n∈jgi t->jdc n=true:=by
 refine T.ind λt ih h=>?_;rw[jh0]at h;cases hv:jdc t.name
 .rw [hv,ko Bool.false_ne_true]at h;have:∀ts:Xg,(∀u∈ts,n∈jgi u->jdc n=true)->n∈jgR ts->jdc n=true:=by
   intro ts;induction ts with
   |nil=>intro _ h;simp[jgR]at h
   |cons u us ih2=>
    intro h h2;simp only[jgR,Yo]at h2;rcases h2 with h2|h2
    .exact h u (by simp) h2
    .exact ih2 (λv hv=>h v (by simp[hv])) h2
  exact this t.args ih h
 .rw [hv,jc6 rfl,jU]at h;rw[h];exact hv
theorem jD9(o:Ord')(x:T):¬Kp o x x:=by
 intro h;obtain⟨_,h|⟨_,_,h|⟨_,_,_,h,_⟩⟩⟩:=(jyQ o x x).1 h
 .omega
 .rw [jCS]at h;omega
 .rw [jwJ]at h;cases h
theorem jxH(o:Ord')(s t:T):jkD o s t=jle (dq s t) (@decide (Kp o s t) (Classical.propDecidable _)) (@decide (Kp o t s) (Classical.propDecidable _)):=by
 have e1:jjf o (nodes s+nodes t) s t = @decide (Kp o s t) (Classical.propDecidable _):=by
  unfold Kp;cases jjf o (nodes s+nodes t) s t<;>simp
 have e2:jjf o (nodes s+nodes t) t s = @decide (Kp o t s) (Classical.propDecidable _):=by
  rw[jmj o (nodes s+nodes t) (nodes t+nodes s) t s (by omega) (jl _)];unfold Kp;cases jjf o (nodes t+nodes s) t s<;>simp
 unfold jkD;rw[e1,e2]
def rbI(c:Int):Int:=if c=2 then 3 else if c=3 then 2 else c
open Classical in
open Classical in
theorem jza{R:T->T->Prop}{s t:T}(hir:∀x,¬R x x):jle (dq s t) (decide (R s t)) (decide (R t s))=2↔R s t:=by
 unfold jle;cases hd:dq s t
 .by_cases h1:R s t
  .simp [h1]
  .by_cases h2:R t s<;>simp[h1,h2]
 .have:=jiI.1 hd;subst this;simp[hir s]
theorem jCz(o:Ord')(s t:T):jkD o s t=2↔Kp o s t:=by
 rw[jxH];exact jza (R:=Kp o) (jD9 o)
def look:List (Xb×T)->Xb->Option T
 | [],_=>none
 |p::u,n=>if p.1=n then some p.2 else look u n
def jiQ(u:List (Xb×T))(n:Xb):T:=(look u n).getD (.mk n [])
mutual
def sub(u:List (Xb×T)):T->T
 |.mk n us=>if jdc n then jiQ u n else .mk n (jyn u us)
def jyn(u:List (Xb×T)):Xg->Xg
 | []=>[]
 |t::ts=>sub u t::jyn u ts
end
theorem juA(u:List (Xb×T)):∀ts:Xg,jyn u ts=ts.map (sub u)
 | []=>rfl
 |t::ts=>by rw[jyn,juA u ts,j5]
theorem ji6{u:List (Xb×T)}{t:T}(h:jdc t.name=true):sub u t=jiQ u t.name:=by
 obtain⟨n,us⟩:=t;have h:jdc n=true:=h;show(if jdc n then jiQ u n else T.mk n (jyn u us))=_;rw[jc6 h];rfl
theorem jiO{u:List (Xb×T)}{t:T}(h:jdc t.name=false):sub u t = .mk t.name (t.args.map (sub u)):=by
 obtain⟨n,us⟩:=t;have h:jdc n=false:=h;show(if jdc n then jiQ u n else T.mk n (jyn u us))=_;rw[h,ko Bool.false_ne_true,juA];rfl
theorem jlz{u:List (Xb×T)}{t:T}(h:jdc t.name=false):(sub u t).name=t.name:=by rw[jiO h];rfl
theorem jkq{u:List (Xb×T)}{t:T}(h:jdc t.name=false):(sub u t).args=t.args.map (sub u):=by rw[jiO h];rfl
theorem jjK{t:T}(h:okT t=true)(hv:jdc t.name=true):t.args=[]:=by
 rw[jhp,hv,jc6 rfl]at h;exact List.isEmpty_iff.1 h
def jIs(f:Xb->Int):Xa->Int
 | []=>0
 |x::l=>f x+jIs f l
theorem jBe{o:Ord'}(hv:jhr o=true){n:Xb}(h:o.syms.contains n=true):o.var<=joy o n:=by
 obtain⟨k,hk,hlt⟩:=jmP h;obtain⟨h1,h2,h3,h4⟩:=jj3 hv;have h5:=h4 k hlt;have hlt':k<o.ws.length:=by omega
 have e:joy o n=o.ws.getD k 0:=by simp[joy,hk]
 rw[e];exact h5.1
theorem jFc{o:Ord'}(hv:jhr o=true){t:T}(hc:jiP o.syms t=true):o.var<=wt o t:=by
 have hc':=hc;rw[jiw,Yn]at hc';have hb:=(jkt hv hc'.2).1;rw[juY];cases hn:jdc t.name with
 |true=>simp only[zv];omega
 |false=>
  have hcn:=hc'.1;rw[hn,Bool.false_or]at hcn;have:=jBe hv hcn;simp only[JG,if_false];omega
abbrev bc(p:Xb×T):Xd:=[sv p.1,sv p.2.name,.sl 2 (p.2.args.map jdd)]
abbrev sbs(u:List (Xb×T)):A:= .sl 3 (u.map bc)
abbrev sb(u:List (Xb×T)):A:= .agg [sbs u]
theorem jkM(p:Xb×T):jar 2 (.elt (bc p) 1)=some (tm p.2):=rfl
def Sz(z:Nat)(u:List (Xb×T)):Prop:=u.length<=z/\ ∀p∈u,p.1.length<=z/\tsz p.2<=z
theorem jqZ(u:List (Xb×T))(hl:u.length<=1048576)(n:Xb):(look u n=none/\G 45 [sb u,sv n]=some (vi (-1),[]))\/ ∃k,∃h:k<u.length,look u n=some u[k].2/\G 45 [sb u,sv n]=some (vi (k:Nat),[]):=by
 have key:=upto (P:=λi=>(look (u.drop i) n=none/\js5 (sv n) (vi i) (sbs u)=some (vi (-1),[]))\/ ∃k,∃h:k<u.length,look (u.drop i) n=some u[k].2/\js5 (sv n) (vi i) (sbs u)=some (vi (k:Nat),[])) (n:=u.length) ?_ ?_ 0 (Nat.zero_le _)
 .rw [g45];exact key
 .left;rw[List.drop_length,jDz];exact⟨rfl,by simp only[evz]⟩
 .intro i hi ih;have hlt:(i:Int)<((u.length:Nat):Int):=by omega
  have h5:=jef hi (by show u.length<=9223372036854775807;omega)
  rw[jDz,jdb hi,look];by_cases he:u[i].1=n
  .right;rw[jc6 he];exact⟨i,hi,rfl,by simp only[evz,hlt,jaa hi,he]⟩
  .rw [ko he];rcases ih with⟨h1,h2⟩|⟨k,hk,h1,h2⟩
   .left;exact⟨h1,by simp only[evz,hlt,jaa hi,he,h5,h2]⟩
   .right;exact⟨k,hk,h1,by simp only[evz,hlt,jaa hi,he,h5,h2]⟩
theorem jia(u:List (Xb×T))(hu:Sz 1048576 u)(t:T):tsz t<=1048576->G 17 [sb u,tm t]=some (tm (sub u t),[]):=by
 refine T.ind (p:=λt=>tsz t<=1048576->G 17 [sb u,tm t]=some (tm (sub u t),[])) ?_ t;intro t ih hs;have h:=hs;rw[jgG]at h;have e1:=jg8 t.name (by show t.name.length<=9223372036854775807;omega);rw[g17];cases hv:jdc t.name<;>rw[hv]at e1
 .have key:=(upto (P:=λi=>jwd (vi i) (sbs u) (sv t.name) (tms t.args) (sv []) (sv t.name) [] (((t.args.map (sub u)).take i).map jdd)=some (tm (sub u t),[])) (n:=t.args.length) ?_ ?_ 0 (Nat.zero_le _))
  .simp only[Int.natCast_zero,List.take_zero,List.map_nil]at key;simp only[evz,e1,key]
  .rw [jDq,jT (by rw[jbw];omega),jiO hv]
   simp only[evz];rfl
  .intro i hi ih';have hlt:(i:Int)<((t.args.length:Nat):Int):=by omega
   have h5:=jef hi (by show t.args.length<=9223372036854775807;omega)
   have e2:=ih t.args[i] (jcF _) (by have:=jhq (jcF hi);omega)
   have hf:jcK (i+1) 40=true:=jsB (by omega);have hi2:i<(t.args.map (sub u)).length:=by rw[jbw];exact hi
   have hl:(((t.args.map (sub u)).take i).map jdd).length=i:=by rw[jbw,List.length_take,jbw];omega
   have ha:jgo (((t.args.map (sub u)).take i).map jdd) [[sv (sub u t.args[i]).name,tms (sub u t.args[i]).args]]=((t.args.map (sub u)).take (i+1)).map jdd:=by
    rw[show[sv (sub u t.args[i]).name,tms (sub u t.args[i]).args]=jdd (sub u t.args[i]) from(jfY _).symm,List.take_add_one,jz hi2,jv,List.getElem_map];rfl
   generalize ((t.args.map (sub u)).take i).map jdd=R at *;rw[jDq];simp only[evz,hlt,jaa hi,ja1,e2,hl,hf,ha,h5,ih']
 .rw [ji6 hv,jiQ];rcases jqZ u hu.1 t.name with⟨h1,h2⟩|⟨k,hk,h1,h2⟩
  .rw [h1];simp only[evz,e1,h2];rfl
  .rw [h1];have hm:=hu.2 _ (jcF hk);have e3:=jkL u[k].2 hm.2;have hk0:(0:Int)<=((k:Nat):Int):=by omega
   simp only[evz,e1,h2,hk0,jaa hk,jkM,e3,jbt]
theorem jtV:∀{u:List (Xb×T)}{n:Xb}{r:T},look u n=some r-> ∃p∈u,p.2=r
 |p::u,n,r,h=>by
  rw[look]at h;by_cases e:p.1=n
  .rw [jc6 e]at h;cases h;exact⟨p,by simp,rfl⟩
  .rw [ko e]at h;obtain⟨q,hq,h⟩:=jtV h;exact⟨q,by simp[hq],h⟩
theorem jqc{u:List (Xb×T)}{Z:Nat}(hZ:1<=Z)(hu:∀p∈u,tsz p.2<=Z):∀t:T,tsz (sub u t)<=tsz t*Z:=by
 refine T.ind λt ih=>?_;have hmul:∀n:Nat,n<=n*Z:=λn=>Nat.le_mul_of_pos_right n hZ;cases hv:jdc t.name
 .have hL:∀ts:Xg,(∀v∈ts,tsz (sub u v)<=tsz v*Z)->jhv (ts.map (sub u))<=jhv ts*Z:=by
   intro ts;induction ts with
   |nil=>intro _;simp[jhv]
   |cons v vs ih2=>
    intro h;have h1:=h v (by simp);have h2:=ih2 λw hw=>h w (by simp[hw]);simp only[j5,jhv,zZ];omega
  have h1:=hL t.args ih;have h2:=hmul t.name.length;have h3:=hmul t.args.length;rw[jgG t,jgG (sub u t),jlz hv,jkq hv,jbw,zZ,zZ];omega
 .rw [ji6 hv,jiQ];have h1:1<=t.name.length:=by
   cases hn:t.name with
   |nil=>rw[hn]at hv;cases hv
   |cons c r=>simp
  have h2:=jgG t;cases hlk:look u t.name with
  |none=>
   have:=hmul t.name.length;show tsz (.mk t.name [])<=_;rw[jif,h2,zZ,zZ];simp only[jgS,jhv];omega
  |some r=>
   obtain⟨p,hp,rfl⟩:=jtV hlk;have h3:=hu p hp;show tsz p.2<=_;have h4:1*Z<=tsz t*Z:=ky Z (by omega);omega
abbrev jem:=List (Xb×T)
mutual
noncomputable def mt(m:jem)(p:T)(t:T):Option jem:=
 match p with
 |.mk n us=>if jdc n then(match look m n with|some r=>if dq r t then some m else none|none=>some (m++[(n,t)]))
   else if n=t.name/\us.length=t.args.length then mtL m us t.args else none
termination_by structural p
noncomputable def mtL(m:jem)(ps:Xg)(ts:Xg):Option jem:=
 match ps with
 | []=>some m
 |u::us=>(match ts with| []=>some m|t::ts=>(mt m u t).bind λm'=>mtL m' us ts)
termination_by structural ps
end
theorem jiZ{u:jem}{n:Xb} :look u n=none↔ ∀p∈u,p.1≠n:=by
 induction u with
 |nil=>simp[look]
 |cons p u ih=>
  rw[look];by_cases h:p.1=n
  .rw [jc6 h];simp[h]
  .rw [ko h,ih];simp[h]
theorem jjY:∀{u:jem}{n:Xb}{r:T},look u n=some r->(n,r)∈u
 |p::u,n,r,h=>by
  rw[look]at h;by_cases e:p.1=n
  .rw [jc6 e]at h;cases h;rw[<-e];simp
  .rw [ko e]at h;exact kO _ (jjY h)
def MOk(p:T->Prop)(m:jem):Prop:=(m.map Prod.fst).Nodup/\(∀q∈m,jdc q.1=true/\p q.2)
theorem MOk.nil(p:T->Prop):MOk p []:=⟨by simp,λq h=>by cases h⟩
def jj8(s:jem)(n:Xb)(t:T):jem:=s.takeWhile (λp=>sLt p.1 n)++(n,t)::s.dropWhile (λp=>sLt p.1 n)
def jjN(s:jem)(n:Xb)(t:T):jem:=if t.name=n then s else jj8 s n t
def jmq(m:jem):jem:=m.foldl (λs p=>jjN s p.1 p.2) []
theorem jlM(a:Xb):sLt a a=false:=by
 unfold sLt;cases h:Op.bytesLess a a with
 |false=>rfl
 |true=>
  exfalso;induction a with
  |nil=>simp[Op.bytesLess]at h
  |cons c r ih=>simp[Op.bytesLess]at h;exact ih h
theorem jAy(n:Xb)(h:jdc n=true):okT (.mk n [])=true:=by rw[jhp];show(if jdc n then _ else _)=true;rw[jc6 h];rfl
theorem jkO{u:jem}(hu:∀q∈u,okT q.2=true):∀t:T,okT t=true->okT (sub u t)=true:=by
 refine T.ind λt ih hk=>?_;cases hv:jdc t.name with
 |true=>
  rw[ji6 hv,jiQ];cases h:look u t.name with
  |none=>exact jAy _ hv
  |some r=>exact hu _ (jjY h)
 |false=>
  have hk':=hk;rw[jhp,hv,ko Bool.false_ne_true,Yn,Yn,jiu]at hk;rw[jhp,jlz hv,hv,ko Bool.false_ne_true,jkq hv,Yn,Yn,jiu];refine⟨hk.1,by simpa using hk.2.1,?_⟩;rw[List.all_map,jE];intro a ha;exact ih a ha (jE.1 hk.2.2 a ha)
def jk1(r:T):T:=r.args.getD 0 (.mk [] [])
def jk3(r:T):T:=r.args.getD 1 (.mk [] [])
noncomputable def jA3:Xg->T->Option T
 | [],_=>none
 |r::rs,t=>(match mt [] (jk1 r) t with|some m=>some (sub m (jk3 r))|none=>jA3 rs t)
mutual
noncomputable def jGk(rs:Xg)(root:Bool):T->Option T
 |.mk n us=>(match jDW rs us with|some us'=>some (.mk n us')|none=>if root then jA3 rs (.mk n us)else none)
noncomputable def jDW(rs:Xg):Xg->Option Xg
 | []=>none
 |t::ts=>(match jGk rs true t with|some t'=>some (t'::ts)|none=>(jDW rs ts).map (t::·))
end
def atT:Xf->T->T
 | [],t=>t
 |i::p,t=>atT p (t.args.getD i (.mk [] []))
def jgJ(s:T):Xf->T->T
 | [],_=>s
 |i::p,t=>.mk t.name (t.args.set i (jgJ s p (t.args.getD i (.mk [] []))))
mutual
def jug:T->List Xf
 |.mk _ us=>jp1 0 us++[[]]
def jp1(i:Nat):Xg->List Xf
 | []=>[]
 |t::ts=>(jug t).map (i::·)++jp1 (i+1) ts
end
noncomputable def jIq(rs:Xg)(root:Bool)(t:T)(p:Xf):Option T:=if p=[]/\root=false then none else(jA3 rs (atT p t)).map λs=>jgJ s p t
def jBJ(rs:Xg):Prop:=∀r∈rs,okT (jk1 r)=true/\okT (jk3 r)=true
noncomputable def rwN(rs:Xg)(root:Bool):Nat->Nat->T->Option (T×Nat)
 |0,_,_=>none
 |k+1,n,t=>(match jGk rs root t with
  |none=>some (t,n)
  |some u=>if k=0\/jfs u=false then none else rwN rs root k (n+1) u)
theorem jmO(ts:Xg)(hl:ts.length<=1048576)(ih:∀t∈ts,G 107 [tm t]=some (tm t,[])):jrB (tms ts)=some (.top,[tms ts]):=by
 rw[jEn];by_cases h0:ts.length=0
 .have:ts=[]:=List.length_eq_zero_iff.1 h0;subst this;simp only[evz,Int.natCast_zero];rfl
 have hz:¬((ts.length:Nat):Int)=0:=by omega
 have hm:=jnN (b:=40) (n:=ts.length) (by omega) hl;have key:=(upto (P:=λi=>jmy (tms ts) (vi (ts.length:Nat)) (vi i) (part jdd [sv [],.sl 2 []] ts i)=some (.top,[tms ts])) (n:=ts.length) ?_ ?_ 0 (Nat.zero_le _))
 .simp only[Int.natCast_zero,<-jra]at key;simp only[evz,hz,hm,key]
 .rw [jtN,jub];simp only[evz]
 .intro i hi ih';have hlt:(i:Int)<((ts.length:Nat):Int):=by omega
  have h1:=jn7 (f:=jdd) (z:=[sv [],.sl 2 []]) (Nat.le_of_lt hi);have h2:pIx (part jdd [sv [],.sl 2 []] ts i).length (vi i)=some i:=jg7 (by omega);have h4:=jud (f:=jdd) (z:=[sv [],.sl 2 []]) hi;rw[jfY]at h4;have h5:=jef hi (ZD hl (by decide));have e1:G 107 [A.agg [sv ts[i].name,tms ts[i].args]]=_:=ih ts[i] (jcF _);rw[jtN];simp only[evz,hlt,jaa hi,ja1,e1,h2,juc hi,jmL,h4,h5,ih']
theorem jjS(t:T):tsz t<=1048576->G 107 [tm t]=some (tm t,[]):=by
 refine T.ind (p:=λt=>tsz t<=1048576->G 107 [tm t]=some (tm t,[])) ?_ t;intro t ih h;rw[jgG]at h;have e1:=jmO t.args (by omega) λu hu=>ih u hu (by have:=jhq hu;omega);rw[jG6];simp only[evz,e1]
theorem jvJ{n:Nat}(h:n<=4194304):jcK n 56=true:=by
 unfold jcK;exact decide_eq_true ⟨by omega,by omega⟩
def MR(o:Xe)(r:Option jem):Prop:=match r with
 |some m'=>o=some (.top,[vb true,.sl 259 (m'.map bc)])
 |none=>∃R,o=some (.top,[vb false,.sl 259 R])
theorem jAP{m:jem}{i:Nat}(hi:i<m.length):jec (m.map bc) i 0=some (sv m[i].1):=by unfold jec;simp[hi]
def Tz(t:T):Prop:=tsz t<=1048576
theorem Tz.args{t:T}(h:Tz t):∀u∈t.args,Tz u:=λu hu=>by
 have:=jhq hu;unfold Tz at h⊢;rw[jgG]at h;omega
theorem Tz.wf{t:T}(h:Tz t):twf t:=jE8 t h
abbrev kv(p:Xb×T):Xd:=[sv p.1,tm p.2]
theorem jEz(a b:Xb):eqK none (sv a) (sv b)=some (decide (a=b)):=by show some (decide (bs _=bs _))=_;refine congrArg some (decide_eq_decide.2 ?_);simp
def MI(o:Xe)(r:Option jem):Prop:=match r with
 |some m'=>o=some (.top,[vb true,.sl 128 (m'.map kv)])
 |none=>∃R,o=some (.top,[vb false,.sl 128 R])
theorem jnO(n:Xb)(t:T):∀(s:jem)(i:Nat),i<=s.length->(∀j,(h:j<i)-> ∀h':j<s.length,sLt s[j].1 n=true)->((∃h:i<s.length,sLt s[i].1 n=false)\/i=s.length)->jj8 s n t=s.take i++(n,t)::s.drop i
 | [],i,hi,_,_=>by
  have:i=0:=by simpa using hi
  subst this;rfl
 |p::s,0,_,_,h=>by
  have hp:sLt p.1 n=false:=by
   rcases h with⟨_,h⟩|h
   .exact h
   .cases h
  unfold jj8;rw[List.takeWhile_cons_of_neg (p:=λp:Xb×T=>sLt p.1 n) (by simp[hp]),List.dropWhile_cons_of_neg (p:=λp:Xb×T=>sLt p.1 n) (by simp[hp])];rfl
 |p::s,i+1,hi,h1,h=>by
  have hp:sLt p.1 n=true:=h1 0 (by omega) (by simp);have:=jnO n t s i (by simpa using hi) (λj hj hj'=>h1 (j+1) (by omega) (by simpa using hj')) (by
   rcases h with⟨h,h2⟩|h
   .exact Or.inl ⟨by simpa using h,h2⟩
   .exact Or.inr (by simpa using h))
  unfold jj8 at this⊢;rw[List.takeWhile_cons_of_pos (p:=λp:Xb×T=>sLt p.1 n) hp,List.dropWhile_cons_of_pos (p:=λp:Xb×T=>sLt p.1 n) hp,jG,this];rfl
theorem jhP{α:Type}(f:α->Xd)(l:List α):jbR (l.map f)=l.length:=jbw ..
theorem jul(u:jem)(hl:u.length<=1000000)(i:Nat)(hi:i<=u.length) :
  pB u.length u.length (some (vi (i:Nat)))=some i/\jgq (u.map bc) 0 i=(u.take i).map bc/\jcK (u.take i).length 56=true/\pB u.length u.length none=some u.length/\pB 0 u.length (some (vi (i:Nat)))=some i/\jgq (u.map bc) i (u.length-i)=(u.drop i).map bc/\jfy (u.map bc) 0=u.length/\jcK ((u.take i).length+1) 56=true/\jcK ((u.take i).length+1+(u.drop i).length) 56=true:=by
 refine⟨jhY hi,by rw[jgq,List.drop_zero,List.map_take],jvJ (by rw[List.length_take];omega),jg6 (jl _),jhY hi,?_,by rw[jfy,jbw];rfl,jvJ (by rw[List.length_take];omega),jvJ (by rw[List.length_take,List.length_drop];omega)⟩
 rw[jgq,<-List.map_drop,jT (by rw[jbw,List.length_drop];omega)]
theorem juk(u v:jem)(n:Xb)(t:T):jgo (jgo (u.map bc) [[sv n,sv t.name,tms t.args]]) (v.map bc)=(u++(n,t)::v).map bc:=by
 rw[jv];show(u.map bc++[_])++v.map bc=u.map bc++_::v.map bc;rw[jbs];rfl
theorem jum(u:jem)(n:Xb)(t:T):(jgo (u.map bc) [[sv n,sv t.name,tms t.args]]).length=u.length+1:=by
 simp[jgo]
theorem jxd(u:jem)(hl:u.length<=1000000)(n:Xb)(t:T)(ht:Tz t):jv4 (sv n) (tm t) (u.map bc)=some (.top,[sbs (jjN u n t)]):=by
 have e1:=jkL t ht;have key:=upto (P:=λi=>(∀j,(h:j<i)-> ∀h':j<u.length,sLt u[j].1 n=true)->jmC (sv n) (vi i) (sv t.name) (tms t.args) (u.map bc) []=some (.top,[sbs (jj8 u n t)])) (n:=u.length) ?_ ?_ 0 (Nat.zero_le _) (λj h=>absurd h (Nat.not_lt_zero _))
 .rw [jFD,jjN];by_cases h:t.name=n
  .rw [jc6 h];simp only[evz,h]
  .rw [ko h];have e:jmC (sv n) (vi 0) (sv t.name) (tms t.args) (u.map bc) []=some (.top,[sbs (jj8 u n t)]):=key;simp only[evz,h,e]
 .intro hall;rw[jnO n t u u.length (jl _) hall (Or.inr rfl)];obtain⟨k1,k2,k3,k4,k5,k6,k7,k8,k9⟩:=jul u hl u.length (jl _);have m1:=juk (u.take u.length) (u.drop u.length) n t;have m2:=jum (u.take u.length) n t;rw[jso];simp only[evz,jhP,k1,k2,k3,k4,k5,k6,k7,jhJ,Nat.sub_zero,e1];generalize hB:JY _ _ _=B;have hB':B=some (.agg [sv n,sv t.name,tms t.args]):=by rw[<-hB];kernel_rfl
  rw[hB'];simp only[evz,k8,k9,m1,m2]
 .intro i hi ih hall;have hlt:(i:Int)<((u.length:Nat):Int):=by omega
  have h5:=jef hi (by show u.length<=9223372036854775807;omega)
  have x1:pIx u.length (vi ((i:Nat):Int))=some i:=jg7 hi;have x2:=jAP hi;cases hs:sLt u[i].1 n
  .rw [jnO n t u i (by omega) hall (Or.inl ⟨hi,hs⟩)];obtain⟨k1,k2,k3,k4,k5,k6,k7,k8,k9⟩:=jul u hl i (by omega);have m1:=juk (u.take i) (u.drop i) n t;have m2:=jum (u.take i) n t;rw[jso];simp only[evz,hlt,x1,x2,hs,jhP,k1,k2,k3,k4,k5,k6,k7,jhJ,Nat.sub_zero,e1];generalize hB:JY _ _ _=B;have hB':B=some (.agg [sv n,sv t.name,tms t.args]):=by rw[<-hB];kernel_rfl
   rw[hB'];simp only[evz,k8,k9,m1,m2]
  .have ih:=ih λj hj hj'=>by
    by_cases h:j=i
    .subst h;exact hs
    .exact hall j (by omega) hj'
   rw[jso];simp only[evz,hlt,x1,x2,hs,h5,ih]
theorem jui(s:jem)(n:Xb)(t:T):(jjN s n t).length<=s.length+1:=by
 unfold jjN;split
 .omega
 .unfold jj8;rw[yM,yv];have:=List.takeWhile_append_dropWhile (p:=λp:Xb×T=>sLt p.1 n) (l:=s);have:=congrArg List.length this;rw[yM]at this;omega
theorem juj{s:jem}{n:Xb}{t:T}{q:Xb×T}(h:q∈jjN s n t):q∈s\/q=(n,t):=by
 unfold jjN at h;split at h
 .exact Or.inl h
 .unfold jj8 at h;rw[Yo,yN]at h;rcases h with h|h|h
  .exact Or.inl (List.takeWhile_subset _ h)
  .exact Or.inr h
  .exact Or.inl (List.dropWhile_subset _ h)
end Go.Proofs.YtjgmjdidbgcljaaGreatDoor
