/- Pa -/
import Derived.Test.YthapkjbfjniaiaaGreatDoorKt
import Derived.Test.YthapkjbfjniaiaaGreatDoorPq
import Derived.Test.YthapkjbfjniaiaaGreatDoorEd
import Derived.ChangeSame
namespace Go.Proofs.YthapkjbfjniaiaaGreatDoor
open Go Go.RowKit Go.Proofs.YthapkjbfjniaiaaGreatDoor.Abs
set_option linter.unusedSimpArgs false
set_option linter.unusedVariables false
abbrev ci(n:Int):Xd:=[vi n]
abbrev cs(s:Xb):Xd:=[sv s]
abbrev ints(l:Xi):A:= .sl 1 (l.map ci)
abbrev strs(l:Xa):A:= .sl 1 (l.map cs)
section
theorem jrm{α:Type}(x y:α):brn true x y=x:=rfl
theorem jm4{α:Type}(x y:α):brn false x y=y:=rfl
theorem jx1{α:Type}(b:Bool)(x y:α):brn b x y=if b=true then x else y:=rfl
theorem jyP:(-1:Int)<0:=by decide
theorem jmQ(b:Bool):qI (vb b)=some b:=rfl
theorem jrK(b:Bool)(x y:A):jf3 (vb b) x y=some (if b=true then x else y):=rfl
theorem jzS(b w:Bool)(x:Xl):pG (vb b) w x=if b=w then x else some (.val undef):=rfl
theorem jxi(b w:Bool):Jb (vb b) w=some (decide (b=w)):=rfl
theorem jxb(w:Bool)(x:Xl):pG (.val undef) w x=some (.val undef):=rfl
theorem jrM(w:Bool):Jb (.val undef) w=some false:=rfl
theorem jxc(k:Nat)(xs:Xc):jf1 (.sl k xs)=some (vi xs.length):=rfl
theorem jui(xs:Xc):jdE xs=vi xs.length:=rfl
theorem jxn(xs:Xc):JN xs=xs.length:=rfl
theorem jlB(l:Xb):jf2 (sv l)=some (vi l.length):=rfl
theorem jv9(a:A):fin false (a,[])=some a:=rfl
theorem jAh(b c:Bool):fin c (vb b,[])=some (vb b):=by cases c<;>rfl
theorem jAi(c:Bool)(n:Int):fin c (vi n,[])=some (vi n):=by cases c<;>rfl
theorem jyX(b:Bool):pUn .not (vb b)=some (vb (!b)):=rfl
theorem joT(b:Bool)(x y:Int):jgx .lss b (vi x) (vi y)=some (vb (decide (x<y))):=rfl
theorem jw4(b:Bool)(x y:Int):jgx .leq b (vi x) (vi y)=some (vb (decide (x<=y))):=rfl
theorem jw3(b:Bool)(x y:Int):jgx .gtr b (vi x) (vi y)=some (vb (decide (y<x))):=rfl
theorem jw2(b:Bool)(x y:Int):jgx .geq b (vi x) (vi y)=some (vb (decide (y<=x))):=rfl
theorem jw1(b:Bool)(x y:Int):jgx .eql b (vi x) (vi y)=some (vb (decide (x=y))):=rfl
theorem jw6(b:Bool)(x y:Int):jgx .neq b (vi x) (vi y)=some (vb (!decide (x=y))):=rfl
theorem ju3(b:Bool)(x y:Int):jgx .lss b (vy x) (vy y)=some (vb (decide (x<y))):=rfl
theorem ju2(b:Bool)(x y:Int):jgx .leq b (vy x) (vy y)=some (vb (decide (x<=y))):=rfl
theorem ju1(b:Bool)(x y:Int):jgx .gtr b (vy x) (vy y)=some (vb (decide (y<x))):=rfl
theorem ju0(b:Bool)(x y:Int):jgx .geq b (vy x) (vy y)=some (vb (decide (y<=x))):=rfl
theorem juZ(b:Bool)(x y:Int):jgx .eql b (vy x) (vy y)=some (vb (decide (x=y))):=rfl
theorem ju4(b:Bool)(x y:Int):jgx .neq b (vy x) (vy y)=some (vb (!decide (x=y))):=rfl
theorem ju5(x y:Bool):jgx .eql true (vb x) (vb y)=some (vb (decide (x=y))):=rfl
theorem ju6(x y:Bool):jgx .neq true (vb x) (vb y)=some (vb (!decide (x=y))):=rfl
theorem jjy(b:Bool)(x y:Int):jgx .add b (vi x) (vi y)=ck (x+y):=by cases b<;>rfl
theorem jw7(b:Bool)(x y:Int):jgx .sub b (vi x) (vi y)=ck (x-y):=by cases b<;>rfl
theorem jw5(b:Bool)(x y:Int):jgx .mul b (vi x) (vi y)=ck (x*y):=by cases b<;>rfl
theorem jgN{n:Int}(h1: -9223372036854775808<=n)(h2:n<=9223372036854775807):ck n=some (vi n):=ju ⟨h1,h2⟩
theorem jnj(b:Bool)(x y:Xb):jgx .add b (sv x) (sv y)=if x.length+y.length<=9223372036854775807 then some (sv (x++y))else none:=by cases b<;>rfl
theorem jnk(b:Bool)(x y:Xb):jgx .eql b (sv x) (sv y)=some (vb (decide (x=y))):=rfl
theorem jva(b:Bool)(x y:Xb):jgx .neq b (sv x) (sv y)=some (vb (!decide (x=y))):=rfl
theorem ju9(b:Bool)(x y:Xb):jgx .lss b (sv x) (sv y)=some (vb (sLt x y)):=rfl
theorem jxd(a:A)(l:Xd):jci (.elt (a::l) 0)=some a:=rfl
theorem joS(cs:Xd)(off n:Nat):jgw (.elt cs off) n=some (.elt cs (off+n)):=rfl
theorem js1(off:Nat)(cs:Xd):jcg off (.agg cs)=cs[off]? :=rfl
theorem jsZ(n:Nat)(ds:Xd):jez n (.agg ds)=if ds.length=n/\ds.all ZO=true then some ds else none:=rfl
theorem juz(a:A)(l:Xd):kG (a::l) 0=a:=rfl
theorem jvT(a b:A)(l:Xd):kG (a::b::l) 1=b:=rfl
theorem jvU(a b c:A)(l:Xd):kG (a::b::c::l) 2=c:=rfl
theorem jsG(a b c d:A)(l:Xd):kG (a::b::c::d::l) 3=d:=rfl
theorem jAy(k:Nat)(xs:Xc):ZO (.sl k xs)=true:=rfl
theorem jyR(cs:Xd)(o:Nat):ZO (.elt cs o)=true:=rfl
theorem jAx(f:FuncId)(l:Xd):ZO (.fn f l)=true:=rfl
theorem jAB(n:Int):ZO (vi n)=true:=rfl
theorem jAA(b:Bool):ZO (vb b)=true:=rfl
theorem jAz(l:Xb):ZO (sv l)=true:=rfl
theorem jAF(n:Nat)(i:Int):pIx n (vi i)=if 0<=i/\i<(n:Int)then some i.toNat else none:=rfl
theorem jiG{n i:Nat}(h:i<n):pIx n (vi i)=some i:=by
 rw[jAF,ju ⟨by omega,by omega⟩];simp
theorem jxf(k:Nat)(xs:Xc):qJ k (.sl k xs)=some xs:=ju rfl
theorem jAH(a:A)(l:Xd):jhh (.tup (a::l)) 0=some a:=rfl
theorem jAI(a b:A)(l:Xd):jhh (.tup (a::b::l)) 1=some b:=rfl
theorem jAJ(a b c:A)(l:Xd):jhh (.tup (a::b::c::l)) 2=some c:=rfl
theorem jyV(x y:Int):jgz (vi x) (vi y)=some (vi (if x<y then y else x)):=by
 unfold jgz;simp
theorem jyW(x y:Int):jgA (vi x) (vi y)=some (vi (if y<x then y else x)):=by
 unfold jgA;simp
theorem jBD(a:A)(l:Xd)(i:Nat):hD (a,l) i=l[i]? :=rfl
theorem jDb(k:Nat)(a:A)(xs:Xc)(l:Xd):hR k (a,.sl k xs::l) 0=some xs:=by simp[hR]
theorem jDc(k:Nat)(a b:A)(xs:Xc)(l:Xd):hR k (a,b:: .sl k xs::l) 1=some xs:=by simp[hR]
theorem jDd(k:Nat)(a b c:A)(xs:Xc)(l:Xd):hR k (a,b::c:: .sl k xs::l) 2=some xs:=by simp[hR]
theorem jjR{f:FuncId}{caps args:Xd}{c:Bool}(h:K.pureF f=true):DX.run K (MM K) (.callc (.fn f caps) args c)=(G f (args++caps)).bind (fin c):=by
 simp only[DX.run,h,zw]
theorem jaH{α:Type}{k:Nat}{f:α->Xd}{xs:List α}{i:Nat}(h:i<xs.length):zN k (.sl k (xs.map f)) (vi i)=some (.elt (f xs[i]) 0):=by
 simp only[zN,zw,jbP,jiG h,kH];simp[zk,h]
theorem jeZ{i n:Nat}(h:i<n)(hn:n<=9223372036854775807):jgx .add false (vi i) (vi 1)=some (vi ((i+1:Nat):Int)):=by
 rw[jjy,jgN (by omega) (by omega)];rfl
theorem jB0(d top:Nat)(z:Int):pB d top (some (vi z))=if 0<=z/\z<=(top:Int)then some z.toNat else none:=rfl
theorem jlA{d top n:Nat}(h:n<=top):pB d top (some (vi n))=some n:=by
 rw[jB0,ju ⟨by omega,by omega⟩];simp
theorem jiW{d top:Nat}(h:d<=top):pB d top none=some d:=ju h
theorem juh(xs:Xc):jdD xs=xs.length:=rfl
theorem jkb(xs:Xc)(off:Nat):jhi xs off=xs.length-off:=rfl
theorem juj(ys:Xc)(n:Nat):jh6 ys n=vi (min ys.length n:Nat):=rfl
theorem jr3(ys:Xc)(n:Nat):jhj ys n=ys.take n:=rfl
theorem juk(xs:Xc)(off n:Nat):jh7 xs off n=(xs.drop off).take n:=rfl
theorem jr2(xs:Xc)(off:Nat)(ys:Xc):qK xs off ys=xs.take off++ys++xs.drop (off+ys.length):=rfl
theorem jqH(a b:Nat):jh2 a b=a-b:=rfl
theorem upto{P:Nat->Prop}{n:Nat}(h0:P n)(hs:∀i,i<n->P (i+1)->P i):∀i,i<=n->P i:=by
 intro i hi;obtain⟨k,hk⟩:∃k,n=i+k:=⟨n-i,by omega⟩;induction k generalizing i with
 |zero=>rw[show i=n by omega];exact h0
 |succ k ih=>exact hs i (by omega) (ih (i+1) (by omega) (by omega))
theorem jeX{α:Type}{xs:List α}{i:Nat}(h:i<xs.length):xs.drop i=xs[i]::xs.drop (i+1):=List.drop_eq_getElem_cons h
theorem evs :
  ((-1:Int)<0)/\
  (∀{α:Type}(x y:α),brn true x y=x)/\
  (∀{α:Type}(x y:α),brn false x y=y)/\
  (∀{α:Type}(b:Bool)(x y:α),brn b x y=if b=true then x else y)/\
  (∀{α β:Type}(a:α)(f:α->Option β),(some a).bind f=f a)/\
  (∀{α β:Type}(f:α->Option β),none.bind f=none)/\
  (∀(b:Bool),qI (vb b)=some b)/\
  (∀(b:Bool)(x y:A),jf3 (vb b) x y=some (if b=true then x else y))/\
  (∀(b w:Bool)(x:Xl),pG (vb b) w x=if b=w then x else some (A.val undef))/\
  (∀(b w:Bool),Jb (vb b) w=some (decide (b=w)))/\
  (∀(w:Bool)(x:Xl),pG (A.val undef) w x=some (A.val undef))/\
  (∀(w:Bool),Jb (A.val undef) w=some false)/\
  (∀(k:Nat)(xs:Xc),jf1 (A.sl k xs)=some (vi ↑xs.length))/\
  (∀(xs:Xc),jdE xs=vi ↑xs.length)/\
  (∀(xs:Xc),JN xs=xs.length)/\
  (∀(l:Xb),jf2 (sv l)=some (vi ↑l.length))/\
  (∀(a:A),fin false (a,[])=some a)/\
  (∀(b c:Bool),fin c (vb b,[])=some (vb b))/\
  (∀(c:Bool)(n:Int),fin c (vi n,[])=some (vi n))/\
  (∀(b:Bool),pUn UnOp.not (vb b)=some (vb !b))/\
  (∀(b:Bool)(x y:Int),jgx BinOp.lss b (vi x) (vi y)=some (vb (decide (x<y))))/\
  (∀(b:Bool)(x y:Int),jgx BinOp.leq b (vi x) (vi y)=some (vb (decide (x<=y))))/\
  (∀(b:Bool)(x y:Int),jgx BinOp.gtr b (vi x) (vi y)=some (vb (decide (y<x))))/\
  (∀(b:Bool)(x y:Int),jgx BinOp.geq b (vi x) (vi y)=some (vb (decide (y<=x))))/\
  (∀(b:Bool)(x y:Int),jgx BinOp.eql b (vi x) (vi y)=some (vb (decide (x=y))))/\
  (∀(b:Bool)(x y:Int),jgx BinOp.neq b (vi x) (vi y)=some (vb !decide (x=y)))/\
  (∀(b:Bool)(x y:Int),jgx BinOp.lss b (vy x) (vy y)=some (vb (decide (x<y))))/\
  (∀(b:Bool)(x y:Int),jgx BinOp.leq b (vy x) (vy y)=some (vb (decide (x<=y))))/\
  (∀(b:Bool)(x y:Int),jgx BinOp.gtr b (vy x) (vy y)=some (vb (decide (y<x))))/\
  (∀(b:Bool)(x y:Int),jgx BinOp.geq b (vy x) (vy y)=some (vb (decide (y<=x))))/\
  (∀(b:Bool)(x y:Int),jgx BinOp.eql b (vy x) (vy y)=some (vb (decide (x=y))))/\
  (∀(b:Bool)(x y:Int),jgx BinOp.neq b (vy x) (vy y)=some (vb !decide (x=y)))/\
  (∀(x y:Bool),jgx BinOp.eql true (vb x) (vb y)=some (vb (decide (x=y))))/\
  (∀(x y:Bool),jgx BinOp.neq true (vb x) (vb y)=some (vb !decide (x=y)))/\
  (∀(b:Bool)(x y:Int),jgx BinOp.add b (vi x) (vi y)=ck (x+y))/\
  (∀(b:Bool)(x y:Int),jgx BinOp.sub b (vi x) (vi y)=ck (x-y))/\
  (∀(b:Bool)(x y:Int),jgx BinOp.mul b (vi x) (vi y)=ck (x*y))/\
  (∀(b:Bool)(x y:Xb),jgx BinOp.eql b (sv x) (sv y)=some (vb (decide (x=y))))/\
  (∀(b:Bool)(x y:Xb),jgx BinOp.neq b (sv x) (sv y)=some (vb !decide (x=y)))/\
  (∀(b:Bool)(x y:Xb),jgx BinOp.lss b (sv x) (sv y)=some (vb (sLt x y)))/\
  (∀(a:A)(l:Xd),jci (A.elt (a::l) 0)=some a)/\
  (∀(cs:Xd)(off n:Nat),jgw (A.elt cs off) n=some (A.elt cs (off+n)))/\
  (∀(off:Nat)(cs:Xd),jcg off (A.agg cs)=cs[off]?)/\
  (∀(n:Nat)(ds:Xd),jez n (A.agg ds)=if ds.length=n/\ds.all ZO=true then some ds else none)/\
  (∀(a:A)(l:Xd),kG (a::l) 0=a)/\
  (∀(a b:A)(l:Xd),kG (a::b::l) 1=b)/\
  (∀(a b c:A)(l:Xd),kG (a::b::c::l) 2=c)/\
  (∀(a b c d:A)(l:Xd),kG (a::b::c::d::l) 3=d)/\
  (∀(k:Nat)(xs:Xc),ZO (A.sl k xs)=true)/\
  (∀(cs:Xd)(o:Nat),ZO (A.elt cs o)=true)/\
  (∀(f:FuncId)(l:Xd),ZO (A.fn f l)=true)/\
  (∀(n:Int),ZO (vi n)=true)/\
  (∀(b:Bool),ZO (vb b)=true)/\
  (∀(l:Xb),ZO (sv l)=true)/\
  (∀(k:Nat)(xs:Xc),qJ k (A.sl k xs)=some xs)/\
  (∀(a:A)(l:Xd),jhh (A.tup (a::l)) 0=some a)/\
  (∀(a b:A)(l:Xd),jhh (A.tup (a::b::l)) 1=some b)/\
  (∀(a b c:A)(l:Xd),jhh (A.tup (a::b::c::l)) 2=some c)/\
  (∀(x y:Int),jgz (vi x) (vi y)=some (vi (if x<y then y else x)))/\
  (∀(x y:Int),jgA (vi x) (vi y)=some (vi (if y<x then y else x)))/\
  (∀(a:A)(l:Xd)(i:Nat),hD (a,l) i=l[i]?)/\
  (∀(k:Nat)(a:A)(xs:Xc)(l:Xd),hR k (a,A.sl k xs::l) 0=some xs)/\
  (∀(k:Nat)(a b:A)(xs:Xc)(l:Xd),hR k (a,b::A.sl k xs::l) 1=some xs)/\
  (∀(k:Nat)(a b c:A)(xs:Xc)(l:Xd),hR k (a,b::c::A.sl k xs::l) 2=some xs)/\
  (∀{α:Type}{a:α}{l:List α}{f:α->Bool},(a::l).all f=(f a && l.all f))/\
  (∀{α:Type}{f:α->Bool},([]:List α).all f=true)/\
  (∀{α:Type}{a:α}{l:List α},(a::l).length=l.length+1)/\
  (∀{α:Type},([]:List α).length=0)/\
  (∀{α β:Type}{l:List α}(f:α->β),(List.map f l).length=l.length)/\
  (∀(n:Nat),0+n=n)/\
  (∀(b:Bool),(b && b)=b)/\
  (∀(b:Bool),(b && true)=b)/\
  (∀(p:Prop),(p/\p)=p)/\
  (∀{α:Type}{_x:Decidable True}(t e:α),(if True then t else e)=t)/\
  (∀{α:Type}{_x:Decidable False}(t e:α),(if False then t else e)=e)/\
  ((true=false)=False)/\
  ((false=true)=False)/\
  (∀(_h:Decidable True),decide True=true)/\
  (∀(_h:Decidable False),decide False=false)/\
  ((!true)=false)/\
  ((!false)=true)/\
  (∀(b:Bool),((!b)=true)=(b=false))/\
  (∀{p:Prop} [Decidable p],(decide p=true)=p)/\
  (∀{p:Prop}{x:Decidable p},decide p=false↔ ¬p)/\
  (∀(a:Int),¬a<a)/\
  ((¬True)=False)/\
  ((¬False)=True)/\
  (∀{α:Type}(a b:α),(if True then a else b)=a)/\
  (∀{α:Type}(a b:α),(if False then a else b)=b):=
 ⟨@jyP,@jrm,@jm4,@jx1,@Option.bind_some.{0,0},@Option.bind_none.{0,0},@jmQ,@jrK,@jzS,@jxi,@jxb,@jrM,@jxc,@jui,@jxn,@jlB,@jv9,@jAh,@jAi,@jyX,@joT,@jw4,@jw3,@jw2,@jw1,@jw6,@ju3,@ju2,@ju1,@ju0,@juZ,@ju4,@ju5,@ju6,@jjy,@jw7,@jw5,@jnk,@jva,@ju9,@jxd,@joS,@js1,@jsZ,@juz,@jvT,@jvU,@jsG,@jAy,@jyR,@jAx,@jAB,@jAA,@jAz,@jxf,@jAH,@jAI,@jAJ,@jyV,@jyW,@jBD,@jDb,@jDc,@jDd,@zE.{0},@List.all_nil.{0},@KP.{0},@YU.{0},@jbP.{0,0},@qM,@Bool.and_self,@Bool.and_true,@and_self,@zw.{1},@if_false.{1},@Bool.true_eq_false,@jbH,@decide_true,@decide_false,@Bool.not_true,@Bool.not_false,@qO,@KR,@decide_eq_false_iff_not,@Int.lt_irrefl,@not_true_eq_false,@not_false_eq_true,@ite_true.{1},@ite_false.{1}⟩
end
theorem jBz:(∀{α:Type}{h:Decidable True}(a b:α),@ite α True h a b=a)/\(∀{α:Type}{h:Decidable False}(a b:α),@ite α False h a b=b)/\(1+1=2/\1+2=3/\1+3=4/\1+4=5/\2+1=3/\2+2=4/\2+3=5/\2+4=6/\3+1=4/\3+2=5/\3+3=6/\3+4=7/\4+1=5/\4+2=6/\4+3=7/\4+4=8/\5+1=6/\5+2=7/\5+3=8/\5+4=9/\6+1=7/\6+2=8/\6+3=9/\6+4=10/\7+1=8/\7+2=9/\7+3=10/\7+4=11/\8+1=9/\8+2=10/\8+3=11/\8+4=12/\9+1=10/\9+2=11/\9+3=12/\9+4=13/\10+1=11/\10+2=12/\10+3=13/\10+4=14/\11+1=12/\11+2=13/\11+3=14/\11+4=15/\12+1=13/\12+2=14/\12+3=15/\12+4=16):=by refine⟨?_,?_,by decide⟩<;>intros<;>simp
theorem evz:type_of% (And.intro evs (And.intro cev jBz)):=And.intro evs (And.intro cev jBz)
open Go Go.RowKit Go.ChangeShapes Go.Deep Go.Proofs.YthapkjbfjniaiaaGreatDoor.Abs
section
variable{P:Program}{t:Nat}{H:Type}{enc:TypeId×Value->H}{w:World}{base:Nat}{spare:Nat->Bool}{held:Bool}{fuel:Nat}{cs:Xh}{x:DataW H×List MemPlace}
end
inductive T where
 |mk (name:Xb) (args:List T)
abbrev Xg:=List T
def T.name:T->Xb|.mk n _=>n
def T.args:T->Xg|.mk _ us=>us
theorem T.eta(t:T):T.mk t.name t.args=t:=by cases t;rfl
mutual
def jbY:T->Xd
 |.mk n us=>[sv n,.sl 2 (jn5 us)]
def jn5:Xg->Xc
 | []=>[]
 |t::ts=>jbY t::jn5 ts
end
theorem jnB:∀ts:Xg,jn5 ts=ts.map jbY
 | []=>rfl
 |t::ts=>by simp[jn5,jnB ts]
theorem jhF(t:T):jbY t=[sv t.name,.sl 2 (t.args.map jbY)]:=by
 cases t;simp[jbY,T.name,T.args,jnB]
abbrev tm(t:T):A:= .agg [sv t.name,.sl 2 (t.args.map jbY)]
abbrev tms(ts:Xg):A:= .sl 2 (ts.map jbY)
theorem jbV(t:T):jch 2 (.elt (jbY t) 0)=some (.agg [sv t.name,.sl 2 (t.args.map jbY)]):=by rw[jhF];rfl
mutual
def tsz:T->Nat
 |.mk n us=>n.length+us.length+jks us
def jks:Xg->Nat
 | []=>0
 |t::ts=>tsz t+jks ts
end
theorem jhG(t:T):tsz t=t.name.length+t.args.length+jks t.args:=by cases t;simp[tsz,T.name,T.args]
theorem jiK:∀{ts:Xg}{t:T},t∈ts->tsz t<=jks ts
 | [],_,h=>by cases h
 |u::us,t,h=>by
  simp only[jks];rcases jK.1 h with rfl|h
  .omega
  .have:=jiK h;omega
mutual
def twf:T->Prop
 |.mk n us=>n.length<=9223372036854775807/\us.length<=9223372036854775807/\jvm us
def jvm:Xg->Prop
 | []=>True
 |t::ts=>twf t/\jvm ts
end
theorem jhC(t:T):twf t↔t.name.length<=9223372036854775807/\t.args.length<=9223372036854775807/\jvm t.args:=by cases t;simp[twf,T.name,T.args]
theorem jgO:∀ts:Xg,jvm ts↔ ∀t∈ts,twf t
 | []=>by simp[jvm]
 |t::ts=>by simp[jvm,jgO ts]
theorem T.ind{p:T->Prop}(h:∀t,(∀u∈t.args,p u)->p t):∀t,p t:=by
 intro t;induction hn:SizeOf.sizeOf t using Nat.strongRecOn generalizing t with
 |ind n ih=>
  subst hn;refine h t λu hu=>ih (SizeOf.sizeOf u) ?_ u rfl;cases t with
  |mk nm us=>
   have:=List.sizeOf_lt_of_mem hu;simp only[T.args]at this;simp only[T.mk.sizeOf_spec];omega
section
variable{P:Program}{tT tS:Nat}
end
structure Ord' where
 syms:Xa
 ws:Xi
 var:Int
abbrev jqI(o:Ord'):Xd:=[strs o.syms,ints o.ws,vi o.var]
abbrev od(o:Ord'):A:= .agg [strs o.syms,ints o.ws,vi o.var]
def owf(o:Ord'):Prop:=((∀s∈o.syms,s.length<=9223372036854775807)/\o.syms.length<=9223372036854775807)/\((∀x∈o.ws,I64 x)/\o.ws.length<=9223372036854775807)/\I64 o.var
set_option maxHeartbeats 1000000
def jDP(left n:Int):Int:=if 0<=left-n then left-n else -1
def part{α:Type}(f:α->Xd)(z:Xd)(xs:List α)(i:Nat):Xc:=(xs.take i).map f++List.replicate (xs.length-i) z
section
variable{α:Type}{f:α->Xd}{z:Xd}{xs:List α}
theorem jpP:jck xs.length z=part f z xs 0:=by simp[part,jck]
theorem jrP:part f z xs xs.length=xs.map f:=by simp[part]
theorem jnx{i:Nat}(h:i<=xs.length):(part f z xs i).length=xs.length:=by simp[part];omega
theorem jrQ{i:Nat}(h:i<xs.length):jbm (part f z xs i) i=some z:=by
 unfold jbm part;rw[zF (by simp;omega)];simp;rw[List.getElem?_replicate,ju (by omega)]
theorem jrR{i:Nat}(h:i<xs.length):jat (part f z xs i) i (f xs[i])=part f z xs (i+1):=by
 unfold jat part;have e:xs.length-i=(xs.length-(i+1))+1:=by omega
 rw[List.set_append_right _ _ (by simp;omega),e,yR]
 simp only[jbP,List.length_take,Nat.min_eq_left (Nat.le_of_lt h),Nat.sub_self,jdh];rw[<-List.take_append_getElem h,jbM];simp
end
theorem jqs(a b c d:A):Z4 [a,b] 0 [c,d]=[c,d]:=rfl
theorem jpO{b n:Nat}(hb:(b:Int)*(n:Int)<=281474976710656)(hn:n<=1048576):Qw b (vi n) (vi n)=some n:=by
 show(if _ then _ else _)=_;rw[ju (show jgQ b n n from⟨by omega,Int.le_refl _,hb,by omega⟩),Int.toNat_natCast]
theorem jjU{k:Nat}{xs:Xc}{i:Nat}(h:i<=xs.length):K6 k (.sl k xs) none (some (vi i))=some (.sl k (xs.take i)):=by
 simp only[K6,yz,Option.bind_some];rw[ju ⟨trivial,Int.le_refl _,by omega,by omega⟩];simp
theorem jjs{k:Nat}{xs:Xc}{i:Nat}(h:i<=xs.length):K6 k (.sl k xs) (some (vi i)) none=some (.sl k (xs.drop i)):=by
 simp only[K6,yz,Option.bind_some];rw[ju ⟨trivial,by omega,by omega,by omega⟩];simp
def jDf(k:Int):Nat->Xi
 |0=>[]
 |n+1=>k::jDf (k+1) n
section
variable{α:Type}{f:α->Xd}(M r:List α)(x:α)
theorem joK{k:Nat} :zN k (.sl k ((M++x::r).map f)) (vi (M.length:Nat))=some (.elt (f x) 0):=by
 rw[jaH (by simp)];simp
theorem joL:((M.length:Nat):Int)<(((M++x::r).length:Nat):Int):=by simp only[Y0,KP];omega
end
section
variable(M R:Xc)(x y:Xd)
end
def jxz:Xa->Nat
 | []=>0
 |s::l=>s.length+jxz l
def osz(o:Ord'):Nat:=o.syms.length+jxz o.syms+o.ws.length
theorem jjL{l:Xb}{i:Nat}(h:i<l.length):jar (sv l) (vi i)=some (vy (l[i].toNat:Int)):=by
 show(if _ then _ else _)=_;rw[ju ⟨by omega,by simpa using h⟩];simp[zk,h]
theorem ji0{c:UInt8}{l:Xb} :jar (sv (c::l)) (vi 0)=some (vy (c.toNat:Int)):=jjL (i:=0) (l:=c::l) (by simp)
def inB(lo hi x:Int):Bool:=decide (lo<=x) && decide (x<=hi)
theorem jkT(x a b:Int):G 71 [vi x,vi a,vi b]=some (vb (inB a b x),[]):=by
 rw[g71];by_cases h:a<=x<;>simp only[evz,h,inB,Bool.true_and,Bool.false_and]
theorem jkC(x a b:Int):G 83 [vi x,vi a,vi b]=some (vb (inB a b x),[]):=by
 rw[g83];by_cases h:a<=x<;>simp only[evz,h,inB,Bool.true_and,Bool.false_and]
def upc(c:UInt8):Bool:=inB 65 90 (c.toNat:Int)
def jl3(c:UInt8):Bool:=inB 97 122 (c.toNat:Int)
def juC(c:UInt8):Bool:=inB 48 57 (c.toNat:Int)
def jjk(c:UInt8):Bool:=jl3 c || juC c
theorem jk3(c:UInt8):G 36 [vy (c.toNat:Int)]=some (vb (upc c),[]):=by
 rw[g36];by_cases h:65<=(c.toNat:Int)<;>simp only[evz,h,upc,inB,Bool.true_and,Bool.false_and]
theorem jmk(c:UInt8):G 90 [vy (c.toNat:Int)]=some (vb (jl3 c),[]):=by
 rw[g90];by_cases h:97<=(c.toNat:Int)<;>simp only[evz,h,jl3,inB,Bool.true_and,Bool.false_and]
theorem joA(c:UInt8):G 91 [vy (c.toNat:Int)]=some (vb (juC c),[]):=by
 rw[g91];by_cases h:48<=(c.toNat:Int)<;>simp only[evz,h,juC,inB,Bool.true_and,Bool.false_and]
theorem joF(c:UInt8):G 84 [vy (c.toNat:Int)]=some (vb (jjk c),[]):=by
 rw[g84];by_cases h:97<=(c.toNat:Int)<;>by_cases h2:(c.toNat:Int)<=122<;>by_cases h3:48<=(c.toNat:Int)<;>simp only[evz,h,h2,h3,jjk,jl3,juC,inB,Bool.true_and,Bool.false_and,Bool.or_false,Bool.true_or,Bool.false_or]
def jc2:Xb->Bool
 | []=>false
 |c::r=>upc c && (r.all jjk && decide (r.length<=3))
theorem jnZ(r:Xb)(k:Nat)(hk:k<=9):inB 1 (k+1:Nat) (((r.length+1:Nat)):Int)=decide (r.length<=k):=by
 unfold inB;have:decide ((1:Int)<=((r.length+1:Nat):Int))=true:=by simp;omega
 rw[this,Bool.true_and];by_cases h:r.length<=k<;>simp[h]<;>omega
theorem jnH(s:Xb)(hs:s.length<=9223372036854775807):∀i,i<=s.length->1<=i->jrc (sv s) (vi (s.length:Nat)) (vi i)=some (vb ((s.drop i).all jjk && inB 1 4 (s.length:Nat)),[]):=by
 refine upto (P:=λi=>1<=i->jrc (sv s) (vi (s.length:Nat)) (vi i)=some (vb ((s.drop i).all jjk && inB 1 4 (s.length:Nat)),[])) ?_ ?_
 .intro _;rw[jt4,List.drop_length];have e:=jkT (s.length:Nat) 1 4;simp only[evz,e,Bool.true_and]
 .intro i hi ih h1;have ih:=ih (by omega);have hn:¬((i:Int)=0):=by omega
  have hp:(0:Int)<(i:Int):=by omega
  have hlt:(i:Int)<((s.length:Nat):Int):=by omega
  have h5:=jeZ hi hs;have hx:=jjL hi;have e1:=jmk s[i];have e2:=joA s[i];rw[jt4,jeX hi];generalize s[i]=ch at *;rw[zE];cases h8:jl3 ch<;>cases h9:juC ch<;>rw[h8]at e1<;>rw[h9]at e2<;>simp only[evz,hn,hp,hlt,hx,e1,e2,h5,ih,jjk,h8,h9,Bool.true_and,Bool.false_and,Bool.or_true,Bool.or_false]
theorem jl7(s:Xb)(hs:s.length<=9223372036854775807):G 88 [sv s]=some (vb (jc2 s),[]):=by
 rw[g88];show(jf2 (sv s)).bind _=_;rw[jlB,Option.bind_some];cases s with
 |nil=>
  rw[jt4];have e:=jkT ((0:Nat):Int) 1 4;simp only[evz,e];rfl
 |cons c r=>
  have key:=jnH (c::r) hs 1 (by simp) (jR _);simp only[List.drop_succ_cons,List.drop_zero]at key;have e':inB 1 4 (((c::r).length:Nat):Int)=decide (r.length<=3):=jnZ r 3 (by decide);rw[e']at key;rw[jt4];have h5:jgx .add false (vi 0) (vi 1)=some (vi ((1:Nat):Int)):=by rw[jjy,jgN (by decide) (by decide)];rfl
  have h6:(0:Int)<(((c::r).length:Nat):Int):=Int.natCast_pos.2 (Nat.succ_pos _);have e1:=jk3 c;generalize ((((c::r).length:Nat)):Int)=n at *;cases hu:upc c<;>rw[hu]at e1<;>simp only[evz,h6,ji0,e1,h5,key,jc2,hu,Bool.true_and,Bool.false_and]
theorem jsS(s:Xb)(hs:s.length<=9223372036854775807):∀i,i<=s.length->jpt (sv s) (vi i)=some (vb ((s.drop i).all jjk),[]):=by
 refine upto (P:=λi=>jpt (sv s) (vi i)=some (vb ((s.drop i).all jjk),[])) ?_ ?_
 .rw [jzy,List.drop_length];simp only[evz]
 .intro i hi ih;have hlt:(i:Int)<((s.length:Nat):Int):=by omega
  have h5:=jeZ hi hs;have hx:=jjL hi;have e1:=joF s[i];rw[jzy,jeX hi];generalize s[i]=ch at *;rw[zE];cases h8:jjk ch<;>rw[h8]at e1<;>simp only[evz,hlt,hx,e1,h5,ih,Bool.true_and,Bool.false_and]
theorem jit(s:Xb)(hs:s.length<=9223372036854775807):G 49 [sv s]=some (vb (jc2 s),[]):=by
 rw[g49];show(jf2 (sv s)).bind _=_;rw[jlB,Option.bind_some];cases s with
 |nil=>
  have e:=jkC ((0:Nat):Int) 1 4;simp only[evz,e];rfl
 |cons c r=>
  have e:=jkC (((c::r).length:Nat):Int) 1 4;have e':inB 1 4 (((c::r).length:Nat):Int)=decide (r.length<=3):=jnZ r 3 (by decide);rw[e']at e;have key:=jsS (c::r) hs 1 (by simp);simp only[List.drop_succ_cons,List.drop_zero]at key;have key:jpt (sv (c::r)) (vi 1)=some (vb (r.all jjk),[]):=key;generalize ((((c::r).length:Nat)):Int)=n at *;by_cases h3:r.length<=3
  .rw [decide_eq_true h3]at e;by_cases ha:(c.toNat:Int)<65
   .have:¬(65<=(c.toNat:Int)):=by omega
    simp only[evz,e,ji0,ha,jc2,upc,inB,this,Bool.false_and]
   .have h65:65<=(c.toNat:Int):=by omega
    by_cases hb:90<(c.toNat:Int)
    .have:¬((c.toNat:Int)<=90):=by omega
     simp only[evz,e,ji0,ha,hb,jc2,upc,inB,this,Bool.false_and,Bool.and_false]
    .have:(c.toNat:Int)<=90:=by omega
     simp only[evz,e,ji0,ha,hb,jc2,upc,inB,this,h65,key,h3,Bool.true_and]
  .rw [decide_eq_false h3]at e;simp only[evz,e,jc2,h3,Bool.and_false]
def jiZ(s:Xb):Xa->Option Nat
 | []=>none
 |x::l=>if s=x then some 0 else(jiZ s l).map (· + 1)
def jiw(i:Nat):Option Nat->Int
 |none=> -1
 |some k=>((i+k:Nat):Int)
theorem jky(s:Xb):∀l,(jiZ s l).isSome=l.contains s
 | []=>rfl
 |x::l=>by
  simp only[jiZ,List.contains_cons];by_cases h:s=x
  .simp [h]
  .have:=jky s l;simp[h,this]
theorem jnY{s:Xb} :∀{l:Xa}{k:Nat},jiZ s l=some k->k<l.length/\l[k]? = some s
 | [],_,h=>by cases h
 |x::l,k,h=>by
  simp only[jiZ]at h;split at h
  .rename_i e;cases h;exact⟨by simp,by simp[e]⟩
  .obtain ⟨j,h1,rfl⟩:=km.1 h;have:=jnY h1;exact⟨by simp;exact this.1,by simpa using this.2⟩
theorem juD(s:Xb)(l:Xa):decide (jiw 0 (jiZ s l)<0)=!l.contains s:=by
 rw[<-jky];cases jiZ s l<;>simp[jiw]
theorem jqv(s:Xb)(l:Xa):decide (0<=jiw 0 (jiZ s l))=l.contains s:=by
 rw[<-jky];cases jiZ s l<;>simp[jiw]
theorem jox{s x:Xb}{l:Xa}{i:Nat}(h:¬s=x):jiw (i+1) (jiZ s l)=jiw i (jiZ s (x::l)):=by
 simp only[jiZ,h,if_false];cases jiZ s l<;>simp[jiw];omega
theorem jk1(l:Xa)(s:Xb)(hl:l.length<=9223372036854775807):G 108 [strs l,sv s]=some (vi (jiw 0 (jiZ s l)),[]):=by
 have key:=upto (P:=λi=>jp8 (strs l) (sv s) (vi (l.length:Nat)) (vi i)=some (vi (jiw i (jiZ s (l.drop i))),[])) (n:=l.length) ?_ ?_ 0 (Nat.zero_le _)
 .simp only[Int.natCast_zero,List.drop_zero]at key;rw[jCH];simp only[evz,key]
 .rw [jwn,List.drop_length];simp only[evz,jiZ,jiw]
 .intro i hi ih;have hlt:(i:Int)<((l.length:Nat):Int):=by omega
  have h5:=jeZ hi hl;rw[jwn,jeX hi];by_cases h:s=l[i]
  .simp only[evz,hlt,jaH hi,h,jiZ,jiw,Jt]
  .simp only[evz,hlt,jaH hi,h,h5,ih,jox h]
theorem jjO(l:Xa)(s:Xb)(hl:l.length<=9223372036854775807):G 70 [strs l,sv s]=some (vb (l.contains s),[]):=by
 have e:=jk1 l s hl;rw[g70];simp only[evz,e,jqv]
theorem jn2(o:Ord')(s:Xb)(hl:o.syms.length<=9223372036854775807):G 160 [od o,sv s]=some (vi (jiw 0 (jiZ s o.syms)),[]):=by
 have key:=upto (P:=λi=>jqk (sv s) (vi i) (strs o.syms) (ints o.ws) (vi o.var)=some (vi (jiw i (jiZ s (o.syms.drop i))),[])) (n:=o.syms.length) ?_ ?_ 0 (Nat.zero_le _)
 .simp only[Int.natCast_zero,List.drop_zero]at key;rw[jC9];simp only[evz,key]
 .rw [jwE,List.drop_length];simp only[evz,jiZ,jiw]
 .intro i hi ih;have hlt:(i:Int)<((o.syms.length:Nat):Int):=by omega
  have h5:=jeZ hi hl;rw[jwE,jeX hi];by_cases h:s=o.syms[i]
  .simp only[evz,hlt,jaH hi,h,jiZ,jiw,Jt]
  .have h':¬o.syms[i]=s:=λe=>h e.symm;simp only[evz,hlt,jaH hi,h',h5,ih,jox h]
theorem jqD(l:Xa)(s:Xb)(hl:l.length<=9223372036854775807):G 51 [strs l,sv s]=some (vb (l.contains s),[]):=by
 have key:=upto (P:=λi=>jtx (strs l) (sv s) (vi i)=some (vb ((l.drop i).contains s),[])) (n:=l.length) ?_ ?_ 0 (Nat.zero_le _)
 .simp only[Int.natCast_zero,List.drop_zero]at key;rw[g51];exact key
 .rw [jzz,List.drop_length];simp only[evz,List.contains_nil]
 .intro i hi ih;have hlt:(i:Int)<((l.length:Nat):Int):=by omega
  have h5:=jeZ hi hl;rw[jzz,jeX hi,List.contains_cons];by_cases h:l[i]=s
  .have:(s == l[i])=true:=by simp[h]
   simp only[evz,hlt,jaH hi,h];simp
  .have:(s == l[i])=false:=by simp;exact λe=>h e.symm
   simp only[evz,hlt,jaH hi,h,this,h5,ih,Bool.false_or]
def jr8:Xa:=[[116,114,117,101],[102,97,108,115,101],[116,114,117,116,104],[98,111,116,104],[101,105,116,104,101,114],[105,102],[97,108,108],[115,111,109,101]]
def jqT(c:UInt8):Bool:=jjk c || decide ((c.toNat:Int)=95)
def jiX:Xb->Bool
 | []=>false
 |c::r=>jl3 c && (r.all jqT && (decide (r.length<=5) && !jr8.contains (c::r)))
theorem jx0(a b:Xb):(a == b)=decide (a=b):=by by_cases h:a=b<;>simp[h]
theorem jpg(s:Xb)(hs:s.length<=9223372036854775807):∀i,i<=s.length->1<=i->jq7 (sv s) (vi (s.length:Nat)) (vi i)=some (vb ((s.drop i).all jqT && (inB 1 6 (s.length:Nat) && !jr8.contains s)),[]):=by
 refine upto (P:=λi=>1<=i->jq7 (sv s) (vi (s.length:Nat)) (vi i)=some (vb ((s.drop i).all jqT && (inB 1 6 (s.length:Nat) && !jr8.contains s)),[])) ?_ ?_
 .intro _;rw[jt1,List.drop_length];have e:=jkT (s.length:Nat) 1 6;have e2:=jjO jr8 s (by decide);have e3:G 92 []=some (strs jr8,[]):=g92;cases h:inB 1 6 (s.length:Nat)<;>rw[h]at e<;>simp only[evz,e,e2,e3,Bool.true_and,Bool.false_and]
 .intro i hi ih h1;have ih:=ih (by omega);have hn:¬((i:Int)=0):=by omega
  have hlt:(i:Int)<((s.length:Nat):Int):=by omega
  have h5:=jeZ hi hs;have hx:=jjL hi;have e1:=jmk s[i];have e2:=joA s[i];rw[jt1,jeX hi];generalize s[i]=ch at *;rw[zE];cases h7:decide ((ch.toNat:Int)=95)<;>cases h8:jl3 ch<;>cases h9:juC ch<;>rw[h8]at e1<;>rw[h9]at e2<;>
   simp only[evz,hn,hlt,hx,e1,e2,h5,ih,jqT,jjk,h7,h8,h9,Bool.true_and,Bool.false_and,Bool.or_true,Bool.or_false]
theorem jnt(s:Xb)(hs:s.length<=9223372036854775807):G 58 [sv s]=some (vb (jiX s),[]):=by
 rw[g58];show(jf2 (sv s)).bind _=_;rw[jlB,Option.bind_some];cases s with
 |nil=>
  rw[jt1];have e:G 71 [vi ((0:Nat):Int),vi 1,vi 6]=some (vb false,[]):=jkT ((0:Nat):Int) 1 6;simp only[evz,e];rfl
 |cons c r=>
  have key:=jpg (c::r) hs 1 (by simp) (jR _);simp only[List.drop_succ_cons,List.drop_zero]at key;have e':inB 1 6 (((c::r).length:Nat):Int)=decide (r.length<=5):=jnZ r 5 (by decide);rw[e']at key;rw[jt1];have h5:jgx .add false (vi 0) (vi 1)=some (vi ((1:Nat):Int)):=by rw[jjy,jgN (by decide) (by decide)];rfl
  have h6:(0:Int)<(((c::r).length:Nat):Int):=Int.natCast_pos.2 (Nat.succ_pos _);have e1:=jmk c;generalize ((((c::r).length:Nat)):Int)=n at *;cases hu:jl3 c<;>rw[hu]at e1<;>simp only[evz,h6,ji0,e1,h5,key,jiX,hu,Bool.true_and,Bool.false_and]
theorem jph(s:Xb)(hs:s.length<=9223372036854775807):∀i,i<=s.length->jkL (sv s) (vi i)=some (vb ((s.drop i).all jqT),[]):=by
 refine upto (P:=λi=>jkL (sv s) (vi i)=some (vb ((s.drop i).all jqT),[])) ?_ ?_
 .rw [jzK,List.drop_length];simp only[evz]
 .intro i hi ih;have hlt:(i:Int)<((s.length:Nat):Int):=by omega
  have h5:=jeZ hi hs;have hx:=jjL hi;have e1:=joF s[i];rw[jzK,jeX hi];generalize s[i]=ch at *;rw[zE];cases h7:decide ((ch.toNat:Int)=95)<;>cases h8:jjk ch<;>rw[h8]at e1<;>simp only[evz,hlt,hx,e1,h5,ih,jqT,h7,h8,Bool.true_and,Bool.false_and,Bool.or_true,Bool.or_false]
theorem jlx(s:Xb)(hs:s.length<=9223372036854775807):G 81 [sv s]=some (vb (jiX s),[]):=by
 rw[g81];show(jf2 (sv s)).bind _=_;rw[jlB,Option.bind_some];cases s with
 |nil=>
  have e:G 83 [vi ((0:Nat):Int),vi 1,vi 6]=some (vb false,[]):=jkC ((0:Nat):Int) 1 6;simp only[evz,e];rfl
 |cons c r=>
  have e:=jkC (((c::r).length:Nat):Int) 1 6;have e':inB 1 6 (((c::r).length:Nat):Int)=decide (r.length<=5):=jnZ r 5 (by decide);rw[e']at e;have key:=jph (c::r) hs 1 (by simp);simp only[List.drop_succ_cons,List.drop_zero]at key;have key:jkL (sv (c::r)) (vi 1)=some (vb (r.all jqT),[]):=key;generalize ((((c::r).length:Nat)):Int)=n at *;have hres:jr8.contains (c::r)=(decide (c::r=[116,114,117,101]) || (decide (c::r=[102,97,108,115,101]) || (decide (c::r=[116,114,117,116,104]) || (decide (c::r=[98,111,116,104]) || (decide (c::r=[101,105,116,104,101,114]) || (decide (c::r=[105,102]) || (decide (c::r=[97,108,108]) || decide (c::r=[115,111,109,101])))))))):=by
   simp only[jr8,List.contains_cons,List.contains_nil,Bool.or_false,jx0]
  by_cases h3:r.length<=5
  .rw [decide_eq_true h3]at e;by_cases ha:(c.toNat:Int)<97
   .have:¬(97<=(c.toNat:Int)):=by omega
    simp only[evz,e,ji0,ha,jiX,jl3,inB,this,Bool.false_and]
   .have h65:97<=(c.toNat:Int):=by omega
    by_cases hb:122<(c.toNat:Int)
    .have:¬((c.toNat:Int)<=122):=by omega
     simp only[evz,e,ji0,ha,hb,jiX,jl3,inB,this,Bool.false_and,Bool.and_false]
    .have h122:(c.toNat:Int)<=122:=by omega
     have e0:jiX (c::r)=(r.all jqT && !jr8.contains (c::r)):=by
      simp[jiX,jl3,inB,h65,h122,h3]
     rw[e0,hres];have hx0:=ji0 (c:=c) (l:=r);clear hres e0;generalize c::r=s at *;cases q0:decide (s=[116,114,117,101]);rotate_left
     .simp only[evz,e,hx0,ha,hb,q0,Bool.true_or,Bool.and_false]
     cases q1:decide (s=[102,97,108,115,101]);rotate_left
     .simp only[evz,e,hx0,ha,hb,q0,q1,Bool.true_or,Bool.false_or,Bool.and_false]
     cases q2:decide (s=[116,114,117,116,104]);rotate_left
     .simp only[evz,e,hx0,ha,hb,q0,q1,q2,Bool.true_or,Bool.false_or,Bool.and_false]
     cases q3:decide (s=[98,111,116,104]);rotate_left
     .simp only[evz,e,hx0,ha,hb,q0,q1,q2,q3,Bool.true_or,Bool.false_or,Bool.and_false]
     cases q4:decide (s=[101,105,116,104,101,114]);rotate_left
     .simp only[evz,e,hx0,ha,hb,q0,q1,q2,q3,q4,Bool.true_or,Bool.false_or,Bool.and_false]
     cases q5:decide (s=[105,102]);rotate_left
     .simp only[evz,e,hx0,ha,hb,q0,q1,q2,q3,q4,q5,Bool.true_or,Bool.false_or,Bool.and_false]
     cases q6:decide (s=[97,108,108]);rotate_left
     .simp only[evz,e,hx0,ha,hb,q0,q1,q2,q3,q4,q5,q6,Bool.true_or,Bool.false_or,Bool.and_false]
     cases q7:decide (s=[115,111,109,101]);rotate_left
     .simp only[evz,e,hx0,ha,hb,q0,q1,q2,q3,q4,q5,q6,q7,Bool.false_or,Bool.and_false]
     simp only[evz,e,hx0,ha,hb,q0,q1,q2,q3,q4,q5,q6,q7,Bool.or_false,key]
  .rw [decide_eq_false h3]at e;simp only[evz,e,jiX,h3,Bool.false_and,Bool.and_false]
mutual
def nodes:T->Nat
 |.mk _ us=>1+jcO us
def jcO:Xg->Nat
 | []=>0
 |t::ts=>nodes t+jcO ts
end
theorem jfw(t:T):nodes t=1+jcO t.args:=by cases t;rfl
mutual
def dep:T->Nat
 |.mk _ us=>1+jkH us
def jkH:Xg->Nat
 | []=>0
 |t::ts=>max (dep t) (jkH ts)
end
theorem jjY(t:T):dep t=1+jkH t.args:=by cases t;rfl
mutual
def okT:T->Bool
 |.mk n us=>if jc2 n then us.isEmpty else jiX n && (decide (us.length<=4) && jnJ us)
def jnJ:Xg->Bool
 | []=>true
 |t::ts=>okT t && jnJ ts
end
theorem jiM(t:T):okT t=if jc2 t.name then t.args.isEmpty else jiX t.name && (decide (t.args.length<=4) && jnJ t.args):=by cases t;rfl
theorem jjT:∀ts,jnJ ts=ts.all okT
 | []=>rfl
 |t::ts=>by rw[jnJ,jjT ts,zE]
theorem jiS:∀t:T,nodes t<=1+tsz t:=by
 refine T.ind λt ih=>?_;have:∀ts:Xg,(∀u∈ts,nodes u<=1+tsz u)->jcO ts<=ts.length+jks ts:=by
  intro ts;induction ts with
  |nil=>intro _;simp[jcO]
  |cons u us ih=>
   intro h;have h1:=h u (by simp);have h2:=ih λv hv=>h v (by simp[hv]);simp only[jcO,jks,KP];omega
 have h:=this t.args ih;rw[jfw,jhG];omega
theorem jiO(t:T):1<=nodes t:=by rw[jfw];omega
theorem jiH{ts:Xg}{t:T}(h:t∈ts):nodes t<=jcO ts:=by
 induction ts with
 |nil=>cases h
 |cons u us ih=>
  simp only[jcO];rcases jK.1 h with rfl|h
  .omega
  .have:=ih h;omega
theorem jsJ:∀t:T,dep t<=nodes t:=by
 refine T.ind λt ih=>?_;have:∀ts:Xg,(∀u∈ts,dep u<=nodes u)->jkH ts<=jcO ts:=by
  intro ts;induction ts with
  |nil=>intro _;simp[jkH]
  |cons u us ih=>
   intro h;have h1:=h u (by simp);have h2:=ih λv hv=>h v (by simp[hv]);simp only[jcO,jkH];omega
 have h:=this t.args ih;rw[jfw,jjY];omega
theorem jvh(ts:Xg)(hl:ts.length<=9223372036854775807)(hn:jcO ts<=1048577)(ih:∀t∈ts,∃r:Nat,G 77 [tm t]=some (vi r,[])/\r<=nodes t/\(nodes t<=30->r=nodes t)/\(30<nodes t->30<r)) :
  ∀i,i<=ts.length-> ∀a:Nat,a+jcO (ts.drop i)<=1048578-> ∃r:Nat,jtC (vi a) (tms ts) (vi (ts.length:Nat)) (vi i)=some (vi r,[])/\r<=a+jcO (ts.drop i)/\(a+jcO (ts.drop i)<=30->r=a+jcO (ts.drop i))/\(30<a+jcO (ts.drop i)->30<r):=by
 refine upto ?_ ?_
 .intro a ha;rw[jwP,List.drop_length];simp only[evz,jcO,Jt];exact⟨a,rfl,jR _,λ_=>rfl,λh=>h⟩
 .intro i hi ih' a ha;have hlt:(i:Int)<((ts.length:Nat):Int):=by omega
  have h5:=jeZ hi hl;rw[jeX hi]at ha⊢;simp only[jcO]at ha⊢;obtain⟨r1,e1,b1,b2,b3⟩:=ih ts[i] (YX _);by_cases hc:(30:Int)<(a:Int)
  .refine ⟨a,?_,by omega,by omega,by omega⟩;rw[jwP];simp only[evz,hlt,jaH hi,jbV,hc]
  .have hk:ck ((a:Int)+(r1:Int))=some (vi ((a+r1:Nat):Int)):=by rw[jgN (by omega) (by omega)];rfl
   obtain⟨r2,e2,c1,c2,c3⟩:=ih' (a+r1) (by omega);refine⟨r2,?_,by omega,by omega,by omega⟩;rw[jwP];simp only[evz,hlt,jaH hi,jbV,hc,e1,hk,h5,e2]
theorem size_eq:∀t:T,twf t->tsz t<=1048576-> ∃r:Nat,G 77 [tm t]=some (vi r,[])/\r<=nodes t/\(nodes t<=30->r=nodes t)/\(30<nodes t->30<r):=by
 refine T.ind λt ih hw hs=>?_;obtain⟨w1,w2,w3⟩:=(jhC t).1 hw;have w3:=(jgO _).1 w3;have hn:=jiS t;rw[jfw]at hn;rw[jhG]at hs;obtain⟨r,h1,h2,h3,h4⟩:=jvh t.args w2 (by rw[jhG]at hn;omega) (λu hu=>ih u hu (w3 u hu) (by have:=jiK hu;omega)) 0 (Nat.zero_le _) 1 (by rw[jhG]at hn;simp;omega);simp only[List.drop_zero,Int.natCast_zero,Int.natCast_one]at h1 h2 h3 h4;refine⟨r,?_,by rw[jfw];exact h2,by rw[jfw];exact h3,by rw[jfw];exact h4⟩;rw[g77];simp only[evz,h1]
theorem juV(n:Xb)(most:Int)(hm1: -1048600<=most)(hm:most<=1048576)(ts:Xg)(hl:ts.length<=9223372036854775807)(ih:∀t∈ts,∀m:Int,-1048600<=m->m<=1048576-> ∃r:Nat,G 117 [tm t,vi m]=some (vi r,[])/\1<=r/\r<=nodes t/\((nodes t:Int)<=m->r=nodes t)/\(m<nodes t->m<r)) :
  ∀i,i<=ts.length-> ∀a:Nat,1<=a->a+jcO (ts.drop i)<=1048578-> ∃r:Nat,jqa (vi most) (vi a) (vi i) (sv n) (tms ts)=some (vi r,[])/\1<=r/\r<=a+jcO (ts.drop i)/\(((a+jcO (ts.drop i):Nat):Int)<=most->r=a+jcO (ts.drop i))/\(most<((a+jcO (ts.drop i):Nat):Int)->most<r):=by
 refine upto ?_ ?_
 .intro a h1 ha;rw[jsQ,List.drop_length];simp only[evz,jcO,Jt];exact⟨a,rfl,h1,jR _,λ_=>rfl,λh=>h⟩
 .intro i hi ih' a h1 ha;have hlt:(i:Int)<((ts.length:Nat):Int):=by omega
  have h5:=jeZ hi hl;rw[jeX hi]at ha⊢;simp only[jcO]at ha⊢;by_cases hc:(a:Int)<=most
  .obtain ⟨r1,e1,b0,b1,b2,b3⟩:=ih ts[i] (YX _) (most-a) (by omega) (by omega);have hk0:ck (most-(a:Int))=some (vi (most-a)):=jgN (by omega) (by omega);have hk:ck ((a:Int)+(r1:Int))=some (vi ((a+r1:Nat):Int)):=by rw[jgN (by omega) (by omega)];rfl
   obtain⟨r2,e2,c0,c1,c2,c3⟩:=ih' (a+r1) (by omega) (by omega);refine⟨r2,?_,by omega,by omega,by omega,by omega⟩;rw[jsQ];simp only[evz,hlt,jaH hi,jbV,hc,hk0,e1,hk,h5,e2]
  .refine ⟨a,?_,h1,by omega,by omega,by omega⟩;rw[jsQ];simp only[evz,hlt,hc]
theorem jyM:∀t:T,twf t->tsz t<=1048576-> ∀m:Int,-1048600<=m->m<=1048576-> ∃r:Nat,G 117 [tm t,vi m]=some (vi r,[])/\1<=r/\r<=nodes t/\((nodes t:Int)<=m->r=nodes t)/\(m<nodes t->m<r):=by
 refine T.ind λt ih hw hs m hm1 hm=>?_;obtain⟨w1,w2,w3⟩:=(jhC t).1 hw;have w3:=(jgO _).1 w3;have hn:=jiS t;rw[jfw]at hn;obtain⟨r,h1,h0,h2,h3,h4⟩:=juV t.name m hm1 hm t.args w2 (λu hu m h1 h2=>ih u hu (w3 u hu) (by have:=jiK hu;rw[jhG]at hs;omega) m h1 h2) 0 (Nat.zero_le _) 1 (jR _) (by simp;omega);simp only[List.drop_zero,Int.natCast_zero,Int.natCast_one]at h1 h2 h3 h4;refine⟨r,?_,h0,by rw[jfw];exact h2,by rw[jfw];exact h3,by rw[jfw];exact h4⟩;rw[jCO];simp only[evz,h1]
theorem jsK(ts:Xg)(hl:ts.length<=9223372036854775807)(hn:jcO ts<=1048577)(ih:∀t∈ts,G 78 [tm t]=some (vi (dep t:Nat),[])) :
  ∀i,i<=ts.length-> ∀a:Nat,a<=1048577->jtD (vi a) (tms ts) (vi (ts.length:Nat)) (vi i)=some (vi ((max a (jkH (ts.drop i))+1:Nat):Int),[]):=by
 refine upto ?_ ?_
 .intro a ha;have hk:ck ((a:Int)+1)=some (vi ((a+1:Nat):Int)):=by rw[jgN (by omega) (by omega)];rfl
  rw[jzI,List.drop_length];simp only[evz,jkH,hk,Nat.max_zero]
 .intro i hi ih' a ha;have hlt:(i:Int)<((ts.length:Nat):Int):=by omega
  have h5:=jeZ hi hl;have e1:=ih ts[i] (YX _);have hd:dep ts[i]<=1048577:=JU (jsJ _) (JU (jiH (YX hi)) hn);have hmx:(if(a:Int)<((dep ts[i]:Nat):Int)then((dep ts[i]:Nat):Int)else(a:Int))=((max a (dep ts[i]):Nat):Int):=by split<;>omega
  have ih':=ih' (max a (dep ts[i])) (by omega);rw[jzI,jeX hi];simp only[evz,hlt,jaH hi,jbV,e1,hmx,h5,ih',jkH,Nat.max_assoc]
theorem jvZ:∀t:T,twf t->tsz t<=1048576->G 78 [tm t]=some (vi (dep t:Nat),[]):=by
 refine T.ind λt ih hw hs=>?_;obtain⟨w1,w2,w3⟩:=(jhC t).1 hw;have w3:=(jgO _).1 w3;have hn:=jiS t;rw[jfw]at hn;have h1:=jsK t.args w2 (by omega) (λu hu=>ih u hu (w3 u hu) (by have:=jiK hu;rw[jhG]at hs;omega)) 0 (Nat.zero_le _) 0 (by omega);simp only[List.drop_zero,Int.natCast_zero,Nat.zero_max]at h1;rw[g78,jjY,Nat.add_comm];simp only[evz,h1]
theorem jyO(a b:Nat):G 152 [vi a,vi b]=some (vi ((max a b:Nat):Int),[]):=by
 rw[jC6];by_cases h:(b:Int)<(a:Int)
 .simp only[evz,h];rw[Nat.max_eq_left (by omega)]
 .simp only[evz,h];rw[Nat.max_eq_right (by omega)]
theorem jqC(n:Xb)(ts:Xg)(hl:ts.length<=9223372036854775807)(hn:jcO ts<=1048577)(ih:∀t∈ts,G 118 [tm t]=some (vi (dep t:Nat),[])) :
  ∀i,i<=ts.length-> ∀a:Nat,a<=1048577->jqb (vi a) (vi i) (sv n) (tms ts)=some (vi ((max a (jkH (ts.drop i))+1:Nat):Int),[]):=by
 refine upto ?_ ?_
 .intro a ha;have hk:ck ((a:Int)+1)=some (vi ((a+1:Nat):Int)):=by rw[jgN (by omega) (by omega)];rfl
  rw[jwq,List.drop_length];simp only[evz,jkH,hk,Nat.max_zero]
 .intro i hi ih' a ha;have hlt:(i:Int)<((ts.length:Nat):Int):=by omega
  have h5:=jeZ hi hl;have e1:=ih ts[i] (YX _);have e2:=jyO a (dep ts[i]);have hd:dep ts[i]<=1048577:=JU (jsJ _) (JU (jiH (YX hi)) hn);have ih':=ih' (max a (dep ts[i])) (by omega);rw[jwq,jeX hi];simp only[evz,hlt,jaH hi,jbV,e1,e2,h5,ih',jkH,Nat.max_assoc]
theorem jsR:∀t:T,twf t->tsz t<=1048576->G 118 [tm t]=some (vi (dep t:Nat),[]):=by
 refine T.ind λt ih hw hs=>?_;obtain⟨w1,w2,w3⟩:=(jhC t).1 hw;have w3:=(jgO _).1 w3;have hn:=jiS t;rw[jfw]at hn;have h1:=jqC t.name t.args w2 (by omega) (λu hu=>ih u hu (w3 u hu) (by have:=jiK hu;rw[jhG]at hs;omega)) 0 (Nat.zero_le _) 0 (by omega);simp only[List.drop_zero,Int.natCast_zero,Nat.zero_max]at h1;rw[jCP,jjY,Nat.add_comm];simp only[evz,h1]
def je7(t:T):Bool:=decide (nodes t<=30) && decide (dep t<=8)
def jgc(t:T):Bool:=je7 t && okT t
theorem jk2(t:T)(hw:twf t)(hs:tsz t<=1048576):G 45 [tm t]=some (vb (je7 t),[]):=by
 obtain⟨r,h1,h2,h3,h4⟩:=size_eq t hw hs;have hd:=jvZ t hw hs;rw[g45];by_cases h:nodes t<=30
 .have:(r:Int)<=30:=by have:=h3 h;omega
  have e:decide (((dep t:Nat):Int)<=8)=decide (dep t<=8):=by congr 1;exact propext (by omega)
  simp only[evz,h1,hd,this,je7,h,e,Bool.true_and]
 .have:¬(r:Int)<=30:=by have:=h4 (by omega);omega
  simp only[evz,h1,this,je7,h,Bool.false_and]
theorem jpD(t:T)(hw:twf t)(hs:tsz t<=1048576):G 79 [tm t]=some (vb (je7 t),[]):=by
 obtain⟨r,h1,h0,h2,h3,h4⟩:=jyM t hw hs 30 (by decide) (by decide);have hd:=jsR t hw hs;rw[g79];by_cases h:nodes t<=30
 .have:(r:Int)<=30:=by have:=h3 (by omega);omega
  have e:decide (((dep t:Nat):Int)<=8)=decide (dep t<=8):=by congr 1;exact propext (by omega)
  simp only[evz,h1,hd,this,je7,h,e,Bool.true_and]
 .have:¬(r:Int)<=30:=by have:=h4 (by omega);omega
  simp only[evz,h1,this,je7,h,Bool.false_and]
theorem jnG{f:FuncId}{caps:Xd}(hsig:K.pureF f=true)(p:T->Bool)(ts:Xg)(hl:ts.length<=9223372036854775807)(h:∀t∈ts,G f (tm t::caps)=some (vb (p t),[])) :
  ∃r:Int,G 46 [tms ts,.fn f caps]=some (vi r,[])/\decide (0<=r)=ts.any p:=by
 have key:=upto (P:=λi=>∃r:Int,jtv (tms ts) (.fn f caps) (vi (ts.length:Nat)) (vi i)=some (vi r,[])/\decide (0<=r)=(ts.drop i).any p) (n:=ts.length) ?_ ?_ 0 (Nat.zero_le _)
 .obtain ⟨r,h1,h2⟩:=key;simp only[Int.natCast_zero,List.drop_zero]at h1 h2;refine⟨r,?_,h2⟩;rw[g46];simp only[evz,h1]
 .refine ⟨-1,?_,by simp⟩;rw[jzw];simp only[evz]
 .intro i hi ih;obtain⟨r,h1,h2⟩:=ih;have hlt:(i:Int)<((ts.length:Nat):Int):=by omega
  have h5:=jeZ hi hl;have e1:=h ts[i] (YX _);rw[jzw,jeX hi,List.any_cons];cases hp:p ts[i]<;>rw[hp]at e1
  .refine ⟨r,?_,by rw[h2,Bool.false_or]⟩;simp only[evz,hlt,jaH hi,jbV,jjR hsig,qN,qf,e1,h5,h1]
  .refine ⟨i,?_,by simp⟩;simp only[evz,hlt,jaH hi,jbV,jjR hsig,qN,qf,e1]
theorem jlr{f:FuncId}{caps:Xd}(hsig:K.pureF f=true)(p:T->Bool)(ts:Xg)(hl:ts.length<=9223372036854775807)(h:∀t∈ts,G f (tm t::caps)=some (vb (p t),[])) :
  G 17 [tms ts,.fn f caps]=some (vb (ts.any p),[]):=by
 obtain⟨r,h1,h2⟩:=jnG hsig p ts hl h;rw[g17];simp only[evz,h1,h2]
theorem jrh(p:T->Bool)(ts:Xg):(ts.any λt=> !p t)=!ts.all p:=by
 induction ts with
 |nil=>rfl
 |cons t ts ih=>rw[List.any_cons,zE,ih];cases p t<;>rfl
theorem jlv:∀t:T,twf t->G 57 [tm t]=some (vb (okT t),[]):=by
 refine T.ind λt ih hw=>?_;obtain⟨w1,w2,w3⟩:=(jhC t).1 hw;have w3:=(jgO _).1 w3;have e1:=jl7 t.name w1;have e2:=jnt t.name w1;have e3:=jlr (f:=89) (caps:=[]) rfl (λu=> !okT u) t.args w2 (λu hu=>by
  have:=ih u hu (w3 u hu);rw[g89];simp only[evz,this])
 rw[jrh,<-jjT]at e3;rw[g57,jiM];have e4:decide (((t.args.length:Nat):Int)=0)=t.args.isEmpty:=by cases t.args<;>simp;omega
 have e5:decide (((t.args.length:Nat):Int)<=4)=decide (t.args.length<=4):=by congr 1;exact propext (by omega)
 cases hv:jc2 t.name<;>rw[hv]at e1
 .cases hy:jiX t.name<;>rw[hy]at e2
  .simp only[evz,e1,e2,Bool.false_and]
  .cases ha:decide (t.args.length<=4)<;>rw[ha]at e5
   .simp only[evz,e1,e2,e5,Bool.false_and,Bool.true_and]
   .simp only[evz,e1,e2,e5,e3,Bool.true_and,Bool.not_not]
 .simp only[evz,e1,e4]
theorem jmn:∀t:T,twf t->G 80 [tm t]=some (vb (okT t),[]):=by
 refine T.ind λt ih hw=>?_;obtain⟨w1,w2,w3⟩:=(jhC t).1 hw;have w3:=(jgO _).1 w3;have e1:=jit t.name w1;have e2:=jlx t.name w1;have key:=upto (P:=λi=>jtE (vi i) (sv t.name) (tms t.args)=some (vb (jnJ (t.args.drop i)),[])) (n:=t.args.length) ?_ ?_ 0 (Nat.zero_le _)
 .simp only[Int.natCast_zero,List.drop_zero]at key;rw[g80,jiM];have e4:decide (((t.args.length:Nat):Int)=0)=t.args.isEmpty:=by cases t.args<;>simp;omega
  cases hv:jc2 t.name<;>rw[hv]at e1
  .cases hy:jiX t.name<;>rw[hy]at e2
   .simp only[evz,e1,e2,Bool.false_and]
   .by_cases ha:4<((t.args.length:Nat):Int)
    .have:¬t.args.length<=4:=by omega
     simp only[evz,e1,e2,ha,this,Bool.false_and,Bool.and_false]
    .have:t.args.length<=4:=by omega
     simp only[evz,e1,e2,ha,this,key,Bool.true_and]
  .simp only[evz,e1,e4]
 .rw [jzJ,List.drop_length];simp only[evz,jnJ]
 .intro i hi ih';have hlt:(i:Int)<((t.args.length:Nat):Int):=by omega
  have h5:=jeZ hi w2;have e3:=ih t.args[i] (YX _) (w3 _ (YX _));rw[jzJ,jeX hi,jnJ];cases hp:okT t.args[i]<;>rw[hp]at e3
  .simp only[evz,hlt,jaH hi,jbV,e3,Bool.false_and]
  .simp only[evz,hlt,jaH hi,jbV,e3,h5,ih',Bool.true_and]
theorem jjx(t:T)(hw:twf t)(hs:tsz t<=1048576):G 30 [tm t]=some (vb (jgc t),[]):=by
 have e1:=jk2 t hw hs;have e2:=jlv t hw;rw[g30,jgc];cases h:je7 t<;>rw[h]at e1<;>simp only[evz,e1,e2,Bool.true_and,Bool.false_and]
theorem jlL(t:T)(hw:twf t)(hs:tsz t<=1048576):G 82 [tm t]=some (vb (jgc t),[]):=by
 have e1:=jpD t hw hs;have e2:=jmn t hw;rw[g82,jgc];cases h:je7 t<;>rw[h]at e1<;>simp only[evz,e1,e2,Bool.true_and,Bool.false_and]
theorem jjQ{xs:Xi}{i:Nat}(h:i<xs.length):zN 1 (ints xs) (vi i)=some (.elt (ci xs[i]) 0):=jaH h
def juA(o:Ord')(i:Nat):Bool:=jiX (o.syms.getD i []) && (!(o.syms.take i).contains (o.syms.getD i []) && inB o.var 100 (o.ws.getD i 0))
def jiJ(o:Ord'):Bool:=inB 1 12 (o.syms.length:Nat) && (decide (o.ws.length=o.syms.length) && (inB 1 100 o.var && (List.range o.syms.length).all (juA o)))
theorem js3{n i:Nat}(h:i<n):(List.range n).drop i=i::(List.range n).drop (i+1):=by
 have h':i<(List.range n).length:=by simpa using h
 rw[List.drop_eq_getElem_cons h',List.getElem_range]
theorem jrG(o:Ord')(hw:owf o)(hl:o.ws.length=o.syms.length):∀i,i<=o.syms.length->jp7 (vi i) (strs o.syms) (ints o.ws) (vi o.var)=some (vb (((List.range o.syms.length).drop i).all (juA o)),[]):=by
 refine upto ?_ ?_
 .rw [jwm,List.drop_of_length_le (by simp)];simp only[evz]
 .intro i hi ih;have hlt:(i:Int)<((o.syms.length:Nat):Int):=by omega
  have hi2:i<o.ws.length:=by omega
  have h5:=jeZ hi hw.1.2;have hs:=hw.1.1 o.syms[i] (YX _);have e1:=jlx o.syms[i] hs;have hsl:K6 1 (strs o.syms) none (some (vi i))=some (strs (o.syms.take i)):=by rw[jjU (by simp;omega),<-List.map_take]
  have e2:=jqD (o.syms.take i) o.syms[i] (by rw[List.length_take];exact JU (Nat.min_le_right _ _) hw.1.2)
  have e3:=jkC o.ws[i] o.var 100;have hc:juA o i=(jiX o.syms[i] && (!(o.syms.take i).contains o.syms[i] && inB o.var 100 o.ws[i])):=by simp[juA,zk,hi,hi2]
  rw[jwm,js3 hi,zE,hc];cases h1:jiX o.syms[i]<;>rw[h1]at e1
  .simp only[evz,hlt,jaH hi,e1,Bool.false_and]
  .cases h2:(o.syms.take i).contains o.syms[i]<;>rw[h2]at e2
   .cases h3:inB o.var 100 o.ws[i]<;>rw[h3]at e3
    .simp only[evz,hlt,jaH hi,jjQ hi2,e1,hsl,e2,e3,Bool.false_and,Bool.true_and]
    .simp only[evz,hlt,jaH hi,jjQ hi2,e1,hsl,e2,e3,h5,ih,Bool.true_and]
   .simp only[evz,hlt,jaH hi,e1,hsl,e2,Bool.false_and,Bool.true_and]
theorem juO(o:Ord')(hw:owf o):G 103 [od o]=some (vb (jiJ o),[]):=by
 have e1:=jkC (o.syms.length:Nat) 1 12;have e2:=jkC o.var 1 100;rw[jCD,jiJ];cases h1:inB 1 12 (o.syms.length:Nat)<;>rw[h1]at e1
 .simp only[evz,e1,Bool.false_and]
 .by_cases h2:o.ws.length=o.syms.length
  .have h2':((o.ws.length:Nat):Int)=((o.syms.length:Nat):Int):=by rw[h2]
   have key:=jrG o hw h2 0 (Nat.zero_le _);simp only[Int.natCast_zero,List.drop_zero]at key;cases h3:inB 1 100 o.var<;>rw[h3]at e2
   .simp only[evz,e1,h2',e2,Bool.false_and,Bool.and_false]
   .simp only[evz,e1,h2,e2,key,Bool.true_and]
  .have h2':¬((o.ws.length:Nat):Int)=((o.syms.length:Nat):Int):=by omega
   simp only[evz,e1,h2',h2,Bool.false_and,Bool.true_and]
mutual
def jjv(l:Xa):T->Bool
 |.mk n us=>(jc2 n || l.contains n) && jkk l us
def jkk(l:Xa):Xg->Bool
 | []=>true
 |t::ts=>jjv l t && jkk l ts
end
theorem jjm(l:Xa)(t:T):jjv l t=((jc2 t.name || l.contains t.name) && jkk l t.args):=by cases t;rfl
theorem jkN(l:Xa):∀ts,jkk l ts=ts.all (jjv l)
 | []=>rfl
 |t::ts=>by rw[jkk,jkN l ts,zE]
theorem jhB{t:T}(h:okT t=true):∀u∈t.args,okT u=true:=by
 rw[jiM]at h;intro u hu;split at h
 .rw [List.isEmpty_iff.1 h]at hu;cases hu
 .simp only[jm]at h;rw[jjT]at h;exact jaF.1 h.2.2 u hu
theorem jrH{t:T}(h:okT t=true):∃c r,t.name=c::r/\jc2 t.name=upc c/\(upc c=false->jiX t.name=true):=by
 rw[jiM]at h;cases hn:t.name with
 |nil=>rw[hn]at h;simp[jc2,jiX]at h
 |cons c r=>
  refine⟨c,r,rfl,?_,?_⟩
  .rw [hn]at h;cases hu:upc c with
   |false=>simp[jc2,hu]
   |true=>
    cases hv:jc2 (c::r)with
    |true=>rfl
    |false=>
     rw[hv]at h;have:jl3 c=false:=by
      simp only[upc,inB,jl3,jm,KR]at hu⊢;have:¬(97<=(c.toNat:Int)):=by omega
      simp[this]
     simp[jiX,this]at h
  .intro hu;rw[hn]at h;have:jc2 (c::r)=false:=by simp[jc2,hu]
   rw[this]at h;simp at h;exact h.1
theorem jlw(t:T)(h:okT t=true):G 41 [tm t]=some (vb (jc2 t.name),[]):=by
 obtain⟨c,r,hn,hv,_⟩:=jrH h;have e1:=jk3 c;rw[<-hv]at e1;rw[g41];have hx:jar (sv t.name) (vi 0)=some (vy (c.toNat:Int)):=by rw[hn];exact ji0
 simp only[evz,hx,e1]
theorem jrF(o:Ord')(ho:o.syms.length<=9223372036854775807):∀t:T,twf t->G 144 [od o,tm t]=some (vb (jjv o.syms t),[]):=by
 refine T.ind λt ih hw=>?_;obtain⟨w1,w2,w3⟩:=(jhC t).1 hw;have w3:=(jgO _).1 w3;have e1:=jit t.name w1;have e2:=jn2 o t.name ho;have e2':=juD t.name o.syms;have key:=upto (P:=λi=>jqg (vi i) (strs o.syms) (ints o.ws) (vi o.var) (sv t.name) (tms t.args)=some (vb (jkk o.syms (t.args.drop i)),[])) (n:=t.args.length) ?_ ?_ 0 (Nat.zero_le _)
 .simp only[Int.natCast_zero,List.drop_zero]at key;rw[jC1,jjm];cases hv:jc2 t.name<;>rw[hv]at e1
  .cases hc:o.syms.contains t.name<;>rw[hc]at e2'
   .simp only[evz,e1,e2,e2',Bool.false_or,Bool.false_and]
   .simp only[evz,e1,e2,e2',key,Bool.false_or,Bool.true_and]
  .simp only[evz,e1,key,Bool.true_or,Bool.true_and]
 .rw [jwx,List.drop_length];simp only[evz,jkk]
 .intro i hi ih';have hlt:(i:Int)<((t.args.length:Nat):Int):=by omega
  have h5:=jeZ hi w2;have e3:=ih t.args[i] (YX _) (w3 _ (YX _));rw[jwx,jeX hi,jkk];cases hp:jjv o.syms t.args[i]<;>rw[hp]at e3
  .simp only[evz,hlt,jaH hi,jbV,e3,Bool.false_and]
  .simp only[evz,hlt,jaH hi,jbV,e3,h5,ih',Bool.true_and]
def good(o:Ord')(t:T):Bool:=jgc t && jjv o.syms t
theorem jpH(o:Ord')(t:T)(ho:o.syms.length<=9223372036854775807)(hw:twf t)(hs:tsz t<=1048576):G 104 [od o,tm t]=some (vb (good o t),[]):=by
 have e1:=jlL t hw hs;have e2:=jrF o ho t hw;rw[jCE,good];cases h:jgc t<;>rw[h]at e1<;>simp only[evz,e1,e2,Bool.true_and,Bool.false_and]
def jnN(o:Ord')(n:Xb):Int:=match jiZ n o.syms with|some k=>o.ws.getD k 0|none=>0
mutual
def wt(o:Ord'):T->Int
 |.mk n us=>(if jc2 n then o.var else jnN o n)+wtL o us
def wtL(o:Ord'):Xg->Int
 | []=>0
 |t::ts=>wt o t+wtL o ts
end
theorem jsv(o:Ord')(t:T):wt o t=(if jc2 t.name then o.var else jnN o t.name)+wtL o t.args:=by cases t;rfl
theorem jkG{o:Ord'}(h:jiJ o=true):o.ws.length=o.syms.length/\1<=o.var/\o.var<=100/\ ∀i,i<o.syms.length->o.var<=o.ws.getD i 0/\o.ws.getD i 0<=100:=by
 simp only[jiJ,jm,KR,inB]at h;obtain⟨_,h2,⟨h3,h4⟩,h5⟩:=h;refine⟨h2,h3,h4,λi hi=>?_⟩;have:=jaF.1 h5 i (by simpa using hi);simp only[juA,jm,inB,KR]at this;exact this.2.2
theorem jmE{o:Ord'}{n:Xb}(h:o.syms.contains n=true):∃k,jiZ n o.syms=some k/\k<o.syms.length:=by
 rw[<-jky]at h;obtain⟨k,hk⟩:=Option.isSome_iff_exists.1 h;exact⟨k,hk,(jnY hk).1⟩
theorem jqS{o:Ord'}(hv:jiJ o=true){n:Xb}(h:o.syms.contains n=true):zN 1 (ints o.ws) (vi (jiw 0 (jiZ n o.syms)))=some (.elt (ci (jnN o n)) 0)/\1<=jnN o n/\jnN o n<=100:=by
 obtain⟨k,hk,hlt⟩:=jmE h;obtain⟨h1,h2,h3,h4⟩:=jkG hv;have h5:=h4 k hlt;have hlt':k<o.ws.length:=by omega
 have e:jnN o n=o.ws[k]:=by simp[jnN,hk,zk,hlt']
 rw[hk];have e2:jiw 0 (some k)=((k:Nat):Int):=by simp[jiw]
 rw[e2,jjQ hlt',e];have e3:o.ws.getD k 0=o.ws[k]:=by simp[zk,hlt']
 rw[e3]at h5;exact⟨rfl,by omega,by omega⟩
theorem jlG{o:Ord'}(hv:jiJ o=true):∀t:T,jjv o.syms t=true->1<=wt o t/\wt o t<=100*nodes t:=by
 refine T.ind λt ih hc=>?_;rw[jjm,jm]at hc;obtain⟨h1,h2,h3,_⟩:=jkG hv;have hL:∀ts:Xg,(∀u∈ts,1<=wt o u/\wt o u<=100*nodes u)->0<=wtL o ts/\wtL o ts<=100*jcO ts:=by
  intro ts;induction ts with
  |nil=>intro _;simp[wtL,jcO]
  |cons u us ih=>
   intro h;have a:=h u (by simp);have b:=ih λv hv=>h v (by simp[hv]);simp only[wtL,jcO];omega
 have hb:=hL t.args λu hu=>ih u hu (by
  have:=hc.2;rw[jkN]at this;exact jaF.1 this u hu)
 rw[jsv,jfw];cases hn:jc2 t.name with
 |true=>simp only[zw];omega
 |false=>
  have hcn:=hc.1;rw[hn,Bool.false_or]at hcn;have:=(jqS hv hcn).2;simp only[jbH,if_false];omega
theorem jkU{o:Ord'}(hv:jiJ o=true){ts:Xg}(hc:jkk o.syms ts=true):0<=wtL o ts/\wtL o ts<=100*jcO ts:=by
 induction ts with
 |nil=>simp[wtL,jcO]
 |cons u us ih=>
  simp only[jkk,jm]at hc;have a:=jlG hv u hc.1;have b:=ih hc.2;simp only[wtL,jcO];omega
theorem jot{l:Xa}{ts:Xg}(h:jkk l ts=true)(i:Nat):jkk l (ts.drop i)=true:=by
 rw[jkN]at h⊢;exact jaF.2 λu hu=>jaF.1 h u (List.mem_of_mem_drop hu)
theorem jjq{l:Xa}{ts:Xg}(h:jkk l ts=true){u:T}(hu:u∈ts):jjv l u=true:=by
 rw[jkN]at h;exact jaF.1 h u hu
theorem jst{o:Ord'}(hv:jiJ o=true)(ts:Xg)(hl:ts.length<=9223372036854775807)(hn:jcO ts<=1048577)(hc:jkk o.syms ts=true)(ih:∀t∈ts,G 139 [od o,tm t]=some (vi (wt o t),[])) :
  ∀i,i<=ts.length-> ∀a:Int,0<=a->a+wtL o (ts.drop i)<=200000000->jqd (vi a) (tms ts) (vi (ts.length:Nat)) (vi i) (strs o.syms) (ints o.ws) (vi o.var)=some (vi (a+wtL o (ts.drop i)),[]):=by
 refine upto ?_ ?_
 .intro a ha hb;rw[jwu,List.drop_length];simp only[evz,wtL,Int.add_zero]
 .intro i hi ih' a ha hb;have hlt:(i:Int)<((ts.length:Nat):Int):=by omega
  have h5:=jeZ hi hl;have e1:=ih ts[i] (YX _);have b1:=jlG hv ts[i] (jjq hc (YX _));have b2:=jkU hv (jot hc (i+1));rw[jeX hi]at hb⊢;simp only[wtL]at hb⊢;have hk:ck (a+wt o ts[i])=some (vi (a+wt o ts[i])):=jgN (by omega) (by omega);have ih':=ih' (a+wt o ts[i]) (by omega) (by omega);rw[jwu];simp only[evz,hlt,jaH hi,jbV,e1,hk,h5,ih',Int.add_assoc]
theorem jp1{o:Ord'}(hv:jiJ o=true)(ho:o.syms.length<=9223372036854775807):∀t:T,twf t->tsz t<=1048576->okT t=true->jjv o.syms t=true->G 139 [od o,tm t]=some (vi (wt o t),[]):=by
 refine T.ind λt ih hw hs hk hc=>?_;obtain⟨w1,w2,w3⟩:=(jhC t).1 hw;have w3:=(jgO _).1 w3;have e1:=jlw t hk;have hb:=jlG hv t hc;have hn:=jiS t;rw[jfw]at hn;rw[jfw]at hb;have hks:=jhB hk;rw[jiM]at hk;rw[jjm,jm]at hc;rw[jsv]at hb⊢;rw[jCX];cases hvn:jc2 t.name<;>rw[hvn]at e1 hc hk hb
 .have hcn:=hc.1;rw[Bool.false_or]at hcn;obtain⟨e2,e3,e4⟩:=jqS hv hcn;have e5:=jk1 o.syms t.name ho;have hbl:=jkU hv hc.2;have key:=jst hv t.args w2 (by omega) hc.2 (λu hu=>ih u hu (w3 u hu) (by have:=jiK hu;rw[jhG]at hs;omega) (hks u hu) (jjq hc.2 hu)) 0 (Nat.zero_le _) (jnN o t.name) (by omega) (by simp only[List.drop_zero];omega);simp only[Int.natCast_zero,List.drop_zero]at key;simp only[evz,e1,e5,e2,key]
 .simp only[zw]at hk;have:t.args=[]:=List.isEmpty_iff.1 hk;rw[this];simp only[evz,e1,wtL,Int.add_zero]
theorem jpi{o:Ord'}(hv:jiJ o=true)(n:Xb)(ts:Xg)(hl:ts.length<=9223372036854775807)(hc:jkk o.syms ts=true)(ih:∀t∈ts,G 146 [od o,tm t]=some (vi (wt o t),[])) :
  ∀i,i<=ts.length-> ∀a:Int,0<=a->a+wtL o (ts.drop i)<=200000000->jod (vi a) (vi i) (strs o.syms) (ints o.ws) (vi o.var) (sv n) (tms ts)=some (vi (a+wtL o (ts.drop i)),[]):=by
 refine upto ?_ ?_
 .intro a ha hb;rw[jwz,List.drop_length];simp only[evz,wtL,Int.add_zero]
 .intro i hi ih' a ha hb;have hlt:(i:Int)<((ts.length:Nat):Int):=by omega
  have h5:=jeZ hi hl;have e1:=ih ts[i] (YX _);have b1:=jlG hv ts[i] (jjq hc (YX _));have b2:=jkU hv (jot hc (i+1));rw[jeX hi]at hb⊢;simp only[wtL]at hb⊢;have hk:ck (a+wt o ts[i])=some (vi (a+wt o ts[i])):=jgN (by omega) (by omega);have ih':=ih' (a+wt o ts[i]) (by omega) (by omega);rw[jwz];simp only[evz,hlt,jaH hi,jbV,e1,hk,h5,ih',Int.add_assoc]
theorem jnv{o:Ord'}(hv:jiJ o=true)(ho:o.syms.length<=9223372036854775807):∀t:T,twf t->tsz t<=1048576->jjv o.syms t=true->G 146 [od o,tm t]=some (vi (wt o t),[]):=by
 refine T.ind λt ih hw hs hc=>?_;obtain⟨w1,w2,w3⟩:=(jhC t).1 hw;have w3:=(jgO _).1 w3;have e1:=jit t.name w1;have hb:=jlG hv t hc;have hn:=jiS t;rw[jfw]at hn;rw[jfw]at hb;obtain⟨_,v2,v3,_⟩:=jkG hv;rw[jjm,jm]at hc;rw[jsv]at hb⊢;rw[jC3];have hbl:=jkU hv hc.2;have key:=λa h1 h2=>jpi hv t.name t.args w2 hc.2 (λu hu=>ih u hu (w3 u hu) (by have:=jiK hu;rw[jhG]at hs;omega) (jjq hc.2 hu)) 0 (Nat.zero_le _) a h1 h2;simp only[Int.natCast_zero,List.drop_zero]at key;cases hvn:jc2 t.name<;>rw[hvn]at e1 hc hb
 .have hcn:=hc.1;rw[Bool.false_or]at hcn;obtain⟨e2,e3,e4⟩:=jqS hv hcn;have e5:=jn2 o t.name ho;have key:=key (jnN o t.name) (by omega) (by omega);simp only[evz,e1,e5,e2,key]
 .have key:=key o.var (by omega) (by omega);simp only[evz,e1,key]
theorem jpx{o:Ord'}{t:T}(h:good o t=true):okT t=true/\jjv o.syms t=true/\nodes t<=30:=by
 simp only[good,jgc,je7,jm,KR]at h;exact⟨h.1.2,h.2,h.1.1.1⟩
def jAT(o:Ord')(t:T):A:=if jiJ o && good o t then .tup [vi (wt o t),vb true]else .tup [vi 0,vb false]
theorem jmR(a b:A):jch 2 (.elt [a,b] 0)=some (.agg [a,b]):=rfl
theorem jmS(a b c:A):jch 3 (.elt [a,b,c] 0)=some (.agg [a,b,c]):=rfl
noncomputable def dq{α:Type}(a b:α):Bool:=@decide (a=b) (Classical.propDecidable _)
theorem jh4{α:Type}{a b:α} :dq a b=true↔a=b:=by unfold dq;exact @decide_eq_true_iff _ (Classical.propDecidable _)
theorem jov{α:Type}{a b:α} :dq a b=false↔ ¬a=b:=by unfold dq;exact @decide_eq_false_iff_not _ (Classical.propDecidable _)
theorem jmG{α:Type}(a:α):dq a a=true:=jh4.2 rfl
theorem jtQ{α:Type}(a b:α)(l r:List α):dq (a::l) (b::r)=(dq a b && dq l r):=by
 rw[Bool.eq_iff_iff,jm,jh4,jh4,jh4,ya]
theorem jx3(s t:T):dq s t=(decide (s.name=t.name) && dq s.args t.args):=by
 cases s with
 |mk n us=>cases t with
  |mk m vs=>rw[Bool.eq_iff_iff,jm,jh4,jh4,decide_eq_true_iff,T.mk.injEq];rfl
theorem jv0{α:Type}{a b:List α}(h:¬a.length=b.length):dq a b=false:=jov.2 λe=>h (by rw[e])
theorem jnF(ts us:Xg)(hl:ts.length<=9223372036854775807)(hlen:ts.length=us.length)(ih:∀t∈ts,∀u∈us,G 19 [tm t,tm u]=some (vb (dq t u),[])) :
  ∀i,i<=ts.length->jtw (tms us) (.fn 19 []) (tms ts) (vi (ts.length:Nat)) (vi i)=some (vb (dq (ts.drop i) (us.drop i)),[]):=by
 refine upto ?_ ?_
 .rw [jzx,List.drop_length,hlen,List.drop_length,jmG];simp only[evz]
 .intro i hi ih';have hlt:(i:Int)<((ts.length:Nat):Int):=by omega
  have hi2:i<us.length:=by omega
  have h5:=jeZ hi hl;have e1:=ih ts[i] (YX _) us[i] (YX _);rw[jzx,jeX hi,jeX hi2,jtQ];cases hp:dq ts[i] us[i]<;>rw[hp]at e1
  .simp only[evz,hlt,jaH hi,jaH hi2,jbV,jjR (f:=19) rfl,KQ,e1,Bool.false_and]
  .simp only[evz,hlt,jaH hi,jaH hi2,jbV,jjR (f:=19) rfl,KQ,e1,h5,ih',Bool.true_and]
theorem jix:∀s:T,twf s-> ∀t:T,twf t->G 19 [tm s,tm t]=some (vb (dq s t),[]):=by
 refine T.ind λs ih hw t hw'=>?_;obtain⟨w1,w2,w3⟩:=(jhC s).1 hw;have w3:=(jgO _).1 w3;obtain⟨v1,v2,v3⟩:=(jhC t).1 hw';have v3:=(jgO _).1 v3;rw[g19,jx3];by_cases hn:s.name=t.name
 .have e:G 47 [tms s.args,tms t.args,.fn 19 []]=some (vb (dq s.args t.args),[]):=by
   rw[g47];by_cases hlen:s.args.length=t.args.length
   .have key:=jnF s.args t.args w2 hlen (λa ha b hb=>ih a ha (w3 a ha) b (v3 b hb)) 0 (Nat.zero_le _);simp only[Int.natCast_zero,List.drop_zero]at key;rw[hlen]at key;simp only[evz,hlen,key]
   .have hlen':¬((s.args.length:Nat):Int)=((t.args.length:Nat):Int):=by omega
    simp only[evz,hlen',jv0 hlen]
  simp only[evz,hn,e,Bool.true_and]
 .simp only[evz,hn,Bool.false_and]
theorem jrD(n m:Xb)(ts us:Xg)(hl:ts.length<=9223372036854775807)(hlen:ts.length=us.length)(ih:∀t∈ts,∀u∈us,G 25 [tm t,tm u]=some (vb (dq t u),[])) :
  ∀i,i<=ts.length->jtq (vi i) (sv n) (tms ts) (sv m) (tms us)=some (vb (dq (ts.drop i) (us.drop i)),[]):=by
 refine upto ?_ ?_
 .rw [jzn,List.drop_length,hlen,List.drop_length,jmG];simp only[evz,hlen]
 .intro i hi ih';have hlt:(i:Int)<((ts.length:Nat):Int):=by omega
  have hi2:i<us.length:=by omega
  have h5:=jeZ hi hl;have e1:=ih ts[i] (YX _) us[i] (YX _);rw[jzn,jeX hi,jeX hi2,jtQ];cases hp:dq ts[i] us[i]<;>rw[hp]at e1
  .simp only[evz,hlt,jaH hi,jaH hi2,jbV,e1,Bool.false_and]
  .simp only[evz,hlt,jaH hi,jaH hi2,jbV,e1,h5,ih',Bool.true_and]
theorem jjI:∀s:T,twf s-> ∀t:T,twf t->G 25 [tm s,tm t]=some (vb (dq s t),[]):=by
 refine T.ind λs ih hw t hw'=>?_;obtain⟨w1,w2,w3⟩:=(jhC s).1 hw;have w3:=(jgO _).1 w3;obtain⟨v1,v2,v3⟩:=(jhC t).1 hw';have v3:=(jgO _).1 v3;rw[g25,jx3];by_cases hn:s.name=t.name
 .by_cases hlen:s.args.length=t.args.length
  .have key:=jrD t.name t.name s.args t.args w2 hlen (λa ha b hb=>ih a ha (w3 a ha) b (v3 b hb)) 0 (Nat.zero_le _);simp only[Int.natCast_zero,List.drop_zero]at key;simp only[evz,hn,hlen,key,Bool.true_and]
  .have hlen':¬((s.args.length:Nat):Int)=((t.args.length:Nat):Int):=by omega
   simp only[evz,hn,hlen',jv0 hlen,Bool.and_false]
 .simp only[evz,hn,Bool.false_and]
def rk(o:Ord')(t:T):Int:=jiw 0 (jiZ t.name o.syms)
def jkZ(a b:Int):Int:=if a<b then -1 else if b<a then 1 else 0
def jin(o:Ord')(s t:T):Int:=if rk o s=rk o t then jkZ (s.args.length:Nat) (t.args.length:Nat)else jkZ (rk o s) (rk o t)
theorem jy2(o:Ord')(s t:T)(ho:o.syms.length<=9223372036854775807):G 147 [od o,tm s,tm t]=some (vi (jin o s t),[]):=by
 have e1:=jn2 o s.name ho;have e2:=jn2 o t.name ho;rw[jC4];by_cases h:rk o s=rk o t
 .have h':jiw 0 (jiZ s.name o.syms)=jiw 0 (jiZ t.name o.syms):=h;by_cases h1:((s.args.length:Nat):Int)<((t.args.length:Nat):Int)
  .simp only[evz,e1,e2,h',jin,rk,jkZ,h1]
  .by_cases h2:((t.args.length:Nat):Int)<((s.args.length:Nat):Int)
   .simp only[evz,e1,e2,h',jin,rk,jkZ,h1,h2]
   .simp only[evz,e1,e2,h',jin,rk,jkZ,h1,h2]
 .have h':¬jiw 0 (jiZ s.name o.syms)=jiw 0 (jiZ t.name o.syms):=h;by_cases h1:jiw 0 (jiZ s.name o.syms)<jiw 0 (jiZ t.name o.syms)
  .simp only[evz,e1,e2,h',jin,rk,jkZ,h1]
  .by_cases h2:jiw 0 (jiZ t.name o.syms)<jiw 0 (jiZ s.name o.syms)
   .simp only[evz,e1,e2,h',jin,rk,jkZ,h1,h2]
   .simp only[evz,e1,e2,h',jin,rk,jkZ,h1,h2]
theorem jrW(o:Ord')(s t:T)(ho:o.syms.length<=9223372036854775807):G 140 [od o,tm s,tm t]=some (vb (decide (jin o s t<0)),[]):=by
 have e1:=jk1 o.syms s.name ho;have e2:=jk1 o.syms t.name ho;rw[jCY];by_cases h:rk o s=rk o t
 .have h':jiw 0 (jiZ s.name o.syms)=jiw 0 (jiZ t.name o.syms):=h;by_cases h1:((s.args.length:Nat):Int)<((t.args.length:Nat):Int)
  .simp only[evz,e1,e2,h',jin,rk,jkZ,h1]
  .by_cases h2:((t.args.length:Nat):Int)<((s.args.length:Nat):Int)
   .simp only[evz,e1,e2,h',jin,rk,jkZ,h1,h2];rfl
   .simp only[evz,e1,e2,h',jin,rk,jkZ,h1,h2]
 .have h':¬jiw 0 (jiZ s.name o.syms)=jiw 0 (jiZ t.name o.syms):=h;by_cases h1:jiw 0 (jiZ s.name o.syms)<jiw 0 (jiZ t.name o.syms)
  .simp only[evz,e1,e2,h',jin,rk,jkZ,h1]
  .have h2:jiw 0 (jiZ t.name o.syms)<jiw 0 (jiZ s.name o.syms):=by omega
   simp only[evz,e1,e2,h',jin,rk,jkZ,h1,h2];rfl
noncomputable def fd:Xg->Xg->Option (T×T)
 |a::l,b::r=>if dq a b=true then fd l r else some (a,b)
 |_,_=>none
theorem jqu:∀{l r:Xg}{a b:T},fd l r=some (a,b)->a∈l/\b∈r
 | [],_,_,_,h=>by simp[fd]at h
 |_::_,[],_,_,h=>by simp[fd]at h
 |x::l,y::r,a,b,h=>by
  simp only[fd]at h;split at h
  .have:=jqu h;exact⟨by simp[this.1],by simp[this.2]⟩
  .cases h;exact⟨by simp,by simp⟩
theorem jwa(s t:T)(hw:twf s)(hw':twf t)(hlen:s.args.length=t.args.length) :
  (fd s.args t.args=none/\G 148 [tm s,tm t]=some (vi (-1),[]))\/ ∃(k:Nat)(h1:k<s.args.length)(h2:k<t.args.length),fd s.args t.args=some (s.args[k],t.args[k])/\G 148 [tm s,tm t]=some (vi k,[]):=by
 obtain⟨w1,w2,w3⟩:=(jhC s).1 hw;have w3:=(jgO _).1 w3;obtain⟨v1,v2,v3⟩:=(jhC t).1 hw';have v3:=(jgO _).1 v3;have key:=upto (P:=λi=>(fd (s.args.drop i) (t.args.drop i)=none/\joe (vi i) (sv s.name) (tms s.args) (sv t.name) (tms t.args)=some (vi (-1),[]))\/ ∃(k:Nat)(h1:k<s.args.length)(h2:k<t.args.length),fd (s.args.drop i) (t.args.drop i)=some (s.args[k],t.args[k])/\joe (vi i) (sv s.name) (tms s.args) (sv t.name) (tms t.args)=some (vi k,[])) (n:=s.args.length) ?_ ?_ 0 (Nat.zero_le _)
 .simp only[Int.natCast_zero,List.drop_zero]at key;rw[jC5];rcases key with⟨h1,h2⟩|⟨k,h1,h2,h3,h4⟩
  .exact Or.inl ⟨h1,by simp only[evz,h2]⟩
  .exact Or.inr ⟨k,h1,h2,h3,by simp only[evz,h4]⟩
 .left;rw[jwA,List.drop_length];refine⟨by simp[fd],?_⟩;simp only[evz]
 .intro i hi ih;have hlt:(i:Int)<((s.args.length:Nat):Int):=by omega
  have hi2:i<t.args.length:=by omega
  have h5:=jeZ hi w2;have e1:=jjI s.args[i] (w3 _ (YX _)) t.args[i] (v3 _ (YX _));rw[jwA,jeX hi,jeX hi2,fd];cases hp:dq s.args[i] t.args[i]<;>rw[hp]at e1
  .refine Or.inr ⟨i,hi,hi2,by simp,?_⟩;simp only[evz,hlt,jaH hi,jaH hi2,jbV,e1]
  .simp only[evz,hlt,jaH hi,jaH hi2,jbV,e1,h5];exact ih
def zT:A:= .agg [sv [],.sl 2 []]
noncomputable def fdR(s t:T):A:=match fd s.args t.args with|some (a,b)=>.tup [tm a,tm b,vb true]|none=>.tup [zT,zT,vb false]
theorem jmJ(s t:T)(hw:twf s)(hw':twf t)(hn:s.name=t.name)(hlen:s.args.length=t.args.length):G 141 [tm s,tm t]=some (fdR s t,[]):=by
 obtain⟨w1,w2,w3⟩:=(jhC s).1 hw;have w3:=(jgO _).1 w3;obtain⟨v1,v2,v3⟩:=(jhC t).1 hw';have v3:=(jgO _).1 v3;have key:=upto (P:=λi=>jqe (tms s.args) (vi (s.args.length:Nat)) (vi i) (sv t.name) (tms t.args) (sv []) (sv []) [] []=some ((match fd (s.args.drop i) (t.args.drop i)with|some (a,b)=>.tup [tm a,tm b,vb true]|none=>.tup [zT,zT,vb false]),[])) (n:=s.args.length) ?_ ?_ 0 (Nat.zero_le _)
 .simp only[Int.natCast_zero,List.drop_zero]at key;rw[jBB,fdR];simp only[hlen]at key;simp only[evz,hn,hlen,key]
 .rw [jwv,List.drop_length];simp only[evz,fd,zT]
 .intro i hi ih;have hlt:(i:Int)<((s.args.length:Nat):Int):=by omega
  have hi2:i<t.args.length:=by omega
  have h5:=jeZ hi w2;have e1:=jix s.args[i] (w3 _ (YX _)) t.args[i] (v3 _ (YX _));rw[jwv,jeX hi,jeX hi2,fd];cases hp:dq s.args[i] t.args[i]<;>rw[hp]at e1
  .simp only[evz,hlt,jaH hi,jaH hi2,jbV,e1]
  .simp only[evz,hlt,jaH hi,jaH hi2,jbV,e1,h5,ih]
theorem jmK(s t:T)(h:¬(s.name=t.name/\s.args.length=t.args.length)):G 141 [tm s,tm t]=some (.tup [zT,zT,vb false],[]):=by
 rw[jBB];by_cases hn:s.name=t.name
 .have hlen':¬((s.args.length:Nat):Int)=((t.args.length:Nat):Int):=λe=>h ⟨hn,by omega⟩;simp only[evz,hn,hlen',zT]
 .simp only[evz,hn,zT]
noncomputable def juR(o:Ord'):Nat->T->T->Bool
 |0,_,_=>false
 |n+1,s,t=>if jc2 s.name then false else if(s.args.any λa=>dq a t || juR o n a t)then true else if jc2 t.name then false
   else if(t.args.any λb=> !juR o n s b)then false else if 0<jin o s t then true else if jin o s t<0 then false
   else match fd s.args t.args with|some (a,b)=>juR o n a b|none=>false
theorem jAO{o:Ord'}{s t:T}(h1:o.syms.contains s.name=true)(h2:o.syms.contains t.name=true)(h:rk o s=rk o t):s.name=t.name:=by
 obtain⟨k,hk,_⟩:=jmE h1;obtain⟨j,hj,_⟩:=jmE h2;have a1:=(jnY hk).2;have a2:=(jnY hj).2;simp only[rk,hk,hj,jiw,qM]at h;have:k=j:=by omega
 subst this;rw[a1]at a2;exact QY a2
theorem js5(o:Ord')(s t:T):jin o t s = - jin o s t:=by
 unfold jin;by_cases h:rk o s=rk o t
 .rw [ju h,ju h.symm];unfold jkZ;split<;>split<;>(try split)<;>omega
 .rw [jo h,jo (Ne.symm h)];unfold jkZ;split<;>split<;>(try split)<;>omega
def jkj(e g l:Bool):Int:=if e then 1 else if g then 2 else if l then 3 else 0
theorem juN(e g l:Bool):G 105 [vb e,vb g,vb l]=some (vi (jkj e g l),[]):=by
 rw[jCF];cases e<;>cases g<;>cases l<;>simp only[evz,jkj]
theorem joR{f g:FuncId}{caps caps':Xd}(hf:K.pureF f=true)(hg:K.pureF g=true)(e gr le:Bool)(h1:G f caps=some (vb gr,[]))(h2:G g caps'=some (vb le,[])) :
  G 96 [vb e,.fn f caps,.fn g caps']=some (vi (jkj e gr le),[]):=by
 rw[g96];cases e<;>cases gr<;>cases le<;>simp only[evz,jjR hf,jjR hg,qf,h1,h2,jkj]
noncomputable def jAb(o:Ord')(s t:T):Int:=jkj (dq s t) (juR o (nodes s+nodes t) s t) (juR o (nodes s+nodes t) t s)
noncomputable def jAd(o:Ord')(s t:T):A:=if jiJ o && (good o s && good o t)then .tup [vi (jAb o s t),vb true]else .tup [vi 0,vb false]
mutual
def jhx:T->Xa
 |.mk n us=>if jc2 n then[n]else jhV us
def jhV:Xg->Xa
 | []=>[]
 |t::ts=>jhx t++jhV ts
end
theorem ji6(t:T):jhx t=if jc2 t.name then[t.name]else jhV t.args:=by cases t;rfl
theorem jjn{n:Nat}(h:n<=4000000):jbk n 16=true:=by
 unfold jbk;simp;omega
def jmu(l:Xa)(vs:Xa)(k:Nat)(r:Xa):Prop:=(∀n,n∈r↔n∈l\/n∈vs)/\r.length<=l.length+k
theorem jpe(ts:Xg)(hl:ts.length<=9223372036854775807)(hn:jcO ts<=1048577)(ih:∀t∈ts,∀l:Xa,l.length+nodes t<=2100000-> ∃r,jmt (sv t.name) (tms t.args) (l.map cs)=some (.top,[strs r])/\jmu l (jhx t) (nodes t) r) :
  ∀i,i<=ts.length-> ∀l:Xa,l.length+jcO (ts.drop i)<=2100000-> ∃r,jmx (tms ts) (vi (ts.length:Nat)) (vi i) (l.map cs)=some (.top,[strs r])/\jmu l (jhV (ts.drop i)) (jcO (ts.drop i)) r:=by
 refine upto ?_ ?_
 .intro l hb;rw[jmN,List.drop_length];refine⟨l,?_,by simp[jhV],by omega⟩;simp only[evz]
 .intro i hi ih' l hb;have hlt:(i:Int)<((ts.length:Nat):Int):=by omega
  have h5:=jeZ hi hl;rw[jeX hi]at hb⊢;simp only[jcO,jhV]at hb⊢;obtain⟨r1,e1,c1,c2⟩:=ih ts[i] (YX _) l (by omega);obtain⟨r2,e2,d1,d2⟩:=ih' r1 (by omega);rw[jmN];refine⟨r2,?_,?_,by omega⟩
  .simp only[evz,hlt,jaH hi,jbV,e1,h5,e2]
  .intro n;rw[d1,c1,j4];exact or_assoc
theorem jsI:∀t:T,twf t->okT t=true->nodes t<=1048577-> ∀l:Xa,l.length+nodes t<=2100000-> ∃r,jmt (sv t.name) (tms t.args) (l.map cs)=some (.top,[strs r])/\jmu l (jhx t) (nodes t) r:=by
 refine T.ind λt ih hw hk hn l hb=>?_;obtain⟨w1,w2,w3⟩:=(jhC t).1 hw;have w3:=(jgO _).1 w3;have hks:=jhB hk;have e1:=jlw t hk;rw[jzf,ji6];have hpos:=jiO t;rw[jfw]at hn hb⊢;cases hv:jc2 t.name<;>rw[hv]at e1
 .
  have ih':∀u∈t.args,∀l:Xa,l.length+nodes u<=2100000-> ∃r,jmt (sv u.name) (tms u.args) (l.map cs)=some (.top,[strs r])/\jmu l (jhx u) (nodes u) r:=λu hu=>ih u hu (w3 u hu) (hks u hu) (by have:=jiH hu;omega)
  have loop:=jpe t.args w2 (by omega) ih';have start:∃r,jmw (tms t.args) (vi (t.args.length:Nat)) (vi 0) (l.map cs)=some (.top,[strs r])/\jmu l (jhV t.args) (jcO t.args) r:=by
   rw[jt0];by_cases h0:t.args.length=0
   .have ha:t.args=[]:=List.length_eq_zero_iff.1 h0;rw[ha];refine⟨l,?_,by simp[jhV],by simp[jcO]⟩;simp only[evz];rfl
   .have hi:0<t.args.length:=by omega
    have hlt:(0:Int)<((t.args.length:Nat):Int):=by omega
    have hix:zN 2 (tms t.args) (vi 0)=some (.elt (jbY t.args[0]) 0):=jaH (i:=0) hi;have h5:jgx .add false (vi 0) (vi 1)=some (vi ((1:Nat):Int)):=by rw[jjy,jgN (by decide) (by decide)];rfl
    have hd:t.args=t.args[0]::t.args.drop 1:=by have:=jeX hi;simpa using this
    have hns:jcO t.args=nodes t.args[0]+jcO (t.args.drop 1):=by conv=>lhs;rw[hd,jcO]
    have hvs:jhV t.args=jhx t.args[0]++jhV (t.args.drop 1):=by conv=>lhs;rw[hd,jhV]
    obtain⟨r1,e1,c1,c2⟩:=ih' t.args[0] (YX _) l (by omega);obtain⟨r2,e2,d1,d2⟩:=loop 1 (by omega) r1 (by omega);refine⟨r2,?_,?_,by omega⟩
    .simp only[evz,hlt,hix,jbV,e1,h5,e2]
    .intro n;rw[d1,c1,hvs,j4];exact or_assoc
  obtain⟨r,e2,d1,d2⟩:=start;refine⟨r,?_,by simpa using d1,by omega⟩;cases h0:decide (((t.args.length:Nat):Int)=0)
  .simp only[evz,h0,e2]
  .simp only[evz,h0,e1,e2]
 .have ha:t.args=[]:=by
   rw[jiM,hv]at hk;simpa using hk
  have h0:decide (((t.args.length:Nat):Int)=0)=true:=by rw[ha];rfl
  have e3:=jjO l t.name (by omega);cases hc:l.contains t.name<;>rw[hc]at e3
  .have hf:jbk (l.length+1) 16=true:=jjn (by omega);refine⟨l++[t.name],?_,by simp,by simp⟩;have happ:jgD (l.map cs) [[sv t.name]]=(l++[t.name]).map cs:=by simp[jgD]
   simp only[evz,h0,e1,e3,hf,happ]
  .refine ⟨l,?_,λn=>⟨λh=>Or.inl h,λh=>by
    rcases h with h|h
    .exact h
    .simp at h;subst h;simpa using hc⟩,by omega⟩
   simp only[evz,h0,e1,e3]
theorem jmY(t:T)(hw:twf t)(hk:okT t=true)(hn:nodes t<=1048577):∃r,G 137 [tm t]=some (strs r,[])/\(∀n,n∈r↔n∈jhx t)/\r.length<=9223372036854775807:=by
 obtain⟨r,e1,c1,c2⟩:=jsI t hw hk hn [] (by simp;omega)
 have e2:jpo (r.map cs)=some (.top,[strs (kY r)]):=by
  rw[jvS];simp only[jeO,jcv];rw[ju (by simp at c2;omega)]
 refine⟨kY r,?_,λn=>?_,by simp[kY];simp at c2;omega⟩
 .rw [jCV];simp only[List.map_nil]at e1;simp only[evz,e1,e2]
 .unfold kY;rw[List.mem_mergeSort,c1];simp
mutual
def cnt(n:Xb):T->Nat
 |.mk m us=>(if m=n then 1 else 0)+jj6 n us
def jj6(n:Xb):Xg->Nat
 | []=>0
 |t::ts=>cnt n t+jj6 n ts
end
theorem jm7(n:Xb)(t:T):cnt n t=(if t.name=n then 1 else 0)+jj6 n t.args:=by cases t;rfl
theorem jAc(n:Xb):∀t:T,cnt n t<=nodes t:=by
 refine T.ind λt ih=>?_;have:∀ts:Xg,(∀u∈ts,cnt n u<=nodes u)->jj6 n ts<=jcO ts:=by
  intro ts;induction ts with
  |nil=>intro _;simp[jj6]
  |cons u us ih=>
   intro h;have h1:=h u (by simp);have h2:=ih λv hv=>h v (by simp[hv]);simp only[jj6,jcO];omega
 have h:=this t.args ih;rw[jm7,jfw];split<;>omega
theorem jtM(n:Xb)(ts:Xg):jj6 n ts<=jcO ts:=by
 induction ts with
 |nil=>simp[jj6]
 |cons u us ih=>have:=jAc n u;simp only[jj6,jcO];omega
theorem jos(n:Xb)(ts:Xg)(hl:ts.length<=9223372036854775807)(hn:jcO ts<=1048577)(ih:∀t∈ts,G 138 [tm t,sv n]=some (vi (cnt n t:Nat),[])) :
  ∀i,i<=ts.length-> ∀a:Nat,a+jj6 n (ts.drop i)<=1048579->joc (sv n) (vi a) (tms ts) (vi (ts.length:Nat)) (vi i)=some (vi ((a+jj6 n (ts.drop i):Nat):Int),[]):=by
 refine upto ?_ ?_
 .intro a ha;rw[jwt,List.drop_length];simp only[evz,jj6,Jt]
 .intro i hi ih' a ha;have hlt:(i:Int)<((ts.length:Nat):Int):=by omega
  have h5:=jeZ hi hl;have e1:=ih ts[i] (YX _);rw[jeX hi]at ha⊢;simp only[jj6]at ha⊢;have hk:ck ((a:Int)+((cnt n ts[i]:Nat):Int))=some (vi ((a+cnt n ts[i]:Nat):Int)):=by rw[jgN (by omega) (by omega)];rfl
  have ih':=ih' (a+cnt n ts[i]) (by omega);rw[jwt];simp only[evz,hlt,jaH hi,jbV,e1,hk,h5,ih',Q4]
theorem jjw(n:Xb):∀t:T,twf t->nodes t<=1048577->G 138 [tm t,sv n]=some (vi (cnt n t:Nat),[]):=by
 refine T.ind λt ih hw hn=>?_;obtain⟨w1,w2,w3⟩:=(jhC t).1 hw;have w3:=(jgO _).1 w3;rw[jfw]at hn;have hc:=jtM n t.args;have key:=λa h=>jos n t.args w2 (by omega) (λu hu=>ih u hu (w3 u hu) (by have:=jiH hu;omega)) 0 (Nat.zero_le _) a h;simp only[Int.natCast_zero,List.drop_zero]at key;rw[jCW,jm7];by_cases h:t.name=n
 .have key:=key 1 (by omega);simp only[Int.natCast_one]at key;simp only[evz,h,key]
 .have key:=key 0 (by omega);simp only[Int.natCast_zero]at key;simp only[evz,h,key]
theorem jqB(m n:Xb)(ts:Xg)(hl:ts.length<=9223372036854775807)(hn:jcO ts<=1048577)(ih:∀t∈ts,G 161 [tm t,sv n]=some (vi (cnt n t:Nat),[])) :
  ∀i,i<=ts.length-> ∀a:Nat,a+jj6 n (ts.drop i)<=1048579->jog (sv n) (vi a) (vi i) (sv m) (tms ts)=some (vi ((a+jj6 n (ts.drop i):Nat):Int),[]):=by
 refine upto ?_ ?_
 .intro a ha;rw[jwF,List.drop_length];simp only[evz,jj6,Jt]
 .intro i hi ih' a ha;have hlt:(i:Int)<((ts.length:Nat):Int):=by omega
  have h5:=jeZ hi hl;have e1:=ih ts[i] (YX _);rw[jeX hi]at ha⊢;simp only[jj6]at ha⊢;have hk:ck ((a:Int)+((cnt n ts[i]:Nat):Int))=some (vi ((a+cnt n ts[i]:Nat):Int)):=by rw[jgN (by omega) (by omega)];rfl
  have ih':=ih' (a+cnt n ts[i]) (by omega);rw[jwF];simp only[evz,hlt,jaH hi,jbV,e1,hk,h5,ih',Q4]
theorem joE(n:Xb):∀t:T,twf t->nodes t<=1048577->G 161 [tm t,sv n]=some (vi (cnt n t:Nat),[]):=by
 refine T.ind λt ih hw hn=>?_;obtain⟨w1,w2,w3⟩:=(jhC t).1 hw;have w3:=(jgO _).1 w3;rw[jfw]at hn;have hc:=jtM n t.args;have key:=λa h=>jqB t.name n t.args w2 (by omega) (λu hu=>ih u hu (w3 u hu) (by have:=jiH hu;omega)) 0 (Nat.zero_le _) a h;simp only[Int.natCast_zero,List.drop_zero]at key;rw[jDa,jm7];by_cases h:t.name=n
 .have key:=key 1 (by omega);simp only[Int.natCast_one]at key;rw[h]at key;simp only[evz,h,key]
 .have key:=key 0 (by omega);simp only[Int.natCast_zero]at key;simp only[evz,h,key]
theorem jwH(l:Xa)(s:Xb)(hl:l.length<=2100000):∃r,G 102 [strs l,sv s]=some (strs r,[])/\jmu l [s] 1 r:=by
 have key:=upto (P:=λi=>∃r,jn9 (strs l) (sv s) (vi i)=some (strs r,[])/\jmu l [s] 1 r) (n:=l.length) ?_ ?_ 0 (Nat.zero_le _)
 .simp only[Int.natCast_zero]at key;rw[jBA];exact key
 .have hx:¬((l.length:Nat):Int)<((l.length:Nat):Int):=Int.lt_irrefl _;have s1:K6 1 (strs l) none (some (vi (l.length:Nat)))=some (strs l):=by rw[jjU (by simp),YZ (by simp)]
  have s2:K6 1 (strs l) (some (vi (l.length:Nat))) none=some (.sl 1 []):=by rw[jjs (by simp),List.drop_of_length_le (by simp)]
  have f1:jbk l.length 16=true:=jjn (by omega);have f2:jbk (l.length+1) 16=true:=jjn (by omega);have happ:jgD (jgD (l.map cs) [[sv s]]) []=(l++[s]).map cs:=by simp[jgD]
  have hlen:(jgD (l.map cs) [[sv s]]).length=l.length+1:=by simp[jgD]
  refine⟨l++[s],?_,by intro n;simp,by simp⟩
  rw[jqy];simp only[evz,hx,s1,s2,f1,f2,hlen,happ,Jt]
 .intro i hi ih;have hlt:(i:Int)<((l.length:Nat):Int):=by omega
  have h5:=jeZ hi (by omega);rw[jqy];cases h1:sLt l[i] s
  .by_cases h2:l[i]=s
   .refine ⟨l,?_,λn=>⟨λh=>Or.inl h,λh=>by
     rcases h with h|h
     .exact h
     .simp at h;rw[h,<-h2];exact YX _⟩,by omega⟩
    rw[h2]at h1;simp only[evz,hlt,jaH hi,h2,h1]
   .have s1:K6 1 (strs l) none (some (vi i))=some (strs (l.take i)):=by rw[jjU (by simp;omega),<-List.map_take]
    have s2:K6 1 (strs l) (some (vi i)) none=some (strs (l.drop i)):=by rw[jjs (by simp;omega),<-List.map_drop]
    have ht:(l.take i).length=i:=by rw[List.length_take];omega
    have f1:jbk i 16=true:=jjn (by omega);have f2:jbk (i+1) 16=true:=jjn (by omega);have f3:jbk (i+1+(l.drop i).length) 16=true:=jjn (by rw[List.length_drop];omega);have happ:jgD (jgD ((l.take i).map cs) [[sv s]]) ((l.drop i).map cs)=(l.take i++[s]++l.drop i).map cs:=by simp[jgD]
    have hlen:(jgD ((l.take i).map cs) [[sv s]]).length=i+1:=by simp[jgD];omega
    refine⟨l.take i++[s]++l.drop i,?_,λn=>?_,by simp;omega⟩
    .simp only[evz,hlt,jaH hi,h1,h2,s1,s2,ht,f1,f2,f3,hlen,happ]
    .have hm:n∈l↔n∈l.take i\/n∈l.drop i:=by rw[<-j4,jbQ]
     simp only[j4,jA,hm];exact⟨λh=>by rcases h with(h|h)|h<;>simp[h],λh=>by rcases h with(h|h)|h<;>simp[h]⟩
  .obtain ⟨r,e,c⟩:=ih;refine⟨r,?_,c⟩;simp only[evz,hlt,jaH hi,h1,h5,e]
theorem juL:∀t:T,twf t-> ∀l:Xa,l.length+nodes t<=2100000-> ∃r,G 153 [strs l,tm t]=some (strs r,[])/\jmu l (jhx t) (nodes t) r:=by
 refine T.ind λt ih hw l hb=>?_;obtain⟨w1,w2,w3⟩:=(jhC t).1 hw;have w3:=(jgO _).1 w3;have e1:=jit t.name w1;rw[jC7,ji6];rw[jfw]at hb⊢;cases hv:jc2 t.name<;>rw[hv]at e1
 .have key:=upto (P:=λi=>∀l:Xa,l.length+jcO (t.args.drop i)<=2100000-> ∃r,jqi (strs l) (vi i) (sv t.name) (tms t.args)=some (strs r,[])/\jmu l (jhV (t.args.drop i)) (jcO (t.args.drop i)) r) (n:=t.args.length) ?_ ?_ 0 (Nat.zero_le _)
  .simp only[Int.natCast_zero,List.drop_zero]at key;obtain⟨r,e,c1,c2⟩:=key l (by omega);refine⟨r,?_,by simpa using c1,by omega⟩;simp only[evz,e1,e]
  .intro l hb;rw[jwB,List.drop_length];refine⟨l,?_,by simp[jhV],by omega⟩;simp only[evz]
  .intro i hi ih' l hb;have hlt:(i:Int)<((t.args.length:Nat):Int):=by omega
   have h5:=jeZ hi w2;rw[jeX hi]at hb⊢;simp only[jcO,jhV]at hb⊢;obtain⟨r1,a1,c1,c2⟩:=ih t.args[i] (YX _) (w3 _ (YX _)) l (by omega);obtain⟨r2,a2,d1,d2⟩:=ih' r1 (by omega);rw[jwB];refine⟨r2,?_,?_,by omega⟩
   .simp only[evz,hlt,jaH hi,jbV,a1,h5,a2]
   .intro n;rw[d1,c1,j4];exact or_assoc
 .obtain ⟨r,e,c1,c2⟩:=jwH l t.name (by omega);refine⟨r,?_,by simpa using c1,by omega⟩;simp only[evz,e1,e]
theorem jpE(t:T)(hw:twf t)(hn:nodes t<=1048577):∃r,G 121 [tm t]=some (strs r,[])/\(∀n,n∈r↔n∈jhx t)/\r.length<=9223372036854775807:=by
 obtain⟨r,e,c1,c2⟩:=juL t hw [] (by simp;omega)
 have e:G 153 [.sl 1 [],tm t]=some (strs r,[]):=e;refine⟨r,?_,λn=>by rw[c1];simp,by simp at c2;omega⟩;rw[jCS];simp only[evz,e]
def bal(s t:T):Bool:=(jhx t).all λn=>decide (cnt n t<=cnt n s)
theorem jvR{r:Xa}{s t:T}(h:∀n,n∈r↔n∈jhx t):(r.all λn=>decide (cnt n t<=cnt n s))=bal s t:=by
 unfold bal;rw[Bool.eq_iff_iff,jaF,jaF];exact⟨λa n hn=>a n ((h n).2 hn),λa n hn=>a n ((h n).1 hn)⟩
theorem jrl(s t:T)(hw:twf s)(hw':twf t)(hs:nodes s<=1048577)(ht:nodes t<=1048577):G 145 [tm s,tm t]=some (vb (bal s t),[]):=by
 obtain⟨r,e,c1,c2⟩:=jpE t hw' ht;have key:=upto (P:=λi=>jqh (strs r) (vi i) (sv s.name) (tms s.args) (sv t.name) (tms t.args)=some (vb ((r.drop i).all λn=>decide (cnt n t<=cnt n s)),[])) (n:=r.length) ?_ ?_ 0 (Nat.zero_le _)
 .simp only[Int.natCast_zero,List.drop_zero]at key;rw[jvR c1]at key;rw[jC2];simp only[evz,e,key]
 .rw [jwy,List.drop_length];simp only[evz]
 .intro i hi ih;have hlt:(i:Int)<((r.length:Nat):Int):=by omega
  have h5:=jeZ hi c2;have e1:=joE r[i] s hw hs;have e2:=joE r[i] t hw' ht;rw[jwy,jeX hi,zE];by_cases h:cnt r[i] t<=cnt r[i] s
  .have h':¬((cnt r[i] s:Nat):Int)<((cnt r[i] t:Nat):Int):=by omega
   simp only[evz,hlt,jaH hi,e1,e2,h',h,h5,ih,Bool.true_and]
  .have h':((cnt r[i] s:Nat):Int)<((cnt r[i] t:Nat):Int):=by omega
   simp only[evz,hlt,jaH hi,e1,e2,h',h,Bool.false_and]
noncomputable def jj0(o:Ord'):Nat->T->T->Bool
 |0,_,_=>false
 |n+1,s,t=>if bal s t then(if wt o s=wt o t then(if jc2 s.name || jc2 t.name then false else if jin o s t=0 then(match fd s.args t.args with|some (a,b)=>jj0 o n a b|none=>false)else decide (0<jin o s t))else decide (wt o t<wt o s))else false
theorem jrA{s t a b:T}{n:Nat}(ha:a∈s.args)(hb:b∈t.args)(h:nodes s+nodes t<=n+1):nodes a+nodes b<=n:=by
 have h1:=jiH ha;have h2:=jiH hb;rw[jfw s,jfw t]at h;omega
theorem jpR{o:Ord'}{s t:T}(h:jin o s t=0):rk o s=rk o t/\s.args.length=t.args.length:=by
 unfold jin jkZ at h;split at h
 .rename_i h1;refine⟨h1,?_⟩;split at h
  .cases h
  .split at h
   .cases h
   .omega
 .split at h
  .cases h
  .split at h
   .cases h
   .omega
theorem joG{o:Ord'}(hv:jiJ o=true)(ho:o.syms.length<=9223372036854775807):∀(n:Nat)(s t:T),nodes s+nodes t<=n->twf s->twf t->tsz s<=1048576->tsz t<=1048576->jjv o.syms s=true->jjv o.syms t=true->G 106 [od o,tm s,tm t]=some (vb (jj0 o n s t),[])
 |0,s,t,h,_,_,_,_,_,_=>by have:=jiO s;omega
 |n+1,s,t,h,hw,hw',hs,ht,hc,hc'=>by
  obtain⟨w1,w2,w3⟩:=(jhC s).1 hw;have w3:=(jgO _).1 w3;obtain⟨v1,v2,v3⟩:=(jhC t).1 hw';have v3:=(jgO _).1 v3;have hns:=jiS s;have hnt:=jiS t;have e1:=jrl s t hw hw' (by omega) (by omega);have e2:=jnv hv ho s hw hs hc;have e3:=jnv hv ho t hw' ht hc';have e4:=jit s.name w1;have e5:=jit t.name v1;have e6:=jy2 o s t ho;have cs1:∀a∈s.args,jjv o.syms a=true:=λa ha=>by rw[jjm,jm]at hc;exact jjq hc.2 ha
  have cs2:∀a∈t.args,jjv o.syms a=true:=λa ha=>by rw[jjm,jm]at hc';exact jjq hc'.2 ha
  rw[jCG,jj0];cases hb:bal s t<;>rw[hb]at e1
  .simp only[evz,e1]
  by_cases hwt:wt o s=wt o t;rotate_left
  .simp only[evz,e1,e2,e3,hwt]
  cases hv1:jc2 s.name<;>rw[hv1]at e4
  rotate_left
  .simp only[evz,e1,e2,e3,hwt,e4,Bool.true_or]
  cases hv2:jc2 t.name<;>rw[hv2]at e5
  rotate_left
  .simp only[evz,e1,e2,e3,hwt,e4,e5,Bool.false_or]
  by_cases hr:jin o s t=0;rotate_left
  .simp only[evz,e1,e2,e3,hwt,e4,e5,e6,hr,Bool.false_or]
  obtain⟨_,hlen⟩:=jpR hr;rcases jwa s t hw hw' hlen with⟨f1,f2⟩|⟨k,k1,k2,f1,f2⟩
  .have:¬(0:Int)<= -1:=by decide
   simp only[evz,e1,e2,e3,hwt,e4,e5,e6,hr,Bool.false_or,f1,f2,this]
  .have m1:=YX k1;have m2:=YX k2;have e7:=joG hv ho n s.args[k] t.args[k] (jrA m1 m2 h) (w3 _ m1) (v3 _ m2) (by have:=jiK m1;rw[jhG]at hs;omega) (by have:=jiK m2;rw[jhG]at ht;omega) (cs1 _ m1) (cs2 _ m2);have:(0:Int)<=(k:Int):=by omega
   simp only[evz,e1,e2,e3,hwt,e4,e5,e6,hr,Bool.false_or,f1,f2,this,jaH k1,jaH k2,jbV,e7]
theorem jsP{o:Ord'}(hv:jiJ o=true)(ho:o.syms.length<=9223372036854775807):∀(n:Nat)(s t:T),nodes s+nodes t<=n->twf s->twf t->tsz s<=1048576->tsz t<=1048576->okT s=true->okT t=true->jjv o.syms s=true->jjv o.syms t=true->G 98 [od o,tm s,tm t]=some (vb (jj0 o n s t),[])
 |0,s,t,h,_,_,_,_,_,_,_,_=>by have:=jiO s;omega
 |n+1,s,t,h,hw,hw',hs,ht,hk,hk',hc,hc'=>by
  obtain⟨w1,w2,w3⟩:=(jhC s).1 hw;have w3:=(jgO _).1 w3;obtain⟨v1,v2,v3⟩:=(jhC t).1 hw';have v3:=(jgO _).1 v3;have hns:=jiS s;have hnt:=jiS t;have ks:=jhB hk;have ks':=jhB hk';have e2:=jp1 hv ho s hw hs hk hc;have e3:=jp1 hv ho t hw' ht hk' hc';have e4:=jlw s hk;have e5:=jlw t hk';have e6:=jrW o t s ho;rw[js5]at e6;have cs1:∀a∈s.args,jjv o.syms a=true:=λa ha=>by rw[jjm,jm]at hc;exact jjq hc.2 ha
  have cs2:∀a∈t.args,jjv o.syms a=true:=λa ha=>by rw[jjm,jm]at hc';exact jjq hc'.2 ha
  obtain⟨r,er,c1,c2⟩:=jmY t hw' hk' (by omega);have tail:jrd (strs r) (vi (r.length:Nat)) (vi (r.length:Nat)) (strs o.syms) (ints o.ws) (vi o.var) (sv s.name) (tms s.args) (sv t.name) (tms t.args)=some (vb (if wt o s=wt o t then(if jc2 s.name || jc2 t.name then false else if jin o s t=0 then(match fd s.args t.args with|some (a,b)=>jj0 o n a b|none=>false)else decide (0<jin o s t))else decide (wt o t<wt o s)),[]):=by
   rw[jwQ];by_cases hwt:wt o s=wt o t;rotate_left
   .simp only[evz,e2,e3,hwt]
   have hnlt:¬wt o t<wt o s:=by omega
   cases hv1:jc2 s.name<;>rw[hv1]at e4
   rotate_left
   .simp only[evz,e2,e3,hwt,e4,Bool.true_or]
   cases hv2:jc2 t.name<;>rw[hv2]at e5
   rotate_left
   .simp only[evz,e2,e3,hwt,e4,e5,Bool.false_or]
   by_cases hr:jin o s t=0
   .have hr':¬ -jin o s t<0:=by omega
    obtain⟨hrk,hlen⟩:=jpR hr;have hcn:o.syms.contains s.name=true:=by rw[jjm,hv1,Bool.false_or,jm]at hc;exact hc.1
    have hcn':o.syms.contains t.name=true:=by rw[jjm,hv2,Bool.false_or,jm]at hc';exact hc'.1
    have e7:=jmJ s t hw hw' (jAO hcn hcn' hrk) hlen;cases hf:fd s.args t.args with
    |none=>
     have:fdR s t = .tup [zT,zT,vb false]:=by unfold fdR;rw[hf]
     rw[this]at e7;simp only[hr]at e6;simp only[evz,e2,e3,hwt,e4,e5,e6,hr,Bool.false_or,e7,zT,Int.neg_zero]
    |some p=>
     obtain⟨a,b⟩:=p;have:fdR s t = .tup [tm a,tm b,vb true]:=by unfold fdR;rw[hf]
     rw[this]at e7;obtain⟨ma,mb⟩:=jqu hf;have e8:=jsP hv ho n a b (jrA ma mb h) (w3 a ma) (v3 b mb) (by have:=jiK ma;rw[jhG]at hs;omega) (by have:=jiK mb;rw[jhG]at ht;omega) (ks a ma) (ks' b mb) (cs1 a ma) (cs2 b mb);simp only[hr]at e6;simp only[evz,e2,e3,hwt,e4,e5,e6,hr,Bool.false_or,e7,e8,Int.neg_zero]
   .by_cases hg:0<jin o s t
    .have hg': -jin o s t<0:=by omega
     simp only[evz,e2,e3,hwt,e4,e5,e6,hr,hg,hg',Bool.false_or]
    .have hg':¬ -jin o s t<0:=by omega
     have hno:¬(s.name=t.name/\s.args.length=t.args.length):=by
      rintro⟨q1,q2⟩;apply hr;have:rk o s=rk o t:=by unfold rk;rw[q1]
      unfold jin jkZ;rw[ju this,q2];simp
     have e7:=jmK s t hno;simp only[evz,e2,e3,hwt,e4,e5,e6,hr,hg,hg',Bool.false_or,e7,zT]
  have key:=upto (P:=λi=>jrd (strs r) (vi (r.length:Nat)) (vi i) (strs o.syms) (ints o.ws) (vi o.var) (sv s.name) (tms s.args) (sv t.name) (tms t.args)=some (vb (if((r.drop i).all λn=>decide (cnt n t<=cnt n s))then(if wt o s=wt o t then(if jc2 s.name || jc2 t.name then false else if jin o s t=0 then(match fd s.args t.args with|some (a,b)=>jj0 o n a b|none=>false)else decide (0<jin o s t))else decide (wt o t<wt o s))else false),[])) (n:=r.length) ?_ ?_ 0 (Nat.zero_le _)
  .simp only[Int.natCast_zero,List.drop_zero]at key;rw[jvR c1]at key;rw[g98,jj0];simp only[evz,er];exact key
  .rw [tail,List.drop_length];rfl
  .intro i hi ih;have hlt:(i:Int)<((r.length:Nat):Int):=by omega
   have h5:=jeZ hi c2;have a1:=jjw r[i] s hw (by omega);have a2:=jjw r[i] t hw' (by omega);rw[jwQ,jeX hi,zE];by_cases hcn:cnt r[i] t<=cnt r[i] s
   .have h':¬((cnt r[i] s:Nat):Int)<((cnt r[i] t:Nat):Int):=by omega
    simp only[evz,hlt,jaH hi,a1,a2,h',hcn,h5,ih,Bool.true_and]
   .have h':((cnt r[i] s:Nat):Int)<((cnt r[i] t:Nat):Int):=by omega
    simp only[evz,hlt,jaH hi,a1,a2,h',hcn,Bool.false_and]
noncomputable def jjH(o:Ord')(s t:T):Int:=jkj (dq s t) (jj0 o (nodes s+nodes t) s t) (jj0 o (nodes s+nodes t) t s)
noncomputable def jk0(o:Ord')(s t:T):A:=if jiJ o && (good o s && good o t)then .tup [vi (jjH o s t),vb true]else .tup [vi 0,vb false]
theorem jnL(o:Ord')(s t:T)(ho:owf o)(hw:twf s)(hs:tsz s<=1048576)(hw':twf t)(hs':tsz t<=1048576):G 67 [od o,tm s,tm t]=some (jk0 o s t,[]):=by
 have e1:=juO o ho;have e2:=jpH o s ho.1.2 hw hs;have e3:=jpH o t ho.1.2 hw' hs';have e4:=jjI s hw t hw';have e7:=juN (dq s t) (jj0 o (nodes s+nodes t) s t) (jj0 o (nodes s+nodes t) t s);rw[g67,jk0];cases h:jiJ o<;>rw[h]at e1
 .simp only[evz,e1,Bool.false_and]
 .cases h2:good o s<;>rw[h2]at e2
  .simp only[evz,e1,e2,Bool.and_false,Bool.false_and]
  .cases h3:good o t<;>rw[h3]at e3
   .simp only[evz,e1,e2,e3,Bool.and_false]
   .have g2:=jpx h2;have g3:=jpx h3;have e5:=joG h ho.1.2 (nodes s+nodes t) s t (jR _) hw hw' hs hs' g2.2.1 g3.2.1;have e6:=joG h ho.1.2 (nodes s+nodes t) t s (by omega) hw' hw hs' hs g3.2.1 g2.2.1;simp only[evz,e1,e2,e3,e4,e5,e6,e7,jjH]
theorem jle{o:Ord'}(hv:jiJ o=true)(s t:T)(ho:owf o)(hw:twf s)(hs:tsz s<=1048576)(hw':twf t)(hs':tsz t<=1048576)(hk:okT s=true)(hk':okT t=true)(hc:jjv o.syms s=true)(hc':jjv o.syms t=true):G 62 [od o,tm s,tm t]=some (vi (jjH o s t),[]):=by
 have e4:=jix s hw t hw';have e5:=jsP hv ho.1.2 (nodes s+nodes t) s t (jR _) hw hw' hs hs' hk hk' hc hc';have e6:=jsP hv ho.1.2 (nodes s+nodes t) t s (by omega) hw' hw hs' hs hk' hk hc' hc;have c1:G 97 [.elt (jqI o) 0,.elt [sv s.name,.sl 2 (s.args.map jbY)] 0,.elt [sv t.name,.sl 2 (t.args.map jbY)] 0]=some (vb (jj0 o (nodes s+nodes t) s t),[]):=by
  rw[g97];simp only[evz,jmR,jmS,e5]
 have c2:G 99 [.elt (jqI o) 0,.elt [sv t.name,.sl 2 (t.args.map jbY)] 0,.elt [sv s.name,.sl 2 (s.args.map jbY)] 0]=some (vb (jj0 o (nodes s+nodes t) t s),[]):=by
  rw[g99];simp only[evz,jmR,jmS,e6]
 have e7:=joR (f:=97) (g:=99) rfl rfl (dq s t) _ _ c1 c2;rw[g62];simp only[evz,e4,e7,jjH]
def jmA(t:T):T:=t.args.getD 0 (.mk [] [])
def jnE(t:T):T:=t.args.getD 1 (.mk [] [])
def jjS(t:T):Bool:=decide (t.args.length=2) && (je7 t && (okT (jmA t) && okT (jnE t)))
theorem jjF{t:T}(hl:t.args.length=2):zN 2 (tms t.args) (vi 0)=some (.elt (jbY (jmA t)) 0)/\zN 2 (tms t.args) (vi 1)=some (.elt (jbY (jnE t)) 0)/\jmA t∈t.args/\jnE t∈t.args:=by
 have e0:jmA t=t.args[0]:=by unfold jmA;simp[zk,hl]
 have e1:jnE t=t.args[1]:=by unfold jnE;simp[zk,hl]
 rw[e0,e1];exact⟨jaH (i:=0) (by omega),jaH (i:=1) (by omega),YX _,YX _⟩
theorem jmm(t:T)(hw:twf t)(hs:tsz t<=1048576)(he:t.name=[61]):G 48 [tm t]=some (vb (jjS t),[]):=by
 obtain⟨w1,w2,w3⟩:=(jhC t).1 hw;have w3:=(jgO _).1 w3;have het:(t.name=[61])=True:=eq_true he;unfold jjS;rw[g48];by_cases hl:t.args.length=2;rotate_left
 .have hl':¬((t.args.length:Nat):Int)=2:=by omega
  simp only[evz,het,hl',hl,Bool.false_and]
 have hl':((t.args.length:Nat):Int)=2:=by omega
 rw[decide_eq_true hl,Bool.true_and];obtain⟨i0,i1,ma,mb⟩:=jjF hl;have p1:=jpD t hw hs;have p2:=jmn _ (w3 _ ma);have p3:=jmn _ (w3 _ mb);cases h1:je7 t<;>rw[h1]at p1
 .simp only[evz,het,hl',p1,Bool.false_and]
 .cases h2:okT (jmA t)<;>rw[h2]at p2
  .simp only[evz,het,hl',p1,i0,jbV,p2,Bool.false_and,Bool.and_false]
  .simp only[evz,het,hl',p1,i0,i1,jbV,p2,p3,Bool.true_and]
theorem jjP(t:T):G 26 [tm t]=some (vb (decide (t.name=[61])),[]):=by
 rw[g26];simp only[evz]
theorem jjZ(t:T)(hw:twf t)(hs:tsz t<=1048576)(he:t.name=[61]):G 27 [tm t]=some (vb (jjS t),[]):=by
 obtain⟨w1,w2,w3⟩:=(jhC t).1 hw;have w3:=(jgO _).1 w3;have q0:=jjP t;rw[decide_eq_true he]at q0;unfold jjS;rw[g27];by_cases hl:t.args.length=2;rotate_left
 .have hl':¬((t.args.length:Nat):Int)=2:=by omega
  simp only[evz,q0,hl',hl,Bool.false_and]
 have hl':((t.args.length:Nat):Int)=2:=by omega
 rw[decide_eq_true hl,Bool.true_and];obtain⟨i0,i1,ma,mb⟩:=jjF hl;have p1:=jk2 t hw hs;have p2:=jlv _ (w3 _ ma);have p3:=jlv _ (w3 _ mb);cases h1:je7 t<;>rw[h1]at p1
 .simp only[evz,q0,hl',p1,Bool.false_and]
 .cases h2:okT (jmA t)<;>rw[h2]at p2
  .simp only[evz,q0,hl',p1,i0,jbV,p2,Bool.false_and,Bool.and_false]
  .simp only[evz,q0,hl',p1,i0,i1,jbV,p2,p3,Bool.true_and]
def jD4(o:Ord')(t:T):Bool:=decide (t.name=[61]) && (jjS t && (jjv o.syms (jmA t) && jjv o.syms (jnE t)))
theorem jxC(n:Xb)(us:Xg):tsz (.mk n us)=n.length+us.length+jks us:=rfl
theorem jAV:∀t:T,tsz t<=1048576->twf t:=by
 refine T.ind λt ih h=>?_;have h':=h;rw[jhG]at h';exact(jhC t).2 ⟨by omega,by omega,(jgO _).2 λu hu=>ih u hu (by have:=jiK hu;omega)⟩
theorem js0{n:Nat}(h:n<=4194304):jbk n 40=true:=by
 unfold jbk;exact decide_eq_true ⟨by omega,by omega⟩
theorem jni(t:T):tsz t<=1048576->G 13 [tm t]=some (tm t,[]):=by
 refine T.ind (p:=λt=>tsz t<=1048576->G 13 [tm t]=some (tm t,[])) ?_ t;intro t ih h;rw[jhG]at h;have key:=(upto (P:=λi=>jtl (vi i) (sv t.name) (tms t.args) (sv []) (sv t.name) [] ((t.args.take i).map jbY)=some (tm t,[])) (n:=t.args.length) ?_ ?_ 0 (Nat.zero_le _))
 .rw [g13];simp only[Int.natCast_zero,List.take_zero,List.map_nil]at key;simp only[evz,key]
 .rw [jzh,List.take_length];simp only[evz]
 .intro i hi ih';have hlt:(i:Int)<((t.args.length:Nat):Int):=by omega
  have h5:=jeZ hi (by show t.args.length<=9223372036854775807;omega)
  have e1:=ih t.args[i] (YX _) (by have:=jiK (YX hi);omega)
  have hf:jbk (i+1) 40=true:=js0 (by omega);have hl:((t.args.take i).map jbY).length=i:=by rw[jbP,List.length_take];omega
  have ha:jgD ((t.args.take i).map jbY) [[sv t.args[i].name,tms t.args[i].args]]=(t.args.take (i+1)).map jbY:=by
   rw[show[sv t.args[i].name,tms t.args[i].args]=jbY t.args[i] from(jhF _).symm,List.take_add_one,jv hi,jbM];rfl
  rw[jzh];simp only[evz,hlt,jaH hi,jbV,e1,hl,hf,ha,h5,ih']
theorem jul(o:Ord')(s t:T):jin o s t=0↔rk o s=rk o t/\s.args.length=t.args.length:=by
 unfold jin jkZ;constructor
 .intro h;split at h
  .rename_i h1;refine⟨h1,?_⟩;split at h
   .omega
   .split at h<;>omega
  .split at h
   .omega
   .split at h<;>omega
 .rintro ⟨h1,h2⟩;rw[ju h1,jo (by omega),jo (by omega)]
theorem jAM(o:Ord')(s t:T):0<jin o s t↔rk o t<rk o s\/(rk o s=rk o t/\t.args.length<s.args.length):=by
 unfold jin jkZ;constructor
 .intro h;split at h
  .rename_i h1;right;refine⟨h1,?_⟩;split at h
   .omega
   .split at h<;>omega
  .left;split at h
   .omega
   .split at h<;>omega
 .rintro (h|⟨h1,h2⟩)
  .rw [jo (by omega),jo (by omega),ju h];decide
  .rw [ju h1,jo (by omega),ju (by omega)];decide
theorem jyY(o:Ord')(s:T):jin o s s=0:=(jul o s s).2 ⟨rfl,rfl⟩
theorem jtS:∀l:Xg,fd l l=none
 | []=>rfl
 |x::l=>by rw[fd,ju (jh4.2 rfl),jtS l]
theorem jrv{R:T->T->Prop} :∀{l m r:Xg}{a b c d:T},(∀x∈l,∀y∈m,∀z∈r,R x y->R y z->R x z)->(∀x∈l,¬R x x)->fd l m=some (a,b)->R a b->fd m r=some (c,d)->R c d-> ∃x z,fd l r=some (x,z)/\R x z
 | [],_,_,_,_,_,_,_,_,h,_,_,_=>by simp[fd]at h
 |_::_,[],_,_,_,_,_,_,_,h,_,_,_=>by simp[fd]at h
 |_::_,_::_,[],_,_,_,_,_,_,_,_,h,_=>by simp[fd]at h
 |x::l,y::m,z::r,a,b,c,d,htr,hir,h1,r1,h2,r2=>by
  rw[fd]at h1 h2⊢;by_cases e1:x=y
  .rw [ju (jh4.2 e1)]at h1;by_cases e2:y=z
   .rw [ju (jh4.2 e2)]at h2;rw[ju (jh4.2 (e1.trans e2))];exact jrv (λu hu v hv w hw=>htr u (by simp[hu]) v (by simp[hv]) w (by simp[hw])) (λu hu=>hir u (by simp[hu])) h1 r1 h2 r2
   .rw [jo (λh=>e2 (jh4.1 h))]at h2;cases h2;subst e1;rw[jo (λh=>e2 (jh4.1 h))];exact⟨_,_,rfl,r2⟩
  .rw [jo (λh=>e1 (jh4.1 h))]at h1;cases h1;by_cases e2:y=z
   .subst e2;rw[jo (λh=>e1 (jh4.1 h))];exact⟨_,_,rfl,r1⟩
   .rw [jo (λh=>e2 (jh4.1 h))]at h2;cases h2;have h3:=htr x (by simp) y (by simp) z (by simp) r1 r2;have e3:x≠z:=λe=>by
     subst e;exact hir x (by simp) h3
    rw[jo (λh=>e3 (jh4.1 h))];exact⟨_,_,rfl,h3⟩
def Lp(o:Ord')(s t:T):Prop:=juR o (nodes s+nodes t) s t=true
theorem jjG{s a:T}(h:a∈s.args):nodes a<nodes s:=by
 have:=jiH h;rw[jfw s];omega
def Kp(o:Ord')(s t:T):Prop:=jj0 o (nodes s+nodes t) s t=true
theorem jml(o:Ord'):∀(n m:Nat)(s t:T),nodes s+nodes t<=n->nodes s+nodes t<=m->jj0 o n s t=jj0 o m s t
 |0,_,s,t,h,_=>by have:=jiO s;omega
 |_+1,0,s,t,_,h=>by have:=jiO s;omega
 |n+1,m+1,s,t,h1,h2=>by
  rw[jj0,jj0];cases hf:fd s.args t.args with
  |none=>rfl
  |some p=>
   obtain⟨a,b⟩:=p;have hm:=jqu hf;have h3:=jjG hm.1;have h4:=jjG hm.2;simp only[jml o n m a b (by omega) (by omega)]
theorem jn8(o:Ord')(s t:T):Kp o s t↔bal s t=true/\(wt o t<wt o s\/(wt o s=wt o t/\(jc2 s.name=false/\jc2 t.name=false)/\(0<jin o s t\/(jin o s t=0/\ ∃a b,fd s.args t.args=some (a,b)/\Kp o a b)))):=by
 unfold Kp;obtain⟨n,hn⟩:∃n,nodes s+nodes t=n+1:=⟨nodes s+nodes t-1,by have:=jiO s;omega⟩;rw[hn,jj0];have e3:(match fd s.args t.args with|some (a,b)=>jj0 o n a b|none=>false)=true↔ ∃a b,fd s.args t.args=some (a,b)/\jj0 o (nodes a+nodes b) a b=true:=by
  cases hf:fd s.args t.args with
  |none=>simp
  |some p=>
   obtain⟨a,b⟩:=p;have hm:=jqu hf;have h3:=jjG hm.1;have h4:=jjG hm.2;dsimp only;rw[jml o n (nodes a+nodes b) a b (by omega) (jR _)];constructor
   .intro h;exact⟨a,b,rfl,h⟩
   .rintro ⟨a',b',h,h'⟩;cases h;exact h'
 cases hb:bal s t
 .simp
 .rw [ju rfl];simp only[true_and];by_cases hw:wt o s=wt o t
  .rw [ju hw];have hw':¬wt o t<wt o s:=by omega
   cases hv:jc2 s.name
   .cases hv2:jc2 t.name
    .simp only[Bool.or_self,jbH,if_false,true_and,and_self];by_cases hr:jin o s t=0
     .rw [ju hr];refine Iff.trans e3 ?_;constructor
      .intro h;exact Or.inr ⟨hw,Or.inr ⟨hr,h⟩⟩
      .rintro (h|⟨_,h|⟨_,h⟩⟩)
       .exact (hw' h).elim
       .omega
       .exact h
     .rw [jo hr,decide_eq_true_iff];constructor
      .intro h;exact Or.inr ⟨hw,Or.inl h⟩
      .rintro (h|⟨_,h|⟨h,_⟩⟩)
       .exact (hw' h).elim
       .exact h
       .exact (hr h).elim
    .simp [hw']
   .simp [hw']
  .rw [jo hw,decide_eq_true_iff];constructor
   .intro h;exact Or.inl h
   .rintro (h|⟨h,_⟩)
    .exact h
    .exact (hw h).elim
theorem jo8{n:Xb}(hn:jc2 n=true):∀t:T,okT t=true->(n∈jhx t↔1<=cnt n t):=by
 refine T.ind λt ih hk=>?_;have hL:∀ts:Xg,(∀u∈ts,(n∈jhx u↔1<=cnt n u))->(n∈jhV ts↔1<=jj6 n ts):=by
  intro ts;induction ts with
  |nil=>intro _;simp[jhV,jj6]
  |cons u us ih2=>
   intro h;have h1:=h u (by simp);have h2:=ih2 λv hv=>h v (by simp[hv]);simp only[jhV,jj6,j4,h1,h2];omega
 have hargs:=hL t.args λu hu=>ih u hu (jhB hk u hu);rw[ji6,jm7];rw[jiM]at hk;cases hv:jc2 t.name
 .have hne:t.name≠n:=λe=>by rw[e,hn]at hv;cases hv
  rw[jo Bool.false_ne_true,jo hne,hargs];omega
 .rw [hv,ju rfl]at hk;have ha:=List.isEmpty_iff.1 hk;rw[ju rfl,jA,ha];by_cases e:t.name=n
  .rw [ju e];simp[jj6,e]
  .rw [jo e];simp[jj6];exact λh=>e h.symm
theorem jo9{n:Xb} :∀t:T,n∈jhx t->jc2 n=true:=by
 refine T.ind λt ih h=>?_;rw[ji6]at h;cases hv:jc2 t.name
 .rw [hv,jo Bool.false_ne_true]at h;have:∀ts:Xg,(∀u∈ts,n∈jhx u->jc2 n=true)->n∈jhV ts->jc2 n=true:=by
   intro ts;induction ts with
   |nil=>intro _ h;simp[jhV]at h
   |cons u us ih2=>
    intro h h2;simp only[jhV,j4]at h2;rcases h2 with h2|h2
    .exact h u (by simp) h2
    .exact ih2 (λv hv=>h v (by simp[hv])) h2
  exact this t.args ih h
 .rw [hv,ju rfl,jA]at h;rw[h];exact hv
theorem jxZ{s t:T} :bal s t=true↔ ∀n∈jhx t,cnt n t<=cnt n s:=by
 unfold bal;rw[jaF];simp
theorem juy{s t u:T}(kt:okT t=true)(ku:okT u=true)(h1:bal s t=true)(h2:bal t u=true):bal s u=true:=by
 rw[jxZ]at *;intro n hn;have hv:=jo9 u hn;have c1:=(jo8 hv u ku).1 hn;have c2:=h2 n hn;have c3:=h1 n ((jo8 hv t kt).2 (by omega));omega
theorem jsC(o:Ord')(x:T):¬Kp o x x:=by
 intro h;obtain⟨_,h|⟨_,_,h|⟨_,_,_,h,_⟩⟩⟩:=(jn8 o x x).1 h
 .omega
 .rw [jyY]at h;omega
 .rw [jtS]at h;cases h
theorem jwi(o:Ord'):∀N s t u,nodes s+nodes t+nodes u<=N->okT s=true->okT t=true->okT u=true->Kp o s t->Kp o t u->Kp o s u:=by
 intro N;induction N with
 |zero=>intro s _ _ h;have:=jiO s;omega
 |succ N ih=>
  intro s t u hN ks kt ku h1 h2;obtain⟨b1,c1⟩:=(jn8 o s t).1 h1;obtain⟨b2,c2⟩:=(jn8 o t u).1 h2;refine(jn8 o s u).2 ⟨juy kt ku b1 b2,?_⟩;rcases c1 with c1|⟨w1,v1,r1⟩
  .left;rcases c2 with c2|⟨w2,_⟩<;>omega
  .rcases c2 with c2|⟨w2,v2,r2⟩
   .left;omega
   .right;refine⟨by omega,⟨v1.1,v2.2⟩,?_⟩;rw[jAM,jul]at *;rcases r1 with r1|⟨r1,a,b,hf,hL⟩
    .left;rcases r2 with r2|⟨r2,_⟩<;>omega
    .rcases r2 with r2|⟨r2,a',b',hf2,hL2⟩
     .left;omega
     .right;refine⟨⟨by omega,by omega⟩,?_⟩;exact jrv (R:=Kp o) (λx hx y hy z hz q1 q2=>by
       have n1:=jjG hx;have n2:=jjG hy;have n3:=jjG hz;exact ih x y z (by omega) (jhB ks x hx) (jhB kt y hy) (jhB ku z hz) q1 q2) (λx _=>jsC o x) hf hL hf2 hL2
theorem jvE{o:Ord'}{s t u:T}(ks:okT s=true)(kt:okT t=true)(ku:okT u=true)(h1:Kp o s t)(h2:Kp o t u):Kp o s u:=jwi o _ s t u (jR _) ks kt ku h1 h2
theorem jm6(o:Ord')(s t:T):jjH o s t=jkj (dq s t) (@decide (Kp o s t) (Classical.propDecidable _)) (@decide (Kp o t s) (Classical.propDecidable _)):=by
 have e1:jj0 o (nodes s+nodes t) s t = @decide (Kp o s t) (Classical.propDecidable _):=by
  unfold Kp;cases jj0 o (nodes s+nodes t) s t<;>simp
 have e2:jj0 o (nodes s+nodes t) t s = @decide (Kp o t s) (Classical.propDecidable _):=by
  rw[jml o (nodes s+nodes t) (nodes t+nodes s) t s (by omega) (jR _)];unfold Kp;cases jj0 o (nodes t+nodes s) t s<;>simp
 unfold jjH;rw[e1,e2]
def rbI(c:Int):Int:=if c=2 then 3 else if c=3 then 2 else c
open Classical in
theorem juB{R:T->T->Prop}{s t:T}(h:¬(R s t/\R t s)):jkj (dq t s) (decide (R t s)) (decide (R s t))=rbI (jkj (dq s t) (decide (R s t)) (decide (R t s))):=by
 have e:dq t s=dq s t:=by
  rw[Bool.eq_iff_iff,jh4,jh4];exact⟨Eq.symm,Eq.symm⟩
 rw[e];unfold jkj rbI;cases dq s t
 .by_cases h1:R s t
  .have h2:¬R t s:=λh2=>h ⟨h1,h2⟩;simp[h1,h2]
  .by_cases h2:R t s<;>simp[h1,h2]
 .simp
open Classical in
theorem jvX{R:T->T->Prop}{s t:T}(hir:∀x,¬R x x):jkj (dq s t) (decide (R s t)) (decide (R t s))=2↔R s t:=by
 unfold jkj;cases hd:dq s t
 .by_cases h1:R s t
  .simp [h1]
  .by_cases h2:R t s<;>simp[h1,h2]
 .have:=jh4.1 hd;subst this;simp[hir s]
theorem jwh{o:Ord'}{s t:T}(ks:okT s=true)(kt:okT t=true):jjH o t s=rbI (jjH o s t):=by
 rw[jm6,jm6];exact juB (R:=Kp o) λ⟨h1,h2⟩=>jsC o s (jvE ks kt ks h1 h2)
theorem jyE(o:Ord')(s t:T):jjH o s t=2↔Kp o s t:=by
 rw[jm6];exact jvX (R:=Kp o) (jsC o)
def look:List (Xb×T)->Xb->Option T
 | [],_=>none
 |p::u,n=>if p.1=n then some p.2 else look u n
def jkc(u:List (Xb×T))(n:Xb):T:=(look u n).getD (.mk n [])
mutual
def sub(u:List (Xb×T)):T->T
 |.mk n us=>if jc2 n then jkc u n else .mk n (jvj u us)
def jvj(u:List (Xb×T)):Xg->Xg
 | []=>[]
 |t::ts=>sub u t::jvj u ts
end
theorem jse(u:List (Xb×T)):∀ts:Xg,jvj u ts=ts.map (sub u)
 | []=>rfl
 |t::ts=>by rw[jvj,jse u ts,zB]
theorem jkd{u:List (Xb×T)}{t:T}(h:jc2 t.name=true):sub u t=jkc u t.name:=by
 obtain⟨n,us⟩:=t;have h:jc2 n=true:=h;show(if jc2 n then jkc u n else T.mk n (jvj u us))=_;rw[ju h];rfl
theorem jjA{u:List (Xb×T)}{t:T}(h:jc2 t.name=false):sub u t = .mk t.name (t.args.map (sub u)):=by
 obtain⟨n,us⟩:=t;have h:jc2 n=false:=h;show(if jc2 n then jkc u n else T.mk n (jvj u us))=_;rw[h,jo Bool.false_ne_true,jse];rfl
theorem jo1{u:List (Xb×T)}{t:T}(h:jc2 t.name=false):(sub u t).name=t.name:=by rw[jjA h];rfl
theorem jmV{u:List (Xb×T)}{t:T}(h:jc2 t.name=false):(sub u t).args=t.args.map (sub u):=by rw[jjA h];rfl
theorem jjW{t:T}(h:okT t=true)(hv:jc2 t.name=true):t.args=[]:=by
 rw[jiM,hv,ju rfl]at h;exact List.isEmpty_iff.1 h
def jDp(f:Xb->Int):Xa->Int
 | []=>0
 |x::l=>f x+jDp f l
theorem jxA{o:Ord'}(hv:jiJ o=true){n:Xb}(h:o.syms.contains n=true):o.var<=jnN o n:=by
 obtain⟨k,hk,hlt⟩:=jmE h;obtain⟨h1,h2,h3,h4⟩:=jkG hv;have h5:=h4 k hlt;have hlt':k<o.ws.length:=by omega
 have e:jnN o n=o.ws.getD k 0:=by simp[jnN,hk]
 rw[e];exact h5.1
theorem jAZ{o:Ord'}(hv:jiJ o=true){t:T}(hc:jjv o.syms t=true):o.var<=wt o t:=by
 have hc':=hc;rw[jjm,jm]at hc';have hb:=(jkU hv hc'.2).1;rw[jsv];cases hn:jc2 t.name with
 |true=>simp only[zw];omega
 |false=>
  have hcn:=hc'.1;rw[hn,Bool.false_or]at hcn;have:=jxA hv hcn;simp only[jbH,if_false];omega
abbrev bc(p:Xb×T):Xd:=[sv p.1,sv p.2.name,.sl 2 (p.2.args.map jbY)]
abbrev sbs(u:List (Xb×T)):A:= .sl 3 (u.map bc)
abbrev sb(u:List (Xb×T)):A:= .agg [sbs u]
theorem jk9(p:Xb×T):jch 2 (.elt (bc p) 1)=some (tm p.2):=rfl
def Sz(z:Nat)(u:List (Xb×T)):Prop:=u.length<=z/\ ∀p∈u,p.1.length<=z/\tsz p.2<=z
theorem jpF(u:List (Xb×T))(hl:u.length<=1048576)(n:Xb):(look u n=none/\G 87 [sb u,sv n]=some (vi (-1),[]))\/ ∃k,∃h:k<u.length,look u n=some u[k].2/\G 87 [sb u,sv n]=some (vi (k:Nat),[]):=by
 have key:=upto (P:=λi=>(look (u.drop i) n=none/\jrb (sv n) (vi i) (sbs u)=some (vi (-1),[]))\/ ∃k,∃h:k<u.length,look (u.drop i) n=some u[k].2/\jrb (sv n) (vi i) (sbs u)=some (vi (k:Nat),[])) (n:=u.length) ?_ ?_ 0 (Nat.zero_le _)
 .rw [g87];exact key
 .left;rw[List.drop_length,jzL];exact⟨rfl,by simp only[evz]⟩
 .intro i hi ih;have hlt:(i:Int)<((u.length:Nat):Int):=by omega
  have h5:=jeZ hi (by show u.length<=9223372036854775807;omega)
  rw[jzL,jeX hi,look];by_cases he:u[i].1=n
  .right;rw[ju he];exact⟨i,hi,rfl,by simp only[evz,hlt,jaH hi,he]⟩
  .rw [jo he];rcases ih with⟨h1,h2⟩|⟨k,hk,h1,h2⟩
   .left;exact⟨h1,by simp only[evz,hlt,jaH hi,he,h5,h2]⟩
   .right;exact⟨k,hk,h1,by simp only[evz,hlt,jaH hi,he,h5,h2]⟩
theorem jk4(u:List (Xb×T))(hu:Sz 1048576 u)(t:T):tsz t<=1048576->G 55 [sb u,tm t]=some (tm (sub u t),[]):=by
 refine T.ind (p:=λt=>tsz t<=1048576->G 55 [sb u,tm t]=some (tm (sub u t),[])) ?_ t;intro t ih hs;have h:=hs;rw[jhG]at h;have e1:=jit t.name (by show t.name.length<=9223372036854775807;omega);rw[g55];cases hv:jc2 t.name<;>rw[hv]at e1
 .have key:=(upto (P:=λi=>jtB (vi i) (sbs u) (sv t.name) (tms t.args) (sv []) (sv t.name) [] (((t.args.map (sub u)).take i).map jbY)=some (tm (sub u t),[])) (n:=t.args.length) ?_ ?_ 0 (Nat.zero_le _))
  .simp only[Int.natCast_zero,List.take_zero,List.map_nil]at key;simp only[evz,e1,key]
  .rw [jzE,YZ (by rw[jbP];omega),jjA hv]
   simp only[evz];rfl
  .intro i hi ih';have hlt:(i:Int)<((t.args.length:Nat):Int):=by omega
   have h5:=jeZ hi (by show t.args.length<=9223372036854775807;omega)
   have e2:=ih t.args[i] (YX _) (by have:=jiK (YX hi);omega)
   have hf:jbk (i+1) 40=true:=js0 (by omega);have hi2:i<(t.args.map (sub u)).length:=by rw[jbP];exact hi
   have hl:(((t.args.map (sub u)).take i).map jbY).length=i:=by rw[jbP,List.length_take,jbP];omega
   have ha:jgD (((t.args.map (sub u)).take i).map jbY) [[sv (sub u t.args[i]).name,tms (sub u t.args[i]).args]]=((t.args.map (sub u)).take (i+1)).map jbY:=by
    rw[show[sv (sub u t.args[i]).name,tms (sub u t.args[i]).args]=jbY (sub u t.args[i]) from(jhF _).symm,List.take_add_one,jv hi2,jbM,List.getElem_map];rfl
   generalize ((t.args.map (sub u)).take i).map jbY=R at *;rw[jzE];simp only[evz,hlt,jaH hi,jbV,e2,hl,hf,ha,h5,ih']
 .rw [jkd hv,jkc];rcases jpF u hu.1 t.name with⟨h1,h2⟩|⟨k,hk,h1,h2⟩
  .rw [h1];simp only[evz,e1,h2];rfl
  .rw [h1];have hm:=hu.2 _ (YX hk);have e3:=jni u[k].2 hm.2;have hk0:(0:Int)<=((k:Nat):Int):=by omega
   simp only[evz,e1,h2,hk0,jaH hk,jk9,e3,jbN]
abbrev je6:=List (Xb×T)
mutual
noncomputable def mt(m:je6)(p:T)(t:T):Option je6:=
 match p with
 |.mk n us=>if jc2 n then(match look m n with|some r=>if dq r t then some m else none|none=>some (m++[(n,t)]))
   else if n=t.name/\us.length=t.args.length then mtL m us t.args else none
termination_by structural p
noncomputable def mtL(m:je6)(ps:Xg)(ts:Xg):Option je6:=
 match ps with
 | []=>some m
 |u::us=>(match ts with| []=>some m|t::ts=>(mt m u t).bind λm'=>mtL m' us ts)
termination_by structural ps
end
theorem jjJ{u:je6}{n:Xb} :look u n=none↔ ∀p∈u,p.1≠n:=by
 induction u with
 |nil=>simp[look]
 |cons p u ih=>
  rw[look];by_cases h:p.1=n
  .rw [ju h];simp[h]
  .rw [jo h,ih];simp[h]
theorem jkD:∀{u:je6}{n:Xb}{r:T},look u n=some r->(n,r)∈u
 |p::u,n,r,h=>by
  rw[look]at h;by_cases e:p.1=n
  .rw [ju e]at h;cases h;rw[<-e];simp
  .rw [jo e]at h;exact YY _ (jkD h)
def MOk(p:T->Prop)(m:je6):Prop:=(m.map Prod.fst).Nodup/\(∀q∈m,jc2 q.1=true/\p q.2)
theorem MOk.nil(p:T->Prop):MOk p []:=⟨by simp,λq h=>by cases h⟩
def jkI(s:je6)(n:Xb)(t:T):je6:=s.takeWhile (λp=>sLt p.1 n)++(n,t)::s.dropWhile (λp=>sLt p.1 n)
def jkv(s:je6)(n:Xb)(t:T):je6:=if t.name=n then s else jkI s n t
def jmq(m:je6):je6:=m.foldl (λs p=>jkv s p.1 p.2) []
theorem jlP(a:Xb):sLt a a=false:=by
 unfold sLt;cases h:Op.bytesLess a a with
 |false=>rfl
 |true=>
  exfalso;induction a with
  |nil=>simp[Op.bytesLess]at h
  |cons c r ih=>simp[Op.bytesLess]at h;exact ih h
theorem jwZ(n:Xb)(h:jc2 n=true):okT (.mk n [])=true:=by rw[jiM];show(if jc2 n then _ else _)=true;rw[ju h];rfl
theorem jkJ{u:je6}(hu:∀q∈u,okT q.2=true):∀t:T,okT t=true->okT (sub u t)=true:=by
 refine T.ind λt ih hk=>?_;cases hv:jc2 t.name with
 |true=>
  rw[jkd hv,jkc];cases h:look u t.name with
  |none=>exact jwZ _ hv
  |some r=>exact hu _ (jkD h)
 |false=>
  have hk':=hk;rw[jiM,hv,jo Bool.false_ne_true,jm,jm,jjT]at hk;rw[jiM,jo1 hv,hv,jo Bool.false_ne_true,jmV hv,jm,jm,jjT];refine⟨hk.1,by simpa using hk.2.1,?_⟩;rw[List.all_map,jaF];intro a ha;exact ih a ha (jaF.1 hk.2.2 a ha)
def jge(r:T):T:=r.args.getD 0 (.mk [] [])
def jhE(r:T):T:=r.args.getD 1 (.mk [] [])
noncomputable def jxt:Xg->T->Option T
 | [],_=>none
 |r::rs,t=>(match mt [] (jge r) t with|some m=>some (sub m (jhE r))|none=>jxt rs t)
mutual
noncomputable def jBW(rs:Xg)(root:Bool):T->Option T
 |.mk n us=>(match jzQ rs us with|some us'=>some (.mk n us')|none=>if root then jxt rs (.mk n us)else none)
noncomputable def jzQ(rs:Xg):Xg->Option Xg
 | []=>none
 |t::ts=>(match jBW rs true t with|some t'=>some (t'::ts)|none=>(jzQ rs ts).map (t::·))
end
def atT:Xf->T->T
 | [],t=>t
 |i::p,t=>atT p (t.args.getD i (.mk [] []))
def jhD(s:T):Xf->T->T
 | [],_=>s
 |i::p,t=>.mk t.name (t.args.set i (jhD s p (t.args.getD i (.mk [] []))))
mutual
def jrU:T->List Xf
 |.mk _ us=>joU 0 us++[[]]
def joU(i:Nat):Xg->List Xf
 | []=>[]
 |t::ts=>(jrU t).map (i::·)++joU (i+1) ts
end
noncomputable def jDo(rs:Xg)(root:Bool)(t:T)(p:Xf):Option T:=if p=[]/\root=false then none else(jxt rs (atT p t)).map λs=>jhD s p t
def jxV(rs:Xg):Prop:=∀r∈rs,okT (jge r)=true/\okT (jhE r)=true
noncomputable def rwN(rs:Xg)(root:Bool):Nat->Nat->T->Option (T×Nat)
 |0,_,_=>none
 |k+1,n,t=>(match jBW rs root t with
  |none=>some (t,n)
  |some u=>if k=0\/je7 u=false then none else rwN rs root k (n+1) u)
theorem jmD(ts:Xg)(hl:ts.length<=1048576)(ih:∀t∈ts,G 76 [tm t]=some (tm t,[])):jp3 (tms ts)=some (.top,[tms ts]):=by
 rw[jz7];by_cases h0:ts.length=0
 .have:ts=[]:=List.length_eq_zero_iff.1 h0;subst this;simp only[evz,Int.natCast_zero];rfl
 have hz:¬((ts.length:Nat):Int)=0:=by omega
 have hm:=jpO (b:=40) (n:=ts.length) (by omega) hl;have key:=(upto (P:=λi=>jmv (tms ts) (vi (ts.length:Nat)) (vi i) (part jbY [sv [],.sl 2 []] ts i)=some (.top,[tms ts])) (n:=ts.length) ?_ ?_ 0 (Nat.zero_le _))
 .simp only[Int.natCast_zero,<-jpP]at key;simp only[evz,hz,hm,key]
 .rw [jrB,jrP];simp only[evz]
 .intro i hi ih';have hlt:(i:Int)<((ts.length:Nat):Int):=by omega
  have h1:=jnx (f:=jbY) (z:=[sv [],.sl 2 []]) (Nat.le_of_lt hi);have h2:pIx (part jbY [sv [],.sl 2 []] ts i).length (vi i)=some i:=jiG (by omega);have h4:=jrR (f:=jbY) (z:=[sv [],.sl 2 []]) hi;rw[jhF]at h4;have h5:=jeZ hi (JU hl (by decide));have e1:G 76 [A.agg [sv ts[i].name,tms ts[i].args]]=_:=ih ts[i] (YX _);rw[jrB];simp only[evz,hlt,jaH hi,jbV,e1,h2,jrQ hi,jqs,h4,h5,ih']
theorem jls(t:T):tsz t<=1048576->G 76 [tm t]=some (tm t,[]):=by
 refine T.ind (p:=λt=>tsz t<=1048576->G 76 [tm t]=some (tm t,[])) ?_ t;intro t ih h;rw[jhG]at h;have e1:=jmD t.args (by omega) λu hu=>ih u hu (by have:=jiK hu;omega);rw[g76];simp only[evz,e1]
theorem jyU{n:Nat}(h:n<=4194304):jbk n 56=true:=by
 unfold jbk;exact decide_eq_true ⟨by omega,by omega⟩
def MR(o:Xe)(r:Option je6):Prop:=match r with
 |some m'=>o=some (.top,[vb true,.sl 259 (m'.map bc)])
 |none=>∃R,o=some (.top,[vb false,.sl 259 R])
theorem jxe{m:je6}{i:Nat}(hi:i<m.length):jf6 (m.map bc) i 0=some (sv m[i].1):=by unfold jf6;simp[hi]
def Tz(t:T):Prop:=tsz t<=1048576
theorem Tz.args{t:T}(h:Tz t):∀u∈t.args,Tz u:=λu hu=>by
 have:=jiK hu;unfold Tz at h⊢;rw[jhG]at h;omega
theorem Tz.wf{t:T}(h:Tz t):twf t:=jAV t h
abbrev kv(p:Xb×T):Xd:=[sv p.1,tm p.2]
theorem jAg(a b:Xb):eqK none (sv a) (sv b)=some (decide (a=b)):=by show some (decide (bs _=bs _))=_;refine congrArg some (decide_eq_decide.2 ?_);simp
def MI(o:Xe)(r:Option je6):Prop:=match r with
 |some m'=>o=some (.top,[vb true,.sl 128 (m'.map kv)])
 |none=>∃R,o=some (.top,[vb false,.sl 128 R])
theorem jnl(n:Xb)(t:T):∀(s:je6)(i:Nat),i<=s.length->(∀j,(h:j<i)-> ∀h':j<s.length,sLt s[j].1 n=true)->((∃h:i<s.length,sLt s[i].1 n=false)\/i=s.length)->jkI s n t=s.take i++(n,t)::s.drop i
 | [],i,hi,_,_=>by
  have:i=0:=by simpa using hi
  subst this;rfl
 |p::s,0,_,_,h=>by
  have hp:sLt p.1 n=false:=by
   rcases h with⟨_,h⟩|h
   .exact h
   .cases h
  unfold jkI;rw[List.takeWhile_cons_of_neg (p:=λp:Xb×T=>sLt p.1 n) (by simp[hp]),List.dropWhile_cons_of_neg (p:=λp:Xb×T=>sLt p.1 n) (by simp[hp])];rfl
 |p::s,i+1,hi,h1,h=>by
  have hp:sLt p.1 n=true:=h1 0 (by omega) (by simp);have:=jnl n t s i (by simpa using hi) (λj hj hj'=>h1 (j+1) (by omega) (by simpa using hj')) (by
   rcases h with⟨h,h2⟩|h
   .exact Or.inl ⟨by simpa using h,h2⟩
   .exact Or.inr (by simpa using h))
  unfold jkI at this⊢;rw[List.takeWhile_cons_of_pos (p:=λp:Xb×T=>sLt p.1 n) hp,List.dropWhile_cons_of_pos (p:=λp:Xb×T=>sLt p.1 n) hp,qN,this];rfl
theorem jkg{α:Type}(f:α->Xd)(l:List α):jdD (l.map f)=l.length:=jbP ..
theorem jr0(u:je6)(hl:u.length<=1000000)(i:Nat)(hi:i<=u.length) :
  pB u.length u.length (some (vi (i:Nat)))=some i/\jh7 (u.map bc) 0 i=(u.take i).map bc/\jbk (u.take i).length 56=true/\pB u.length u.length none=some u.length/\pB 0 u.length (some (vi (i:Nat)))=some i/\jh7 (u.map bc) i (u.length-i)=(u.drop i).map bc/\jhi (u.map bc) 0=u.length/\jbk ((u.take i).length+1) 56=true/\jbk ((u.take i).length+1+(u.drop i).length) 56=true:=by
 refine⟨jlA hi,by rw[jh7,List.drop_zero,List.map_take],jyU (by rw[List.length_take];omega),jiW (jR _),jlA hi,?_,by rw[jhi,jbP];rfl,jyU (by rw[List.length_take];omega),jyU (by rw[List.length_take,List.length_drop];omega)⟩
 rw[jh7,<-List.map_drop,YZ (by rw[jbP,List.length_drop];omega)]
theorem jrZ(u v:je6)(n:Xb)(t:T):jgD (jgD (u.map bc) [[sv n,sv t.name,tms t.args]]) (v.map bc)=(u++(n,t)::v).map bc:=by
 rw[jbM];show(u.map bc++[_])++v.map bc=u.map bc++_::v.map bc;rw[jio];rfl
theorem jr1(u:je6)(n:Xb)(t:T):(jgD (u.map bc) [[sv n,sv t.name,tms t.args]]).length=u.length+1:=by
 simp[jgD]
theorem jug(u:je6)(hl:u.length<=1000000)(n:Xb)(t:T)(ht:Tz t):jp4 (sv n) (tm t) (u.map bc)=some (.top,[sbs (jkv u n t)]):=by
 have e1:=jni t ht;have key:=upto (P:=λi=>(∀j,(h:j<i)-> ∀h':j<u.length,sLt u[j].1 n=true)->jlm (sv n) (vi i) (sv t.name) (tms t.args) (u.map bc) []=some (.top,[sbs (jkI u n t)])) (n:=u.length) ?_ ?_ 0 (Nat.zero_le _) (λj h=>absurd h (Nat.not_lt_zero _))
 .rw [jz9,jkv];by_cases h:t.name=n
  .rw [ju h];simp only[evz,h]
  .rw [jo h];have e:jlm (sv n) (vi 0) (sv t.name) (tms t.args) (u.map bc) []=some (.top,[sbs (jkI u n t)]):=key;simp only[evz,h,e]
 .intro hall;rw[jnl n t u u.length (jR _) hall (Or.inr rfl)];obtain⟨k1,k2,k3,k4,k5,k6,k7,k8,k9⟩:=jr0 u hl u.length (jR _);have m1:=jrZ (u.take u.length) (u.drop u.length) n t;have m2:=jr1 (u.take u.length) n t;rw[joD];simp only[evz,jkg,k1,k2,k3,k4,k5,k6,k7,jqH,Nat.sub_zero,e1];generalize hB:K3 _ _ _=B;have hB':B=some (.agg [sv n,sv t.name,tms t.args]):=by rw[<-hB];kernel_rfl
  rw[hB'];simp only[evz,k8,k9,m1,m2]
 .intro i hi ih hall;have hlt:(i:Int)<((u.length:Nat):Int):=by omega
  have h5:=jeZ hi (by show u.length<=9223372036854775807;omega)
  have x1:pIx u.length (vi ((i:Nat):Int))=some i:=jiG hi;have x2:=jxe hi;cases hs:sLt u[i].1 n
  .rw [jnl n t u i (by omega) hall (Or.inl ⟨hi,hs⟩)];obtain⟨k1,k2,k3,k4,k5,k6,k7,k8,k9⟩:=jr0 u hl i (by omega);have m1:=jrZ (u.take i) (u.drop i) n t;have m2:=jr1 (u.take i) n t;rw[joD];simp only[evz,hlt,x1,x2,hs,jkg,k1,k2,k3,k4,k5,k6,k7,jqH,Nat.sub_zero,e1];generalize hB:K3 _ _ _=B;have hB':B=some (.agg [sv n,sv t.name,tms t.args]):=by rw[<-hB];kernel_rfl
   rw[hB'];simp only[evz,k8,k9,m1,m2]
  .have ih:=ih λj hj hj'=>by
    by_cases h:j=i
    .subst h;exact hs
    .exact hall j (by omega) hj'
   rw[joD];simp only[evz,hlt,x1,x2,hs,h5,ih]
theorem jrX(s:je6)(n:Xb)(t:T):(jkv s n t).length<=s.length+1:=by
 unfold jkv;split
 .omega
 .unfold jkI;rw[Y0,KP];have:=List.takeWhile_append_dropWhile (p:=λp:Xb×T=>sLt p.1 n) (l:=s);have:=congrArg List.length this;rw[Y0]at this;omega
theorem jrY{s:je6}{n:Xb}{t:T}{q:Xb×T}(h:q∈jkv s n t):q∈s\/q=(n,t):=by
 unfold jkv at h;split at h
 .exact Or.inl h
 .unfold jkI at h;rw[j4,jK]at h;rcases h with h|h|h
  .exact Or.inl (List.takeWhile_subset _ h)
  .exact Or.inr h
  .exact Or.inl (List.dropWhile_subset _ h)
end Go.Proofs.YthapkjbfjniaiaaGreatDoor
