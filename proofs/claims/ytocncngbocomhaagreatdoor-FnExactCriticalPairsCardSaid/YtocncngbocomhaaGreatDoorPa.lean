/- Pa -/
import Derived.Test.YtocncngbocomhaaGreatDoorKt
import Derived.Test.YtocncngbocomhaaGreatDoorPq
import Derived.Test.YtocncngbocomhaaGreatDoorEd
import Derived.ChangeSame
namespace Go.Proofs.YtocncngbocomhaaGreatDoor
open Go Go.RowKit Go.Proofs.YtocncngbocomhaaGreatDoor.Abs
set_option linter.unusedSimpArgs false
set_option linter.unusedVariables false
abbrev ci(n:Int):Xd:=[vi n]
abbrev cs(s:Xb):Xd:=[sv s]
abbrev ints(l:Xi):A:= .sl 1 (l.map ci)
abbrev strs(l:Xa):A:= .sl 1 (l.map cs)
section
theorem jql{α:Type}(x y:α):brn true x y=x:=rfl
theorem jmz{α:Type}(x y:α):brn false x y=y:=rfl
theorem jv9{α:Type}(b:Bool)(x y:α):brn b x y=if b=true then x else y:=rfl
theorem jsN:(-1:Int)<0:=by decide
theorem jmk(b:Bool):qH (vb b)=some b:=rfl
theorem jqK(b:Bool)(x y:A):jfS (vb b) x y=some (if b=true then x else y):=rfl
theorem jxV(b w:Bool)(x:Xl):pG (vb b) w x=if b=w then x else some (.val undef):=rfl
theorem jvu(b w:Bool):qZ (vb b) w=some (decide (b=w)):=rfl
theorem jvp(w:Bool)(x:Xl):pG (.val undef) w x=some (.val undef):=rfl
theorem jqL(w:Bool):qZ (.val undef) w=some false:=rfl
theorem jvq(k:Nat)(xs:Xc):jfQ (.sl k xs)=some (vi xs.length):=rfl
theorem jsX(xs:Xc):jdt xs=vi xs.length:=rfl
theorem jvz(xs:Xc):JL xs=xs.length:=rfl
theorem jle(l:Xb):jfR (sv l)=some (vi l.length):=rfl
theorem juw(a:A):fin false (a,[])=some a:=rfl
theorem jyl(b c:Bool):fin c (vb b,[])=some (vb b):=by cases c<;>rfl
theorem jym(c:Bool)(n:Int):fin c (vi n,[])=some (vi n):=by cases c<;>rfl
theorem jwU(b:Bool):pUn .not (vb b)=some (vb (!b)):=rfl
theorem jn7(b:Bool)(x y:Int):jgm .lss b (vi x) (vi y)=some (vb (decide (x<y))):=rfl
theorem jvj(b:Bool)(x y:Int):jgm .leq b (vi x) (vi y)=some (vb (decide (x<=y))):=rfl
theorem jvi(b:Bool)(x y:Int):jgm .gtr b (vi x) (vi y)=some (vb (decide (y<x))):=rfl
theorem jvh(b:Bool)(x y:Int):jgm .geq b (vi x) (vi y)=some (vb (decide (y<=x))):=rfl
theorem jvg(b:Bool)(x y:Int):jgm .eql b (vi x) (vi y)=some (vb (decide (x=y))):=rfl
theorem jvl(b:Bool)(x y:Int):jgm .neq b (vi x) (vi y)=some (vb (!decide (x=y))):=rfl
theorem jtx(b:Bool)(x y:Int):jgm .lss b (vy x) (vy y)=some (vb (decide (x<y))):=rfl
theorem jtw(b:Bool)(x y:Int):jgm .leq b (vy x) (vy y)=some (vb (decide (x<=y))):=rfl
theorem jtv(b:Bool)(x y:Int):jgm .gtr b (vy x) (vy y)=some (vb (decide (y<x))):=rfl
theorem jtu(b:Bool)(x y:Int):jgm .geq b (vy x) (vy y)=some (vb (decide (y<=x))):=rfl
theorem jtt(b:Bool)(x y:Int):jgm .eql b (vy x) (vy y)=some (vb (decide (x=y))):=rfl
theorem jty(b:Bool)(x y:Int):jgm .neq b (vy x) (vy y)=some (vb (!decide (x=y))):=rfl
theorem jtz(x y:Bool):jgm .eql true (vb x) (vb y)=some (vb (decide (x=y))):=rfl
theorem jtA(x y:Bool):jgm .neq true (vb x) (vb y)=some (vb (!decide (x=y))):=rfl
theorem jjR(b:Bool)(x y:Int):jgm .add b (vi x) (vi y)=ck (x+y):=by cases b<;>rfl
theorem jvm(b:Bool)(x y:Int):jgm .sub b (vi x) (vi y)=ck (x-y):=by cases b<;>rfl
theorem jvk(b:Bool)(x y:Int):jgm .mul b (vi x) (vi y)=ck (x*y):=by cases b<;>rfl
theorem jht{n:Int}(h1: -9223372036854775808<=n)(h2:n<=9223372036854775807):ck n=some (vi n):=jc6 ⟨h1,h2⟩
theorem jls(b:Bool)(x y:Xb):jgm .add b (sv x) (sv y)=if x.length+y.length<=9223372036854775807 then some (sv (x++y))else none:=by cases b<;>rfl
theorem jmH(b:Bool)(x y:Xb):jgm .eql b (sv x) (sv y)=some (vb (decide (x=y))):=rfl
theorem jtE(b:Bool)(x y:Xb):jgm .neq b (sv x) (sv y)=some (vb (!decide (x=y))):=rfl
theorem jtD(b:Bool)(x y:Xb):jgm .lss b (sv x) (sv y)=some (vb (sLt x y)):=rfl
theorem jvr(a:A)(l:Xd):jb7 (.elt (a::l) 0)=some a:=rfl
theorem jn6(cs:Xd)(off n:Nat):jgl (.elt cs off) n=some (.elt cs (off+n)):=rfl
theorem jrN(off:Nat)(cs:Xd):jb5 off (.agg cs)=cs[off]? :=rfl
theorem jrL(n:Nat)(ds:Xd):jeo n (.agg ds)=if ds.length=n/\ds.all ZO=true then some ds else none:=rfl
theorem js8(a:A)(l:Xd):kG (a::l) 0=a:=rfl
theorem jug(a b:A)(l:Xd):kG (a::b::l) 1=b:=rfl
theorem juh(a b c:A)(l:Xd):kG (a::b::c::l) 2=c:=rfl
theorem jrs(a b c d:A)(l:Xd):kG (a::b::c::d::l) 3=d:=rfl
theorem jyw(k:Nat)(xs:Xc):ZO (.sl k xs)=true:=rfl
theorem jwN(cs:Xd)(o:Nat):ZO (.elt cs o)=true:=rfl
theorem jyv(f:FuncId)(l:Xd):ZO (.fn f l)=true:=rfl
theorem jyz(n:Int):ZO (vi n)=true:=rfl
theorem jyy(b:Bool):ZO (vb b)=true:=rfl
theorem jyx(l:Xb):ZO (sv l)=true:=rfl
theorem jyC(n:Nat)(i:Int):pIx n (vi i)=if 0<=i/\i<(n:Int)then some i.toNat else none:=rfl
theorem jit{n i:Nat}(h:i<n):pIx n (vi i)=some i:=by
 rw[jyC,jc6 ⟨by omega,by omega⟩];simp
theorem jvt(k:Nat)(xs:Xc):qI k (.sl k xs)=some xs:=jc6 rfl
theorem jyE(a:A)(l:Xd):jg6 (.tup (a::l)) 0=some a:=rfl
theorem jyF(a b:A)(l:Xd):jg6 (.tup (a::b::l)) 1=some b:=rfl
theorem jyG(a b c:A)(l:Xd):jg6 (.tup (a::b::c::l)) 2=some c:=rfl
theorem jwS(x y:Int):jgo (vi x) (vi y)=some (vi (if x<y then y else x)):=by
 unfold jgo;simp
theorem jwT(x y:Int):jgp (vi x) (vi y)=some (vi (if y<x then y else x)):=by
 unfold jgp;simp
theorem jzv(a:A)(l:Xd)(i:Nat):hD (a,l) i=l[i]? :=rfl
theorem jAS(k:Nat)(a:A)(xs:Xc)(l:Xd):hR k (a,.sl k xs::l) 0=some xs:=by simp[hR]
theorem jAT(k:Nat)(a b:A)(xs:Xc)(l:Xd):hR k (a,b:: .sl k xs::l) 1=some xs:=by simp[hR]
theorem jAU(k:Nat)(a b c:A)(xs:Xc)(l:Xd):hR k (a,b::c:: .sl k xs::l) 2=some xs:=by simp[hR]
theorem jjr{f:FuncId}{caps args:Xd}{c:Bool}(h:K.pureF f=true):DX.run K (MM K) (.callc (.fn f caps) args c)=(G f (args++caps)).bind (fin c):=by
 simp only[DX.run,h,yb]
theorem jay{α:Type}{k:Nat}{f:α->Xd}{xs:List α}{i:Nat}(h:i<xs.length):zP k (.sl k (xs.map f)) (vi i)=some (.elt (f xs[i]) 0):=by
 simp only[zP,yb,jbD,jit h,zy];simp[jX,h]
theorem jeN{i n:Nat}(h:i<n)(hn:n<=9223372036854775807):jgm .add false (vi i) (vi 1)=some (vi ((i+1:Nat):Int)):=by
 rw[jjR,jht (by omega) (by omega)];rfl
theorem jui{b:Int}{n:Nat}(h0:0<=b)(h1:b<=9223372036854775807)(hn:n<=9223372036854775807):ck (b-n)=some (vi (b-n)):=jht (by omega) (by omega)
theorem jzR(d top:Nat)(z:Int):pB d top (some (vi z))=if 0<=z/\z<=(top:Int)then some z.toNat else none:=rfl
theorem jld{d top n:Nat}(h:n<=top):pB d top (some (vi n))=some n:=by
 rw[jzR,jc6 ⟨by omega,by omega⟩];simp
theorem jiC{d top:Nat}(h:d<=top):pB d top none=some d:=jc6 h
theorem jsW(xs:Xc):jds xs=xs.length:=rfl
theorem jjJ(xs:Xc)(off:Nat):jg7 xs off=xs.length-off:=rfl
theorem jsY(ys:Xc)(n:Nat):jhV ys n=vi (min ys.length n:Nat):=rfl
theorem jqZ(ys:Xc)(n:Nat):jg8 ys n=ys.take n:=rfl
theorem jsZ(xs:Xc)(off n:Nat):jhW xs off n=(xs.drop off).take n:=rfl
theorem jqY(xs:Xc)(off:Nat)(ys:Xc):qJ xs off ys=xs.take off++ys++xs.drop (off+ys.length):=rfl
theorem jpJ(a b:Nat):jhR a b=a-b:=rfl
theorem upto{P:Nat->Prop}{n:Nat}(h0:P n)(hs:∀i,i<n->P (i+1)->P i):∀i,i<=n->P i:=by
 intro i hi;obtain⟨k,hk⟩:∃k,n=i+k:=⟨n-i,by omega⟩;induction k generalizing i with
 |zero=>rw[show i=n by omega];exact h0
 |succ k ih=>exact hs i (by omega) (ih (i+1) (by omega) (by omega))
theorem jcS{α:Type}{xs:List α}{i:Nat}(h:i<xs.length):xs.drop i=xs[i]::xs.drop (i+1):=List.drop_eq_getElem_cons h
theorem evs :
  ((-1:Int)<0)/\
  (∀{α:Type}(x y:α),brn true x y=x)/\
  (∀{α:Type}(x y:α),brn false x y=y)/\
  (∀{α:Type}(b:Bool)(x y:α),brn b x y=if b=true then x else y)/\
  (∀{α β:Type}(a:α)(f:α->Option β),(some a).bind f=f a)/\
  (∀{α β:Type}(f:α->Option β),none.bind f=none)/\
  (∀(b:Bool),qH (vb b)=some b)/\
  (∀(b:Bool)(x y:A),jfS (vb b) x y=some (if b=true then x else y))/\
  (∀(b w:Bool)(x:Xl),pG (vb b) w x=if b=w then x else some (A.val undef))/\
  (∀(b w:Bool),qZ (vb b) w=some (decide (b=w)))/\
  (∀(w:Bool)(x:Xl),pG (A.val undef) w x=some (A.val undef))/\
  (∀(w:Bool),qZ (A.val undef) w=some false)/\
  (∀(k:Nat)(xs:Xc),jfQ (A.sl k xs)=some (vi ↑xs.length))/\
  (∀(xs:Xc),jdt xs=vi ↑xs.length)/\
  (∀(xs:Xc),JL xs=xs.length)/\
  (∀(l:Xb),jfR (sv l)=some (vi ↑l.length))/\
  (∀(a:A),fin false (a,[])=some a)/\
  (∀(b c:Bool),fin c (vb b,[])=some (vb b))/\
  (∀(c:Bool)(n:Int),fin c (vi n,[])=some (vi n))/\
  (∀(b:Bool),pUn UnOp.not (vb b)=some (vb !b))/\
  (∀(b:Bool)(x y:Int),jgm BinOp.lss b (vi x) (vi y)=some (vb (decide (x<y))))/\
  (∀(b:Bool)(x y:Int),jgm BinOp.leq b (vi x) (vi y)=some (vb (decide (x<=y))))/\
  (∀(b:Bool)(x y:Int),jgm BinOp.gtr b (vi x) (vi y)=some (vb (decide (y<x))))/\
  (∀(b:Bool)(x y:Int),jgm BinOp.geq b (vi x) (vi y)=some (vb (decide (y<=x))))/\
  (∀(b:Bool)(x y:Int),jgm BinOp.eql b (vi x) (vi y)=some (vb (decide (x=y))))/\
  (∀(b:Bool)(x y:Int),jgm BinOp.neq b (vi x) (vi y)=some (vb !decide (x=y)))/\
  (∀(b:Bool)(x y:Int),jgm BinOp.lss b (vy x) (vy y)=some (vb (decide (x<y))))/\
  (∀(b:Bool)(x y:Int),jgm BinOp.leq b (vy x) (vy y)=some (vb (decide (x<=y))))/\
  (∀(b:Bool)(x y:Int),jgm BinOp.gtr b (vy x) (vy y)=some (vb (decide (y<x))))/\
  (∀(b:Bool)(x y:Int),jgm BinOp.geq b (vy x) (vy y)=some (vb (decide (y<=x))))/\
  (∀(b:Bool)(x y:Int),jgm BinOp.eql b (vy x) (vy y)=some (vb (decide (x=y))))/\
  (∀(b:Bool)(x y:Int),jgm BinOp.neq b (vy x) (vy y)=some (vb !decide (x=y)))/\
  (∀(x y:Bool),jgm BinOp.eql true (vb x) (vb y)=some (vb (decide (x=y))))/\
  (∀(x y:Bool),jgm BinOp.neq true (vb x) (vb y)=some (vb !decide (x=y)))/\
  (∀(b:Bool)(x y:Int),jgm BinOp.add b (vi x) (vi y)=ck (x+y))/\
  (∀(b:Bool)(x y:Int),jgm BinOp.sub b (vi x) (vi y)=ck (x-y))/\
  (∀(b:Bool)(x y:Int),jgm BinOp.mul b (vi x) (vi y)=ck (x*y))/\
  (∀(b:Bool)(x y:Xb),jgm BinOp.eql b (sv x) (sv y)=some (vb (decide (x=y))))/\
  (∀(b:Bool)(x y:Xb),jgm BinOp.neq b (sv x) (sv y)=some (vb !decide (x=y)))/\
  (∀(b:Bool)(x y:Xb),jgm BinOp.lss b (sv x) (sv y)=some (vb (sLt x y)))/\
  (∀(a:A)(l:Xd),jb7 (A.elt (a::l) 0)=some a)/\
  (∀(cs:Xd)(off n:Nat),jgl (A.elt cs off) n=some (A.elt cs (off+n)))/\
  (∀(off:Nat)(cs:Xd),jb5 off (A.agg cs)=cs[off]?)/\
  (∀(n:Nat)(ds:Xd),jeo n (A.agg ds)=if ds.length=n/\ds.all ZO=true then some ds else none)/\
  (∀(a:A)(l:Xd),kG (a::l) 0=a)/\
  (∀(a b:A)(l:Xd),kG (a::b::l) 1=b)/\
  (∀(a b c:A)(l:Xd),kG (a::b::c::l) 2=c)/\
  (∀(a b c d:A)(l:Xd),kG (a::b::c::d::l) 3=d)/\
  (∀(k:Nat)(xs:Xc),ZO (A.sl k xs)=true)/\
  (∀(cs:Xd)(o:Nat),ZO (A.elt cs o)=true)/\
  (∀(f:FuncId)(l:Xd),ZO (A.fn f l)=true)/\
  (∀(n:Int),ZO (vi n)=true)/\
  (∀(b:Bool),ZO (vb b)=true)/\
  (∀(l:Xb),ZO (sv l)=true)/\
  (∀(k:Nat)(xs:Xc),qI k (A.sl k xs)=some xs)/\
  (∀(a:A)(l:Xd),jg6 (A.tup (a::l)) 0=some a)/\
  (∀(a b:A)(l:Xd),jg6 (A.tup (a::b::l)) 1=some b)/\
  (∀(a b c:A)(l:Xd),jg6 (A.tup (a::b::c::l)) 2=some c)/\
  (∀(x y:Int),jgo (vi x) (vi y)=some (vi (if x<y then y else x)))/\
  (∀(x y:Int),jgp (vi x) (vi y)=some (vi (if y<x then y else x)))/\
  (∀(a:A)(l:Xd)(i:Nat),hD (a,l) i=l[i]?)/\
  (∀(k:Nat)(a:A)(xs:Xc)(l:Xd),hR k (a,A.sl k xs::l) 0=some xs)/\
  (∀(k:Nat)(a b:A)(xs:Xc)(l:Xd),hR k (a,b::A.sl k xs::l) 1=some xs)/\
  (∀(k:Nat)(a b c:A)(xs:Xc)(l:Xd),hR k (a,b::c::A.sl k xs::l) 2=some xs)/\
  (∀{α:Type}{a:α}{l:List α}{f:α->Bool},(a::l).all f=(f a && l.all f))/\
  (∀{α:Type}{f:α->Bool},([]:List α).all f=true)/\
  (∀{α:Type}{a:α}{l:List α},(a::l).length=l.length+1)/\
  (∀{α:Type},([]:List α).length=0)/\
  (∀{α β:Type}{l:List α}(f:α->β),(List.map f l).length=l.length)/\
  (∀(n:Nat),0+n=n)/\
  (∀(b:Bool),(b && b)=b)/\
  (∀(b:Bool),(b && true)=b)/\
  (∀(p:Prop),(p/\p)=p)/\
  (∀{α:Type}{_x:Decidable True}(t e:α),(if True then t else e)=t)/\
  (∀{α:Type}{_x:Decidable False}(t e:α),(if False then t else e)=e)/\
  ((true=false)=False)/\
  ((false=true)=False)/\
  (∀(_h:Decidable True),decide True=true)/\
  (∀(_h:Decidable False),decide False=false)/\
  ((!true)=false)/\
  ((!false)=true)/\
  (∀(b:Bool),((!b)=true)=(b=false))/\
  (∀{p:Prop} [Decidable p],(decide p=true)=p)/\
  (∀{p:Prop}{x:Decidable p},decide p=false↔ ¬p)/\
  (∀(a:Int),¬a<a)/\
  ((¬True)=False)/\
  ((¬False)=True)/\
  (∀{α:Type}(a b:α),(if True then a else b)=a)/\
  (∀{α:Type}(a b:α),(if False then a else b)=b):=
 ⟨@jsN,@jql,@jmz,@jv9,@Option.bind_some.{0,0},@Option.bind_none.{0,0},@jmk,@jqK,@jxV,@jvu,@jvp,@jqL,@jvq,@jsX,@jvz,@jle,@juw,@jyl,@jym,@jwU,@jn7,@jvj,@jvi,@jvh,@jvg,@jvl,@jtx,@jtw,@jtv,@jtu,@jtt,@jty,@jtz,@jtA,@jjR,@jvm,@jvk,@jmH,@jtE,@jtD,@jvr,@jn6,@jrN,@jrL,@js8,@jug,@juh,@jrs,@jyw,@jwN,@jyv,@jyz,@jyy,@jyx,@jvt,@jyE,@jyF,@jyG,@jwS,@jwT,@jzv,@jAS,@jAT,@jAU,@jby.{0},@List.all_nil.{0},@zz.{0},@jhr.{0},@jbD.{0,0},@jbz,@Bool.and_self,@Bool.and_true,@and_self,@yb.{1},@if_false.{1},@Bool.true_eq_false,@KL,@decide_true,@decide_false,@Bool.not_true,@Bool.not_false,@yR,@YZ,@decide_eq_false_iff_not,@Int.lt_irrefl,@not_true_eq_false,@not_false_eq_true,@ite_true.{1},@ite_false.{1}⟩
end
theorem jzp:(∀{α:Type}{h:Decidable True}(a b:α),@ite α True h a b=a)/\(∀{α:Type}{h:Decidable False}(a b:α),@ite α False h a b=b)/\(1+1=2/\1+2=3/\1+3=4/\1+4=5/\2+1=3/\2+2=4/\2+3=5/\2+4=6/\3+1=4/\3+2=5/\3+3=6/\3+4=7/\4+1=5/\4+2=6/\4+3=7/\4+4=8/\5+1=6/\5+2=7/\5+3=8/\5+4=9/\6+1=7/\6+2=8/\6+3=9/\6+4=10/\7+1=8/\7+2=9/\7+3=10/\7+4=11/\8+1=9/\8+2=10/\8+3=11/\8+4=12/\9+1=10/\9+2=11/\9+3=12/\9+4=13/\10+1=11/\10+2=12/\10+3=13/\10+4=14/\11+1=12/\11+2=13/\11+3=14/\11+4=15/\12+1=13/\12+2=14/\12+3=15/\12+4=16):=by refine⟨?_,?_,by decide⟩<;>intros<;>simp
theorem evz:type_of% (And.intro evs (And.intro cev jzp)):=And.intro evs (And.intro cev jzp)
open Go Go.RowKit Go.ChangeShapes Go.Deep Go.Proofs.YtocncngbocomhaaGreatDoor.Abs
section
variable{P:Program}{t:Nat}{H:Type}{enc:TypeId×Value->H}{w:World}{base:Nat}{spare:Nat->Bool}{held:Bool}{fuel:Nat}{cs:Xh}{x:DataW H×List MemPlace}
end
inductive T where
 |mk (name:Xb) (args:List T)
abbrev Xg:=List T
def T.name:T->Xb|.mk n _=>n
def T.args:T->Xg|.mk _ us=>us
theorem T.eta(t:T):T.mk t.name t.args=t:=by cases t;rfl
mutual
def jbL:T->Xd
 |.mk n us=>[sv n,.sl 2 (jns us)]
def jns:Xg->Xc
 | []=>[]
 |t::ts=>jbL t::jns ts
end
theorem jlj:∀ts:Xg,jns ts=ts.map jbL
 | []=>rfl
 |t::ts=>by simp[jns,jlj ts]
theorem jf3(t:T):jbL t=[sv t.name,.sl 2 (t.args.map jbL)]:=by
 cases t;simp[jbL,T.name,T.args,jlj]
theorem joC(t:T):(jbL t).length=2:=by rw[jf3];rfl
abbrev tm(t:T):A:= .agg [sv t.name,.sl 2 (t.args.map jbL)]
abbrev tms(ts:Xg):A:= .sl 2 (ts.map jbL)
theorem jbK(t:T):jb6 2 (.elt (jbL t) 0)=some (.agg [sv t.name,.sl 2 (t.args.map jbL)]):=by rw[jf3];rfl
mutual
def tsz:T->Nat
 |.mk n us=>n.length+us.length+jji us
def jji:Xg->Nat
 | []=>0
 |t::ts=>tsz t+jji ts
end
theorem jhq(t:T):tsz t=t.name.length+t.args.length+jji t.args:=by cases t;simp[tsz,T.name,T.args]
theorem jim:∀{ts:Xg}{t:T},t∈ts->tsz t<=jji ts
 | [],_,h=>by cases h
 |u::us,t,h=>by
  simp only[jji];rcases zC.1 h with rfl|h
  .omega
  .have:=jim h;omega
mutual
def twf:T->Prop
 |.mk n us=>n.length<=9223372036854775807/\us.length<=9223372036854775807/\jtS us
def jtS:Xg->Prop
 | []=>True
 |t::ts=>twf t/\jtS ts
end
theorem jgC(t:T):twf t↔t.name.length<=9223372036854775807/\t.args.length<=9223372036854775807/\jtS t.args:=by cases t;simp[twf,T.name,T.args]
theorem jfY:∀ts:Xg,jtS ts↔ ∀t∈ts,twf t
 | []=>by simp[jtS]
 |t::ts=>by simp[jtS,jfY ts]
theorem T.ind{p:T->Prop}(h:∀t,(∀u∈t.args,p u)->p t):∀t,p t:=by
 intro t;induction hn:SizeOf.sizeOf t using Nat.strongRecOn generalizing t with
 |ind n ih=>
  subst hn;refine h t λu hu=>ih (SizeOf.sizeOf u) ?_ u rfl;cases t with
  |mk nm us=>
   have:=List.sizeOf_lt_of_mem hu;simp only[T.args]at this;simp only[T.mk.sizeOf_spec];omega
section
variable{P:Program}{tT tS:Nat}
theorem jtI{H:Type}{enc:TypeId×Value->H}{w:World}{base:Nat}{spare:Nat->Bool}{held:Bool}{f0 f1:Field}(ht:P.underlying tT=some (.struct #[f0,f1]))(h0:P.underlying f0.type=some .string)(h1:P.underlying f1.type=some (.slice tT))
  (o0:f0.offset=0) (o1:f1.offset=1) (c0:P.cellsOf f0.type=1) (c1:P.cellsOf f1.type=1) (c2:P.cellsOf tT=2) :
  ∀(fuel:Nat)(cs:Xh)(x:DataW H×List MemPlace),DataW.trod enc P w base spare held fuel tT cs=some x-> ∃t,twf t/\jg w (λ_=>False) (jbL t) cs/\jf cs:=by
 intro fuel;induction fuel using Nat.strongRecOn with
 |ind fuel ih=>
  intro cs x h;obtain⟨xs,n,hfn,rfl,hl,hlen,hf⟩:=DataW.trod_struct ht h;have e0:=hf 0 f0 rfl;have e1:=hf 1 f1 rfl;rw[o0,c0]at e0;rw[o1,c1]at e1;rw[c2]at hl
  match cs,hl with
  | [u,v],_=>
   match xs,hlen with
   | [y0,y1],_=>
    simp only[List.drop_zero,jda,List.take_zero,List.getElem?_cons_zero]at e0;simp only[List.drop_succ_cons,List.drop_zero,jda,List.take_zero,List.getElem?_cons_succ,List.getElem?_cons_zero]at e1;obtain⟨s,hs,_,hsz⟩:=DataW.trod_string h0 e0;obtain⟨ts,⟨hts,htl⟩,hr,ho⟩:=jeC (P:=P) (t:=f1.type) (e:=tT) (f:=jbL) (p:=twf) joC (by decide) h1 c2 (λm cs' x' hm hx'=>ih m (by omega) cs' x' hx') e1;have hbs:∀s:ByteArray,(⟨⟨bs s⟩⟩:ByteArray)=s:=λs=>rfl;refine⟨.mk (bs s) ts,by simp only[twf];exact⟨by show(bs s).length<=_;rw[<-KH];simpa[maxLen]using hsz,htl,(jfY ts).2 hts⟩,?_,?_⟩
    .simp only[jbL,jlj];simp only[kq,and_true]at hs;subst hs;simp only[jg,kq]at hr;obtain⟨v',r',⟨rfl,rfl⟩,h3,_⟩:=hr;simp only[jg];exact⟨_,_,rfl,by simp[rel,hbs],_,_,rfl,h3,rfl⟩
    .simp only[kq,and_true]at hs;subst hs;intro z hz;rcases zC.1 hz with rfl|hz
     .simp [Value.oneCell']
     .exact ho z hz
end
theorem js0:Rdr Tryz.prog 24 jbL twf:=λ_ _ _ _ _ _ fuel cs x h=>
 jtI Tryz.underlying24 Tryz.underlying9 Tryz.underlying22 rfl rfl (by kernel_rfl) (by kernel_rfl) (by kernel_rfl) fuel cs x h
structure Ord' where
 syms:Xa
 ws:Xi
 var:Int
abbrev jpK(o:Ord'):Xd:=[strs o.syms,ints o.ws,vi o.var]
abbrev od(o:Ord'):A:= .agg [strs o.syms,ints o.ws,vi o.var]
def owf(o:Ord'):Prop:=((∀s∈o.syms,s.length<=9223372036854775807)/\o.syms.length<=9223372036854775807)/\((∀x∈o.ws,I64 x)/\o.ws.length<=9223372036854775807)/\I64 o.var
set_option maxHeartbeats 1000000
def jiw(left n:Int):Int:=if 0<=left-n then left-n else -1
theorem jlq{left n:Int}(h:left<n):jiw left n = -1:=ko (by omega)
theorem joX{left n:Int}(h:n<=left):jiw left n=left-n:=jc6 (by omega)
theorem jrF{b:Int}(h:0<=b):jiw b ((0:Nat):Int)=b:=by unfold jiw;simp[h]
theorem jmD(b m n:Int):jiw (b-m) n=jiw b (m+n):=by unfold jiw;rw[Int.sub_sub]
theorem ju3(b n:Int): -1<=jiw b n:=by unfold jiw;split<;>omega
theorem jtk{b m n:Int}(h:m<=b):jiw (jiw b m) n=jiw b (m+n):=by rw[joX h,jmD]
def part{α:Type}(f:α->Xd)(z:Xd)(xs:List α)(i:Nat):Xc:=(xs.take i).map f++List.replicate (xs.length-i) z
section
variable{α:Type}{f:α->Xd}{z:Xd}{xs:List α}
theorem jmJ:jb9 xs.length z=part f z xs 0:=by simp[part,jb9]
theorem jn8:part f z xs xs.length=xs.map f:=by simp[part]
theorem jlf{i:Nat}(h:i<=xs.length):(part f z xs i).length=xs.length:=by simp[part];omega
theorem jn9{i:Nat}(h:i<xs.length):jbd (part f z xs i) i=some z:=by
 unfold jbd part;rw[QQ (by simp;omega)];simp;rw[List.getElem?_replicate,jc6 (by omega)]
theorem joa{i:Nat}(h:i<xs.length):jal (part f z xs i) i (f xs[i])=part f z xs (i+1):=by
 unfold jal part;have e:xs.length-i=(xs.length-(i+1))+1:=by omega
 rw[List.set_append_right _ _ (by simp;omega),e,jeK]
 simp only[jbD,List.length_take,Nat.min_eq_left (Nat.le_of_lt h),Nat.sub_self,JO];rw[<-List.take_append_getElem h,jB];simp
end
theorem jnh(a b c d:A):Z4 [a,b] 0 [c,d]=[c,d]:=rfl
theorem jmI{b n:Nat}(hb:(b:Int)*(n:Int)<=281474976710656)(hn:n<=1048576):Qp b (vi n) (vi n)=some n:=by
 show(if _ then _ else _)=_;rw[jc6 (show jgF b n n from⟨by omega,Int.le_refl _,hb,by omega⟩),Int.toNat_natCast]
theorem jju{k:Nat}{xs:Xc}{i:Nat}(h:i<=xs.length):K4 k (.sl k xs) none (some (vi i))=some (.sl k (xs.take i)):=by
 simp only[K4,yA,Option.bind_some];rw[jc6 ⟨trivial,Int.le_refl _,by omega,by omega⟩];simp
theorem jja{k:Nat}{xs:Xc}{i:Nat}(h:i<=xs.length):K4 k (.sl k xs) (some (vi i)) none=some (.sl k (xs.drop i)):=by
 simp only[K4,yA,Option.bind_some];rw[jc6 ⟨trivial,by omega,by omega,by omega⟩];simp
def jAW(k:Int):Nat->Xi
 |0=>[]
 |n+1=>k::jAW (k+1) n
section
variable{α:Type}{f:α->Xd}(M r:List α)(x:α)
theorem jmh{k:Nat} :zP k (.sl k ((M++x::r).map f)) (vi (M.length:Nat))=some (.elt (f x) 0):=by
 rw[jay (by simp)];simp
theorem jmE:((M.length:Nat):Int)<(((M++x::r).length:Nat):Int):=by simp only[qg,zz];omega
end
section
variable(M R:Xc)(x y:Xd)
theorem jnp:jbd (M++x::R) M.length=some x:=by
 unfold jbd;rw[QQ (jl _)];simp
theorem jnq:jal (M++x::R) M.length y=M++y::R:=by
 unfold jal;rw[List.set_append_right _ _ (by simp)];simp
theorem jpR:pIx (M++x::R).length (vi (M.length:Nat))=some M.length:=jit (by simp)
end
def jvJ:Xa->Nat
 | []=>0
 |s::l=>s.length+jvJ l
def osz(o:Ord'):Nat:=o.syms.length+jvJ o.syms+o.ws.length
theorem jvM(ts:Xg)(hl:ts.length<=9223372036854775807)(ih:∀t∈ts,∀left:Int,0<=left->left<=1048576->G 4 [tm t,vi left]=some (vi (jiw left ((tsz t:Nat):Int)),[]))
  (left:Int) (h0:0<=left) (h1:left<=1048576):G 13 [tms ts,vi left]=some (vi (jiw left ((ts.length+jji ts:Nat):Int)),[]):=by
 have loop:∀(a:Int),0<=a->a<=1048576->jp1 (tms ts) (vi a) (vi 0)=some (vi (jiw a (jji ts)),[]):=by
  have key:=(upto (P:=λi=>∀a:Int,0<=a->a<=1048576->jp1 (tms ts) (vi a) (vi i)=some (vi (jiw a (jji (ts.drop i))),[])) (n:=ts.length) ?_ ?_ 0 (Nat.zero_le _))
  .simp only[List.drop_zero,Int.natCast_zero]at key;exact key
  .intro b hb hb';rw[jxh,List.drop_length];simp only[evz,jji];rw[jrF hb]
  .intro i hi ih' b hb hb';have e1:=ih ts[i] (jdM _) b hb hb';rw[jxh,jcS hi];simp only[evz,hi,Int.ofNat_lt,jay hi,jbK,e1,jeN hi hl,jji];by_cases hc:b<(tsz ts[i]:Nat)
   .rw [jlq hc,jlq (by omega)];rfl
   .have hp:=joX (Int.not_lt.1 hc);have ih':=ih' (jiw b (tsz ts[i]:Nat)) (by omega) (by omega);have hn:¬jiw b ((tsz ts[i]:Nat):Int)<0:=by omega
    simp only[evz,hn,ih'];rw[jtk (Int.not_lt.1 hc),<-Int.natCast_add]
 have hk:=jui h0 (Int.le_trans h1 (by decide)) hl;rw[g13];simp only[evz,hk];by_cases hc:left-ts.length<0
 .simp only[evz,hc];rw[jlq (by omega)]
 .have hl:=loop (left-ts.length) (by omega) (by omega);simp only[evz,hc,hl];rw[jmD,<-Int.natCast_add]
theorem js5(t:T):twf t-> ∀left:Int,0<=left->left<=1048576->G 4 [tm t,vi left]=some (vi (jiw left ((tsz t:Nat):Int)),[]):=by
 refine T.ind (p:=λt=>twf t-> ∀left:Int,0<=left->left<=1048576->G 4 [tm t,vi left]=some (vi (jiw left ((tsz t:Nat):Int)),[])) ?_ t;intro t ih hw left h0 h1;obtain⟨w1,w2,w3⟩:=(jgC t).1 hw;have w3:=(jfY _).1 w3;have hk:=jui h0 (Int.le_trans h1 (by decide)) w1;rw[g4,jhq];simp only[evz,hk];by_cases hc:left-t.name.length<0
 .simp only[evz,hc];rw[jlq (by omega)]
 .have e2:=jvM t.args w2 (λu hu=>ih u hu (w3 u hu)) (left-t.name.length) (by omega) (by omega);simp only[evz,hc,e2];rw[jmD,<-Int.natCast_add,<-jbI];by_cases h2:jiw left ((t.name.length+t.args.length+jji t.args:Nat):Int)<0
  .have:jiw left ((t.name.length+t.args.length+jji t.args:Nat):Int) = -1:=by have:=ju3 left (t.name.length+t.args.length+jji t.args:Nat);omega
   simp only[evz,this]
  .simp only[evz,h2]
theorem jqt(ts:Xg)(hl:ts.length<=9223372036854775807)(ih:∀t∈ts,G 9 [tm t,tm t]=some (vb true,[])):G 8 [tms ts,tms ts]=some (vb true,[]):=by
 have key:=(upto (P:=λi=>jv4 (tms ts) (tms ts) (vi i)=some (vb true,[])) (n:=ts.length) ?_ ?_ 0 (Nat.zero_le _))
 .rw [g8];simp only[Int.natCast_zero]at key;simp only[evz,key]
 .rw [jzI];simp only[evz]
 .intro i hi ih';have h5:=jeN hi hl;have e1:=ih ts[i] (jdM _);rw[jzI];simp only[evz,hi,Int.ofNat_lt,jay hi,jbK,e1,h5,ih']
theorem jpv(t:T):twf t->G 9 [tm t,tm t]=some (vb true,[]):=by
 refine T.ind (p:=λt=>twf t->G 9 [tm t,tm t]=some (vb true,[])) ?_ t;intro t ih h;obtain⟨w1,w2,w3⟩:=(jgC t).1 h;have w3:=(jfY _).1 w3;have e1:=jqt t.args w2 λu hu=>ih u hu (w3 u hu);rw[g9];simp only[evz,e1]
theorem jjT{l:Xb}{i:Nat}(h:i<l.length):jaj (sv l) (vi i)=some (vy (l[i].toNat:Int)):=by
 show(if _ then _ else _)=_;rw[jc6 ⟨by omega,by simpa using h⟩];simp[jX,h]
theorem jiK{c:UInt8}{l:Xb} :jaj (sv (c::l)) (vi 0)=some (vy (c.toNat:Int)):=jjT (i:=0) (l:=c::l) (by simp)
def inB(lo hi x:Int):Bool:=decide (lo<=x) && decide (x<=hi)
theorem jky(x a b:Int):G 76 [vi x,vi a,vi b]=some (vb (inB a b x),[]):=by
 rw[g76];by_cases h:a<=x<;>simp only[evz,h,inB,Bool.true_and,Bool.false_and]
theorem jj8(x a b:Int):G 61 [vi x,vi a,vi b]=some (vb (inB a b x),[]):=by
 rw[g61];by_cases h:a<=x<;>simp only[evz,h,inB,Bool.true_and,Bool.false_and]
def upc(c:UInt8):Bool:=inB 65 90 (c.toNat:Int)
def jlR(c:UInt8):Bool:=inB 97 122 (c.toNat:Int)
def jtb(c:UInt8):Bool:=inB 48 57 (c.toNat:Int)
def jiZ(c:UInt8):Bool:=jlR c || jtb c
theorem jkG(c:UInt8):G 43 [vy (c.toNat:Int)]=some (vb (upc c),[]):=by
 rw[g43];by_cases h:65<=(c.toNat:Int)<;>simp only[evz,h,upc,inB,Bool.true_and,Bool.false_and]
theorem jlL(c:UInt8):G 98 [vy (c.toNat:Int)]=some (vb (jlR c),[]):=by
 rw[g98];by_cases h:97<=(c.toNat:Int)<;>simp only[evz,h,jlR,inB,Bool.true_and,Bool.false_and]
theorem jnR(c:UInt8):G 99 [vy (c.toNat:Int)]=some (vb (jtb c),[]):=by
 rw[g99];by_cases h:48<=(c.toNat:Int)<;>simp only[evz,h,jtb,inB,Bool.true_and,Bool.false_and]
theorem jnY(c:UInt8):G 62 [vy (c.toNat:Int)]=some (vb (jiZ c),[]):=by
 rw[g62];by_cases h:97<=(c.toNat:Int)<;>by_cases h2:(c.toNat:Int)<=122<;>by_cases h3:48<=(c.toNat:Int)<;>simp only[evz,h,h2,h3,jiZ,jlR,jtb,inB,Bool.true_and,Bool.false_and,Bool.or_false,Bool.true_or,Bool.false_or]
def jcE:Xb->Bool
 | []=>false
 |c::r=>upc c && (r.all jiZ && decide (r.length<=3))
theorem jnl(r:Xb)(k:Nat)(hk:k<=9):inB 1 (k+1:Nat) (((r.length+1:Nat)):Int)=decide (r.length<=k):=by
 unfold inB;have:decide ((1:Int)<=((r.length+1:Nat):Int))=true:=by simp;omega
 rw[this,Bool.true_and];by_cases h:r.length<=k<;>simp[h]<;>omega
theorem jm4(s:Xb)(hs:s.length<=9223372036854775807):∀i,i<=s.length->1<=i->jqc (sv s) (vi (s.length:Nat)) (vi i)=some (vb ((s.drop i).all jiZ && inB 1 4 (s.length:Nat)),[]):=by
 refine upto (P:=λi=>1<=i->jqc (sv s) (vi (s.length:Nat)) (vi i)=some (vb ((s.drop i).all jiZ && inB 1 4 (s.length:Nat)),[])) ?_ ?_
 .intro _;rw[jsL,List.drop_length];have e:=jky (s.length:Nat) 1 4;simp only[evz,e,Bool.true_and]
 .intro i hi ih h1;have ih:=ih (by omega);have hn:¬((i:Int)=0):=by omega
  have hp:(0:Int)<(i:Int):=by omega
  have hlt:(i:Int)<((s.length:Nat):Int):=by omega
  have h5:=jeN hi hs;have hx:=jjT hi;have e1:=jlL s[i];have e2:=jnR s[i];rw[jsL,jcS hi];generalize s[i]=ch at *;rw[jby];cases h8:jlR ch<;>cases h9:jtb ch<;>rw[h8]at e1<;>rw[h9]at e2<;>simp only[evz,hn,hp,hlt,hx,e1,e2,h5,ih,jiZ,h8,h9,Bool.true_and,Bool.false_and,Bool.or_true,Bool.or_false]
theorem jlD(s:Xb)(hs:s.length<=9223372036854775807):G 96 [sv s]=some (vb (jcE s),[]):=by
 rw[g96];show(jfR (sv s)).bind _=_;rw[jle,Option.bind_some];cases s with
 |nil=>
  rw[jsL];have e:=jky ((0:Nat):Int) 1 4;simp only[evz,e];rfl
 |cons c r=>
  have key:=jm4 (c::r) hs 1 (by simp) (jl _);simp only[List.drop_succ_cons,List.drop_zero]at key;have e':inB 1 4 (((c::r).length:Nat):Int)=decide (r.length<=3):=jnl r 3 (by decide);rw[e']at key;rw[jsL];have h5:jgm .add false (vi 0) (vi 1)=some (vi ((1:Nat):Int)):=by rw[jjR,jht (by decide) (by decide)];rfl
  have h6:(0:Int)<(((c::r).length:Nat):Int):=Int.natCast_pos.2 (Nat.succ_pos _);have e1:=jkG c;generalize ((((c::r).length:Nat)):Int)=n at *;cases hu:upc c<;>rw[hu]at e1<;>simp only[evz,h6,jiK,e1,h5,key,jcE,hu,Bool.true_and,Bool.false_and]
theorem jrD(s:Xb)(hs:s.length<=9223372036854775807):∀i,i<=s.length->joH (sv s) (vi i)=some (vb ((s.drop i).all jiZ),[]):=by
 refine upto (P:=λi=>joH (sv s) (vi i)=some (vb ((s.drop i).all jiZ),[])) ?_ ?_
 .rw [jxq,List.drop_length];simp only[evz]
 .intro i hi ih;have hlt:(i:Int)<((s.length:Nat):Int):=by omega
  have h5:=jeN hi hs;have hx:=jjT hi;have e1:=jnY s[i];rw[jxq,jcS hi];generalize s[i]=ch at *;rw[jby];cases h8:jiZ ch<;>rw[h8]at e1<;>simp only[evz,hlt,hx,e1,h5,ih,Bool.true_and,Bool.false_and]
theorem jhT(s:Xb)(hs:s.length<=9223372036854775807):G 31 [sv s]=some (vb (jcE s),[]):=by
 rw[g31];show(jfR (sv s)).bind _=_;rw[jle,Option.bind_some];cases s with
 |nil=>
  have e:=jj8 ((0:Nat):Int) 1 4;simp only[evz,e];rfl
 |cons c r=>
  have e:=jj8 (((c::r).length:Nat):Int) 1 4;have e':inB 1 4 (((c::r).length:Nat):Int)=decide (r.length<=3):=jnl r 3 (by decide);rw[e']at e;have key:=jrD (c::r) hs 1 (by simp);simp only[List.drop_succ_cons,List.drop_zero]at key;have key:joH (sv (c::r)) (vi 1)=some (vb (r.all jiZ),[]):=key;generalize ((((c::r).length:Nat)):Int)=n at *;by_cases h3:r.length<=3
  .rw [decide_eq_true h3]at e;by_cases ha:(c.toNat:Int)<65
   .have:¬(65<=(c.toNat:Int)):=by omega
    simp only[evz,e,jiK,ha,jcE,upc,inB,this,Bool.false_and]
   .have h65:65<=(c.toNat:Int):=by omega
    by_cases hb:90<(c.toNat:Int)
    .have:¬((c.toNat:Int)<=90):=by omega
     simp only[evz,e,jiK,ha,hb,jcE,upc,inB,this,Bool.false_and,Bool.and_false]
    .have:(c.toNat:Int)<=90:=by omega
     simp only[evz,e,jiK,ha,hb,jcE,upc,inB,this,h65,key,h3,Bool.true_and]
  .rw [decide_eq_false h3]at e;simp only[evz,e,jcE,h3,Bool.and_false]
def jiE(s:Xb):Xa->Option Nat
 | []=>none
 |x::l=>if s=x then some 0 else(jiE s l).map (· + 1)
def jid(i:Nat):Option Nat->Int
 |none=> -1
 |some k=>((i+k:Nat):Int)
theorem jj5(s:Xb):∀l,(jiE s l).isSome=l.contains s
 | []=>rfl
 |x::l=>by
  simp only[jiE,List.contains_cons];by_cases h:s=x
  .simp [h]
  .have:=jj5 s l;simp[h,this]
theorem jnk{s:Xb} :∀{l:Xa}{k:Nat},jiE s l=some k->k<l.length/\l[k]? = some s
 | [],_,h=>by cases h
 |x::l,k,h=>by
  simp only[jiE]at h;split at h
  .rename_i e;cases h;exact⟨by simp,by simp[e]⟩
  .obtain ⟨j,h1,rfl⟩:=zG.1 h;have:=jnk h1;exact⟨by simp;exact this.1,by simpa using this.2⟩
theorem jtc(s:Xb)(l:Xa):decide (jid 0 (jiE s l)<0)=!l.contains s:=by
 rw[<-jj5];cases jiE s l<;>simp[jid]
theorem jpx(s:Xb)(l:Xa):decide (0<=jid 0 (jiE s l))=l.contains s:=by
 rw[<-jj5];cases jiE s l<;>simp[jid]
theorem jnO{s x:Xb}{l:Xa}{i:Nat}(h:¬s=x):jid (i+1) (jiE s l)=jid i (jiE s (x::l)):=by
 simp only[jiE,h,if_false];cases jiE s l<;>simp[jid];omega
theorem jkE(l:Xa)(s:Xb)(hl:l.length<=9223372036854775807):G 109 [strs l,sv s]=some (vi (jid 0 (jiE s l)),[]):=by
 have key:=upto (P:=λi=>jph (strs l) (sv s) (vi (l.length:Nat)) (vi i)=some (vi (jid i (jiE s (l.drop i))),[])) (n:=l.length) ?_ ?_ 0 (Nat.zero_le _)
 .simp only[Int.natCast_zero,List.drop_zero]at key;rw[jAw];simp only[evz,key]
 .rw [juD,List.drop_length];simp only[evz,jiE,jid]
 .intro i hi ih;have hlt:(i:Int)<((l.length:Nat):Int):=by omega
  have h5:=jeN hi hl;rw[juD,jcS hi];by_cases h:s=l[i]
  .simp only[evz,hlt,jay hi,h,jiE,jid,zH]
  .simp only[evz,hlt,jay hi,h,h5,ih,jnO h]
theorem jjn(l:Xa)(s:Xb)(hl:l.length<=9223372036854775807):G 75 [strs l,sv s]=some (vb (l.contains s),[]):=by
 have e:=jkE l s hl;rw[g75];simp only[evz,e,jpx]
theorem jno(o:Ord')(s:Xb)(hl:o.syms.length<=9223372036854775807):G 147 [od o,sv s]=some (vi (jid 0 (jiE s o.syms)),[]):=by
 have key:=upto (P:=λi=>jpp (sv s) (vi i) (strs o.syms) (ints o.ws) (vi o.var)=some (vi (jid i (jiE s (o.syms.drop i))),[])) (n:=o.syms.length) ?_ ?_ 0 (Nat.zero_le _)
 .simp only[Int.natCast_zero,List.drop_zero]at key;rw[jAQ];simp only[evz,key]
 .rw [juQ,List.drop_length];simp only[evz,jiE,jid]
 .intro i hi ih;have hlt:(i:Int)<((o.syms.length:Nat):Int):=by omega
  have h5:=jeN hi hl;rw[juQ,jcS hi];by_cases h:s=o.syms[i]
  .simp only[evz,hlt,jay hi,h,jiE,jid,zH]
  .have h':¬o.syms[i]=s:=λe=>h e.symm;simp only[evz,hlt,jay hi,h',h5,ih,jnO h]
theorem jpE(l:Xa)(s:Xb)(hl:l.length<=9223372036854775807):G 33 [strs l,sv s]=some (vb (l.contains s),[]):=by
 have key:=upto (P:=λi=>jr9 (strs l) (sv s) (vi i)=some (vb ((l.drop i).contains s),[])) (n:=l.length) ?_ ?_ 0 (Nat.zero_le _)
 .simp only[Int.natCast_zero,List.drop_zero]at key;rw[g33];exact key
 .rw [jxr,List.drop_length];simp only[evz,List.contains_nil]
 .intro i hi ih;have hlt:(i:Int)<((l.length:Nat):Int):=by omega
  have h5:=jeN hi hl;rw[jxr,jcS hi,List.contains_cons];by_cases h:l[i]=s
  .have:(s == l[i])=true:=by simp[h]
   simp only[evz,hlt,jay hi,h];simp
  .have:(s == l[i])=false:=by simp;exact λe=>h e.symm
   simp only[evz,hlt,jay hi,h,this,h5,ih,Bool.false_or]
def jq4:Xa:=[[116,114,117,101],[102,97,108,115,101],[116,114,117,116,104],[98,111,116,104],[101,105,116,104,101,114],[105,102],[97,108,108],[115,111,109,101]]
def jpV(c:UInt8):Bool:=jiZ c || decide ((c.toNat:Int)=95)
def jiO:Xb->Bool
 | []=>false
 |c::r=>jlR c && (r.all jpV && (decide (r.length<=5) && !jq4.contains (c::r)))
theorem jv8(a b:Xb):(a == b)=decide (a=b):=by by_cases h:a=b<;>simp[h]
theorem joy(s:Xb)(hs:s.length<=9223372036854775807):∀i,i<=s.length->1<=i->jp9 (sv s) (vi (s.length:Nat)) (vi i)=some (vb ((s.drop i).all jpV && (inB 1 6 (s.length:Nat) && !jq4.contains s)),[]):=by
 refine upto (P:=λi=>1<=i->jp9 (sv s) (vi (s.length:Nat)) (vi i)=some (vb ((s.drop i).all jpV && (inB 1 6 (s.length:Nat) && !jq4.contains s)),[])) ?_ ?_
 .intro _;rw[jsI,List.drop_length];have e:=jky (s.length:Nat) 1 6;have e2:=jjn jq4 s (by decide);have e3:G 100 []=some (strs jq4,[]):=jAt;cases h:inB 1 6 (s.length:Nat)<;>rw[h]at e<;>simp only[evz,e,e2,e3,Bool.true_and,Bool.false_and]
 .intro i hi ih h1;have ih:=ih (by omega);have hn:¬((i:Int)=0):=by omega
  have hlt:(i:Int)<((s.length:Nat):Int):=by omega
  have h5:=jeN hi hs;have hx:=jjT hi;have e1:=jlL s[i];have e2:=jnR s[i];rw[jsI,jcS hi];generalize s[i]=ch at *;rw[jby];cases h7:decide ((ch.toNat:Int)=95)<;>cases h8:jlR ch<;>cases h9:jtb ch<;>rw[h8]at e1<;>rw[h9]at e2<;>
   simp only[evz,hn,hlt,hx,e1,e2,h5,ih,jpV,jiZ,h7,h8,h9,Bool.true_and,Bool.false_and,Bool.or_true,Bool.or_false]
theorem jmQ(s:Xb)(hs:s.length<=9223372036854775807):G 68 [sv s]=some (vb (jiO s),[]):=by
 rw[g68];show(jfR (sv s)).bind _=_;rw[jle,Option.bind_some];cases s with
 |nil=>
  rw[jsI];have e:G 76 [vi ((0:Nat):Int),vi 1,vi 6]=some (vb false,[]):=jky ((0:Nat):Int) 1 6;simp only[evz,e];rfl
 |cons c r=>
  have key:=joy (c::r) hs 1 (by simp) (jl _);simp only[List.drop_succ_cons,List.drop_zero]at key;have e':inB 1 6 (((c::r).length:Nat):Int)=decide (r.length<=5):=jnl r 5 (by decide);rw[e']at key;rw[jsI];have h5:jgm .add false (vi 0) (vi 1)=some (vi ((1:Nat):Int)):=by rw[jjR,jht (by decide) (by decide)];rfl
  have h6:(0:Int)<(((c::r).length:Nat):Int):=Int.natCast_pos.2 (Nat.succ_pos _);have e1:=jlL c;generalize ((((c::r).length:Nat)):Int)=n at *;cases hu:jlR c<;>rw[hu]at e1<;>simp only[evz,h6,jiK,e1,h5,key,jiO,hu,Bool.true_and,Bool.false_and]
theorem joz(s:Xb)(hs:s.length<=9223372036854775807):∀i,i<=s.length->jkn (sv s) (vi i)=some (vb ((s.drop i).all jpV),[]):=by
 refine upto (P:=λi=>jkn (sv s) (vi i)=some (vb ((s.drop i).all jpV),[])) ?_ ?_
 .rw [jxG,List.drop_length];simp only[evz]
 .intro i hi ih;have hlt:(i:Int)<((s.length:Nat):Int):=by omega
  have h5:=jeN hi hs;have hx:=jjT hi;have e1:=jnY s[i];rw[jxG,jcS hi];generalize s[i]=ch at *;rw[jby];cases h7:decide ((ch.toNat:Int)=95)<;>cases h8:jiZ ch<;>rw[h8]at e1<;>simp only[evz,hlt,hx,e1,h5,ih,jpV,h7,h8,Bool.true_and,Bool.false_and,Bool.or_true,Bool.or_false]
theorem jk9(s:Xb)(hs:s.length<=9223372036854775807):G 57 [sv s]=some (vb (jiO s),[]):=by
 rw[g57];show(jfR (sv s)).bind _=_;rw[jle,Option.bind_some];cases s with
 |nil=>
  have e:G 61 [vi ((0:Nat):Int),vi 1,vi 6]=some (vb false,[]):=jj8 ((0:Nat):Int) 1 6;simp only[evz,e];rfl
 |cons c r=>
  have e:=jj8 (((c::r).length:Nat):Int) 1 6;have e':inB 1 6 (((c::r).length:Nat):Int)=decide (r.length<=5):=jnl r 5 (by decide);rw[e']at e;have key:=joz (c::r) hs 1 (by simp);simp only[List.drop_succ_cons,List.drop_zero]at key;have key:jkn (sv (c::r)) (vi 1)=some (vb (r.all jpV),[]):=key;generalize ((((c::r).length:Nat)):Int)=n at *;have hres:jq4.contains (c::r)=(decide (c::r=[116,114,117,101]) || (decide (c::r=[102,97,108,115,101]) || (decide (c::r=[116,114,117,116,104]) || (decide (c::r=[98,111,116,104]) || (decide (c::r=[101,105,116,104,101,114]) || (decide (c::r=[105,102]) || (decide (c::r=[97,108,108]) || decide (c::r=[115,111,109,101])))))))):=by
   simp only[jq4,List.contains_cons,List.contains_nil,Bool.or_false,jv8]
  by_cases h3:r.length<=5
  .rw [decide_eq_true h3]at e;by_cases ha:(c.toNat:Int)<97
   .have:¬(97<=(c.toNat:Int)):=by omega
    simp only[evz,e,jiK,ha,jiO,jlR,inB,this,Bool.false_and]
   .have h65:97<=(c.toNat:Int):=by omega
    by_cases hb:122<(c.toNat:Int)
    .have:¬((c.toNat:Int)<=122):=by omega
     simp only[evz,e,jiK,ha,hb,jiO,jlR,inB,this,Bool.false_and,Bool.and_false]
    .have h122:(c.toNat:Int)<=122:=by omega
     have e0:jiO (c::r)=(r.all jpV && !jq4.contains (c::r)):=by
      simp[jiO,jlR,inB,h65,h122,h3]
     rw[e0,hres];have hx0:=jiK (c:=c) (l:=r);clear hres e0;generalize c::r=s at *;cases q0:decide (s=[116,114,117,101]);rotate_left
     .simp only[evz,e,hx0,ha,hb,q0,Bool.true_or,Bool.and_false]
     cases q1:decide (s=[102,97,108,115,101]);rotate_left
     .simp only[evz,e,hx0,ha,hb,q0,q1,Bool.true_or,Bool.false_or,Bool.and_false]
     cases q2:decide (s=[116,114,117,116,104]);rotate_left
     .simp only[evz,e,hx0,ha,hb,q0,q1,q2,Bool.true_or,Bool.false_or,Bool.and_false]
     cases q3:decide (s=[98,111,116,104]);rotate_left
     .simp only[evz,e,hx0,ha,hb,q0,q1,q2,q3,Bool.true_or,Bool.false_or,Bool.and_false]
     cases q4:decide (s=[101,105,116,104,101,114]);rotate_left
     .simp only[evz,e,hx0,ha,hb,q0,q1,q2,q3,q4,Bool.true_or,Bool.false_or,Bool.and_false]
     cases q5:decide (s=[105,102]);rotate_left
     .simp only[evz,e,hx0,ha,hb,q0,q1,q2,q3,q4,q5,Bool.true_or,Bool.false_or,Bool.and_false]
     cases q6:decide (s=[97,108,108]);rotate_left
     .simp only[evz,e,hx0,ha,hb,q0,q1,q2,q3,q4,q5,q6,Bool.true_or,Bool.false_or,Bool.and_false]
     cases q7:decide (s=[115,111,109,101]);rotate_left
     .simp only[evz,e,hx0,ha,hb,q0,q1,q2,q3,q4,q5,q6,q7,Bool.false_or,Bool.and_false]
     simp only[evz,e,hx0,ha,hb,q0,q1,q2,q3,q4,q5,q6,q7,Bool.or_false,key]
  .rw [decide_eq_false h3]at e;simp only[evz,e,jiO,h3,Bool.false_and,Bool.and_false]
mutual
def nodes:T->Nat
 |.mk _ us=>1+jct us
def jct:Xg->Nat
 | []=>0
 |t::ts=>nodes t+jct ts
end
theorem jeU(t:T):nodes t=1+jct t.args:=by cases t;rfl
mutual
def dep:T->Nat
 |.mk _ us=>1+jke us
def jke:Xg->Nat
 | []=>0
 |t::ts=>max (dep t) (jke ts)
end
theorem jjw(t:T):dep t=1+jke t.args:=by cases t;rfl
mutual
def okT:T->Bool
 |.mk n us=>if jcE n then us.isEmpty else jiO n && (decide (us.length<=4) && jpM us)
def jpM:Xg->Bool
 | []=>true
 |t::ts=>okT t && jpM ts
end
theorem jiH(t:T):okT t=if jcE t.name then t.args.isEmpty else jiO t.name && (decide (t.args.length<=4) && jpM t.args):=by cases t;rfl
theorem jjQ:∀ts,jpM ts=ts.all okT
 | []=>rfl
 |t::ts=>by rw[jpM,jjQ ts,jby]
theorem jiF:∀t:T,nodes t<=1+tsz t:=by
 refine T.ind λt ih=>?_;have:∀ts:Xg,(∀u∈ts,nodes u<=1+tsz u)->jct ts<=ts.length+jji ts:=by
  intro ts;induction ts with
  |nil=>intro _;simp[jct]
  |cons u us ih=>
   intro h;have h1:=h u (by simp);have h2:=ih λv hv=>h v (by simp[hv]);simp only[jct,jji,zz];omega
 have h:=this t.args ih;rw[jeU,jhq];omega
theorem jiG(t:T):1<=nodes t:=by rw[jeU];omega
theorem jis{ts:Xg}{t:T}(h:t∈ts):nodes t<=jct ts:=by
 induction ts with
 |nil=>cases h
 |cons u us ih=>
  simp only[jct];rcases zC.1 h with rfl|h
  .omega
  .have:=ih h;omega
theorem jum:∀t:T,dep t<=nodes t:=by
 refine T.ind λt ih=>?_;have:∀ts:Xg,(∀u∈ts,dep u<=nodes u)->jke ts<=jct ts:=by
  intro ts;induction ts with
  |nil=>intro _;simp[jke]
  |cons u us ih=>
   intro h;have h1:=h u (by simp);have h2:=ih λv hv=>h v (by simp[hv]);simp only[jct,jke];omega
 have h:=this t.args ih;rw[jeU,jjw];omega
theorem jtL(ts:Xg)(hl:ts.length<=9223372036854775807)(hn:jct ts<=1048577)(ih:∀t∈ts,∃r:Nat,G 82 [tm t]=some (vi r,[])/\r<=nodes t/\(nodes t<=30->r=nodes t)/\(30<nodes t->30<r)) :
  ∀i,i<=ts.length-> ∀a:Nat,a+jct (ts.drop i)<=1048578-> ∃r:Nat,jsm (vi a) (tms ts) (vi (ts.length:Nat)) (vi i)=some (vi r,[])/\r<=a+jct (ts.drop i)/\(a+jct (ts.drop i)<=30->r=a+jct (ts.drop i))/\(30<a+jct (ts.drop i)->30<r):=by
 refine upto ?_ ?_
 .intro a ha;rw[ju1,List.drop_length];simp only[evz,jct,zH];exact⟨a,rfl,jl _,λ_=>rfl,λh=>h⟩
 .intro i hi ih' a ha;have hlt:(i:Int)<((ts.length:Nat):Int):=by omega
  have h5:=jeN hi hl;rw[jcS hi]at ha⊢;simp only[jct]at ha⊢;obtain⟨r1,e1,b1,b2,b3⟩:=ih ts[i] (jdM _);by_cases hc:(30:Int)<(a:Int)
  .refine ⟨a,?_,by omega,by omega,by omega⟩;rw[ju1];simp only[evz,hlt,jay hi,jbK,hc]
  .have hk:ck ((a:Int)+(r1:Int))=some (vi ((a+r1:Nat):Int)):=by rw[jht (by omega) (by omega)];rfl
   obtain⟨r2,e2,c1,c2,c3⟩:=ih' (a+r1) (by omega);refine⟨r2,?_,by omega,by omega,by omega⟩;rw[ju1];simp only[evz,hlt,jay hi,jbK,hc,e1,hk,h5,e2]
theorem size_eq:∀t:T,twf t->tsz t<=1048576-> ∃r:Nat,G 82 [tm t]=some (vi r,[])/\r<=nodes t/\(nodes t<=30->r=nodes t)/\(30<nodes t->30<r):=by
 refine T.ind λt ih hw hs=>?_;obtain⟨w1,w2,w3⟩:=(jgC t).1 hw;have w3:=(jfY _).1 w3;have hn:=jiF t;rw[jeU]at hn;rw[jhq]at hs;obtain⟨r,h1,h2,h3,h4⟩:=jtL t.args w2 (by rw[jhq]at hn;omega) (λu hu=>ih u hu (w3 u hu) (by have:=jim hu;omega)) 0 (Nat.zero_le _) 1 (by rw[jhq]at hn;simp;omega);simp only[List.drop_zero,Int.natCast_zero,Int.natCast_one]at h1 h2 h3 h4;refine⟨r,?_,by rw[jeU];exact h2,by rw[jeU];exact h3,by rw[jeU];exact h4⟩;rw[g82];simp only[evz,h1]
theorem jtq(n:Xb)(most:Int)(hm1: -1048600<=most)(hm:most<=1048576)(ts:Xg)(hl:ts.length<=9223372036854775807)(ih:∀t∈ts,∀m:Int,-1048600<=m->m<=1048576-> ∃r:Nat,G 84 [tm t,vi m]=some (vi r,[])/\1<=r/\r<=nodes t/\((nodes t:Int)<=m->r=nodes t)/\(m<nodes t->m<r)) :
  ∀i,i<=ts.length-> ∀a:Nat,1<=a->a+jct (ts.drop i)<=1048578-> ∃r:Nat,jso (vi most) (vi a) (vi i) (sv n) (tms ts)=some (vi r,[])/\1<=r/\r<=a+jct (ts.drop i)/\(((a+jct (ts.drop i):Nat):Int)<=most->r=a+jct (ts.drop i))/\(most<((a+jct (ts.drop i):Nat):Int)->most<r):=by
 refine upto ?_ ?_
 .intro a h1 ha;rw[ju2,List.drop_length];simp only[evz,jct,zH];exact⟨a,rfl,h1,jl _,λ_=>rfl,λh=>h⟩
 .intro i hi ih' a h1 ha;have hlt:(i:Int)<((ts.length:Nat):Int):=by omega
  have h5:=jeN hi hl;rw[jcS hi]at ha⊢;simp only[jct]at ha⊢;by_cases hc:(a:Int)<=most
  .obtain ⟨r1,e1,b0,b1,b2,b3⟩:=ih ts[i] (jdM _) (most-a) (by omega) (by omega);have hk0:ck (most-(a:Int))=some (vi (most-a)):=jht (by omega) (by omega);have hk:ck ((a:Int)+(r1:Int))=some (vi ((a+r1:Nat):Int)):=by rw[jht (by omega) (by omega)];rfl
   obtain⟨r2,e2,c0,c1,c2,c3⟩:=ih' (a+r1) (by omega) (by omega);refine⟨r2,?_,by omega,by omega,by omega,by omega⟩;rw[ju2];simp only[evz,hlt,jay hi,jbK,hc,hk0,e1,hk,h5,e2]
  .refine ⟨a,?_,h1,by omega,by omega,by omega⟩;rw[ju2];simp only[evz,hlt,hc]
theorem jwL:∀t:T,twf t->tsz t<=1048576-> ∀m:Int,-1048600<=m->m<=1048576-> ∃r:Nat,G 84 [tm t,vi m]=some (vi r,[])/\1<=r/\r<=nodes t/\((nodes t:Int)<=m->r=nodes t)/\(m<nodes t->m<r):=by
 refine T.ind λt ih hw hs m hm1 hm=>?_;obtain⟨w1,w2,w3⟩:=(jgC t).1 hw;have w3:=(jfY _).1 w3;have hn:=jiF t;rw[jeU]at hn;obtain⟨r,h1,h0,h2,h3,h4⟩:=jtq t.name m hm1 hm t.args w2 (λu hu m h1 h2=>ih u hu (w3 u hu) (by have:=jim hu;rw[jhq]at hs;omega) m h1 h2) 0 (Nat.zero_le _) 1 (jl _) (by simp;omega);simp only[List.drop_zero,Int.natCast_zero,Int.natCast_one]at h1 h2 h3 h4;refine⟨r,?_,h0,by rw[jeU];exact h2,by rw[jeU];exact h3,by rw[jeU];exact h4⟩;rw[g84];simp only[evz,h1]
theorem jrw(ts:Xg)(hl:ts.length<=9223372036854775807)(hn:jct ts<=1048577)(ih:∀t∈ts,G 83 [tm t]=some (vi (dep t:Nat),[])) :
  ∀i,i<=ts.length-> ∀a:Nat,a<=1048577->jsn (vi a) (tms ts) (vi (ts.length:Nat)) (vi i)=some (vi ((max a (jke (ts.drop i))+1:Nat):Int),[]):=by
 refine upto ?_ ?_
 .intro a ha;have hk:ck ((a:Int)+1)=some (vi ((a+1:Nat):Int)):=by rw[jht (by omega) (by omega)];rfl
  rw[jxM,List.drop_length];simp only[evz,jke,hk,Nat.max_zero]
 .intro i hi ih' a ha;have hlt:(i:Int)<((ts.length:Nat):Int):=by omega
  have h5:=jeN hi hl;have e1:=ih ts[i] (jdM _);have hd:dep ts[i]<=1048577:=ZF (jum _) (ZF (jis (jdM hi)) hn);have hmx:(if(a:Int)<((dep ts[i]:Nat):Int)then((dep ts[i]:Nat):Int)else(a:Int))=((max a (dep ts[i]):Nat):Int):=by split<;>omega
  have ih':=ih' (max a (dep ts[i])) (by omega);rw[jxM,jcS hi];simp only[evz,hlt,jay hi,jbK,e1,hmx,h5,ih',jke,Nat.max_assoc]
theorem jun:∀t:T,twf t->tsz t<=1048576->G 83 [tm t]=some (vi (dep t:Nat),[]):=by
 refine T.ind λt ih hw hs=>?_;obtain⟨w1,w2,w3⟩:=(jgC t).1 hw;have w3:=(jfY _).1 w3;have hn:=jiF t;rw[jeU]at hn;have h1:=jrw t.args w2 (by omega) (λu hu=>ih u hu (w3 u hu) (by have:=jim hu;rw[jhq]at hs;omega)) 0 (Nat.zero_le _) 0 (by omega);simp only[List.drop_zero,Int.natCast_zero,Nat.zero_max]at h1;rw[g83,jjw,Nat.add_comm];simp only[evz,h1]
theorem jwM(a b:Nat):G 118 [vi a,vi b]=some (vi ((max a b:Nat):Int),[]):=by
 rw[jAD];by_cases h:(b:Int)<(a:Int)
 .simp only[evz,h];rw[Nat.max_eq_left (by omega)]
 .simp only[evz,h];rw[Nat.max_eq_right (by omega)]
theorem jpD(n:Xb)(ts:Xg)(hl:ts.length<=9223372036854775807)(hn:jct ts<=1048577)(ih:∀t∈ts,G 85 [tm t]=some (vi (dep t:Nat),[])) :
  ∀i,i<=ts.length-> ∀a:Nat,a<=1048577->jsp (vi a) (vi i) (sv n) (tms ts)=some (vi ((max a (jke (ts.drop i))+1:Nat):Int),[]):=by
 refine upto ?_ ?_
 .intro a ha;have hk:ck ((a:Int)+1)=some (vi ((a+1:Nat):Int)):=by rw[jht (by omega) (by omega)];rfl
  rw[jxN,List.drop_length];simp only[evz,jke,hk,Nat.max_zero]
 .intro i hi ih' a ha;have hlt:(i:Int)<((ts.length:Nat):Int):=by omega
  have h5:=jeN hi hl;have e1:=ih ts[i] (jdM _);have e2:=jwM a (dep ts[i]);have hd:dep ts[i]<=1048577:=ZF (jum _) (ZF (jis (jdM hi)) hn);have ih':=ih' (max a (dep ts[i])) (by omega);rw[jxN,jcS hi];simp only[evz,hlt,jay hi,jbK,e1,e2,h5,ih',jke,Nat.max_assoc]
theorem jrC:∀t:T,twf t->tsz t<=1048576->G 85 [tm t]=some (vi (dep t:Nat),[]):=by
 refine T.ind λt ih hw hs=>?_;obtain⟨w1,w2,w3⟩:=(jgC t).1 hw;have w3:=(jfY _).1 w3;have hn:=jiF t;rw[jeU]at hn;have h1:=jpD t.name t.args w2 (by omega) (λu hu=>ih u hu (w3 u hu) (by have:=jim hu;rw[jhq]at hs;omega)) 0 (Nat.zero_le _) 0 (by omega);simp only[List.drop_zero,Int.natCast_zero,Nat.zero_max]at h1;rw[g85,jjw,Nat.add_comm];simp only[evz,h1]
def jeO(t:T):Bool:=decide (nodes t<=30) && decide (dep t<=8)
def jgE(t:T):Bool:=jeO t && okT t
theorem jkF(t:T)(hw:twf t)(hs:tsz t<=1048576):G 52 [tm t]=some (vb (jeO t),[]):=by
 obtain⟨r,h1,h2,h3,h4⟩:=size_eq t hw hs;have hd:=jun t hw hs;rw[g52];by_cases h:nodes t<=30
 .have:(r:Int)<=30:=by have:=h3 h;omega
  have e:decide (((dep t:Nat):Int)<=8)=decide (dep t<=8):=by congr 1;exact propext (by omega)
  simp only[evz,h1,hd,this,jeO,h,e,Bool.true_and]
 .have:¬(r:Int)<=30:=by have:=h4 (by omega);omega
  simp only[evz,h1,this,jeO,h,Bool.false_and]
theorem joS(t:T)(hw:twf t)(hs:tsz t<=1048576):G 55 [tm t]=some (vb (jeO t),[]):=by
 obtain⟨r,h1,h0,h2,h3,h4⟩:=jwL t hw hs 30 (by decide) (by decide);have hd:=jrC t hw hs;rw[g55];by_cases h:nodes t<=30
 .have:(r:Int)<=30:=by have:=h3 (by omega);omega
  have e:decide (((dep t:Nat):Int)<=8)=decide (dep t<=8):=by congr 1;exact propext (by omega)
  simp only[evz,h1,hd,this,jeO,h,e,Bool.true_and]
 .have:¬(r:Int)<=30:=by have:=h4 (by omega);omega
  simp only[evz,h1,this,jeO,h,Bool.false_and]
theorem jm3{f:FuncId}{caps:Xd}(hsig:K.pureF f=true)(p:T->Bool)(ts:Xg)(hl:ts.length<=9223372036854775807)(h:∀t∈ts,G f (tm t::caps)=some (vb (p t),[])) :
  ∃r:Int,G 53 [tms ts,.fn f caps]=some (vi r,[])/\decide (0<=r)=ts.any p:=by
 have key:=upto (P:=λi=>∃r:Int,jsi (tms ts) (.fn f caps) (vi (ts.length:Nat)) (vi i)=some (vi r,[])/\decide (0<=r)=(ts.drop i).any p) (n:=ts.length) ?_ ?_ 0 (Nat.zero_le _)
 .obtain ⟨r,h1,h2⟩:=key;simp only[Int.natCast_zero,List.drop_zero]at h1 h2;refine⟨r,?_,h2⟩;rw[g53];simp only[evz,h1]
 .refine ⟨-1,?_,by simp⟩;rw[jxD];simp only[evz]
 .intro i hi ih;obtain⟨r,h1,h2⟩:=ih;have hlt:(i:Int)<((ts.length:Nat):Int):=by omega
  have h5:=jeN hi hl;have e1:=h ts[i] (jdM _);rw[jxD,jcS hi,List.any_cons];cases hp:p ts[i]<;>rw[hp]at e1
  .refine ⟨r,?_,by rw[h2,Bool.false_or]⟩;simp only[evz,hlt,jay hi,jbK,jjr hsig,jr,jY,e1,h5,h1]
  .refine ⟨i,?_,by simp⟩;simp only[evz,hlt,jay hi,jbK,jjr hsig,jr,jY,e1]
theorem jk0{f:FuncId}{caps:Xd}(hsig:K.pureF f=true)(p:T->Bool)(ts:Xg)(hl:ts.length<=9223372036854775807)(h:∀t∈ts,G f (tm t::caps)=some (vb (p t),[])) :
  G 25 [tms ts,.fn f caps]=some (vb (ts.any p),[]):=by
 obtain⟨r,h1,h2⟩:=jm3 hsig p ts hl h;rw[g25];simp only[evz,h1,h2]
theorem jqg(p:T->Bool)(ts:Xg):(ts.any λt=> !p t)=!ts.all p:=by
 induction ts with
 |nil=>rfl
 |cons t ts ih=>rw[List.any_cons,jby,ih];cases p t<;>rfl
theorem jk4:∀t:T,twf t->G 67 [tm t]=some (vb (okT t),[]):=by
 refine T.ind λt ih hw=>?_;obtain⟨w1,w2,w3⟩:=(jgC t).1 hw;have w3:=(jfY _).1 w3;have e1:=jlD t.name w1;have e2:=jmQ t.name w1;have e3:=jk0 (f:=97) (caps:=[]) rfl (λu=> !okT u) t.args w2 (λu hu=>by
  have:=ih u hu (w3 u hu);rw[g97];simp only[evz,this])
 rw[jqg,<-jjQ]at e3;rw[g67,jiH];have e4:decide (((t.args.length:Nat):Int)=0)=t.args.isEmpty:=by cases t.args<;>simp;omega
 have e5:decide (((t.args.length:Nat):Int)<=4)=decide (t.args.length<=4):=by congr 1;exact propext (by omega)
 cases hv:jcE t.name<;>rw[hv]at e1
 .cases hy:jiO t.name<;>rw[hy]at e2
  .simp only[evz,e1,e2,Bool.false_and]
  .cases ha:decide (t.args.length<=4)<;>rw[ha]at e5
   .simp only[evz,e1,e2,e5,Bool.false_and,Bool.true_and]
   .simp only[evz,e1,e2,e5,e3,Bool.true_and,Bool.not_not]
 .simp only[evz,e1,e4]
theorem jlP:∀t:T,twf t->G 56 [tm t]=some (vb (okT t),[]):=by
 refine T.ind λt ih hw=>?_;obtain⟨w1,w2,w3⟩:=(jgC t).1 hw;have w3:=(jfY _).1 w3;have e1:=jhT t.name w1;have e2:=jk9 t.name w1;have key:=upto (P:=λi=>jsk (vi i) (sv t.name) (tms t.args)=some (vb (jpM (t.args.drop i)),[])) (n:=t.args.length) ?_ ?_ 0 (Nat.zero_le _)
 .simp only[Int.natCast_zero,List.drop_zero]at key;rw[g56,jiH];have e4:decide (((t.args.length:Nat):Int)=0)=t.args.isEmpty:=by cases t.args<;>simp;omega
  cases hv:jcE t.name<;>rw[hv]at e1
  .cases hy:jiO t.name<;>rw[hy]at e2
   .simp only[evz,e1,e2,Bool.false_and]
   .by_cases ha:4<((t.args.length:Nat):Int)
    .have:¬t.args.length<=4:=by omega
     simp only[evz,e1,e2,ha,this,Bool.false_and,Bool.and_false]
    .have:t.args.length<=4:=by omega
     simp only[evz,e1,e2,ha,this,key,Bool.true_and]
  .simp only[evz,e1,e4]
 .rw [jxF,List.drop_length];simp only[evz,jpM]
 .intro i hi ih';have hlt:(i:Int)<((t.args.length:Nat):Int):=by omega
  have h5:=jeN hi w2;have e3:=ih t.args[i] (jdM _) (w3 _ (jdM _));rw[jxF,jcS hi,jpM];cases hp:okT t.args[i]<;>rw[hp]at e3
  .simp only[evz,hlt,jay hi,jbK,e3,Bool.false_and]
  .simp only[evz,hlt,jay hi,jbK,e3,h5,ih',Bool.true_and]
theorem jk6(t:T)(hw:twf t)(hs:tsz t<=1048576):G 69 [tm t]=some (vb (jgE t),[]):=by
 have e1:=jkF t hw hs;have e2:=jk4 t hw;rw[g69,jgE];cases h:jeO t<;>rw[h]at e1<;>simp only[evz,e1,e2,Bool.true_and,Bool.false_and]
theorem jlp(t:T)(hw:twf t)(hs:tsz t<=1048576):G 58 [tm t]=some (vb (jgE t),[]):=by
 have e1:=joS t hw hs;have e2:=jlP t hw;rw[g58,jgE];cases h:jeO t<;>rw[h]at e1<;>simp only[evz,e1,e2,Bool.true_and,Bool.false_and]
theorem jjo{xs:Xi}{i:Nat}(h:i<xs.length):zP 1 (ints xs) (vi i)=some (.elt (ci xs[i]) 0):=jay h
def js9(o:Ord')(i:Nat):Bool:=jiO (o.syms.getD i []) && (!(o.syms.take i).contains (o.syms.getD i []) && inB o.var 100 (o.ws.getD i 0))
def jiu(o:Ord'):Bool:=inB 1 12 (o.syms.length:Nat) && (decide (o.ws.length=o.syms.length) && (inB 1 100 o.var && (List.range o.syms.length).all (js9 o)))
theorem jrP{n i:Nat}(h:i<n):(List.range n).drop i=i::(List.range n).drop (i+1):=by
 have h':i<(List.range n).length:=by simpa using h
 rw[List.drop_eq_getElem_cons h',List.getElem_range]
theorem jqD(o:Ord')(hw:owf o)(hl:o.ws.length=o.syms.length):∀i,i<=o.syms.length->jsq (vi i) (strs o.syms) (ints o.ws) (vi o.var)=some (vb (((List.range o.syms.length).drop i).all (js9 o)),[]):=by
 refine upto ?_ ?_
 .rw [jxO,List.drop_of_length_le (by simp)];simp only[evz]
 .intro i hi ih;have hlt:(i:Int)<((o.syms.length:Nat):Int):=by omega
  have hi2:i<o.ws.length:=by omega
  have h5:=jeN hi hw.1.2;have hs:=hw.1.1 o.syms[i] (jdM _);have e1:=jk9 o.syms[i] hs;have hsl:K4 1 (strs o.syms) none (some (vi i))=some (strs (o.syms.take i)):=by rw[jju (by simp;omega),<-List.map_take]
  have e2:=jpE (o.syms.take i) o.syms[i] (by rw[List.length_take];exact ZF (Nat.min_le_right _ _) hw.1.2)
  have e3:=jj8 o.ws[i] o.var 100;have hc:js9 o i=(jiO o.syms[i] && (!(o.syms.take i).contains o.syms[i] && inB o.var 100 o.ws[i])):=by simp[js9,jX,hi,hi2]
  rw[jxO,jrP hi,jby,hc];cases h1:jiO o.syms[i]<;>rw[h1]at e1
  .simp only[evz,hlt,jay hi,e1,Bool.false_and]
  .cases h2:(o.syms.take i).contains o.syms[i]<;>rw[h2]at e2
   .cases h3:inB o.var 100 o.ws[i]<;>rw[h3]at e3
    .simp only[evz,hlt,jay hi,jjo hi2,e1,hsl,e2,e3,Bool.false_and,Bool.true_and]
    .simp only[evz,hlt,jay hi,jjo hi2,e1,hsl,e2,e3,h5,ih,Bool.true_and]
   .simp only[evz,hlt,jay hi,e1,hsl,e2,Bool.false_and,Bool.true_and]
theorem jti(o:Ord')(hw:owf o):G 87 [od o]=some (vb (jiu o),[]):=by
 have e1:=jj8 (o.syms.length:Nat) 1 12;have e2:=jj8 o.var 1 100;rw[g87,jiu];cases h1:inB 1 12 (o.syms.length:Nat)<;>rw[h1]at e1
 .simp only[evz,e1,Bool.false_and]
 .by_cases h2:o.ws.length=o.syms.length
  .have h2':((o.ws.length:Nat):Int)=((o.syms.length:Nat):Int):=by rw[h2]
   have key:=jqD o hw h2 0 (Nat.zero_le _);simp only[Int.natCast_zero,List.drop_zero]at key;cases h3:inB 1 100 o.var<;>rw[h3]at e2
   .simp only[evz,e1,h2',e2,Bool.false_and,Bool.and_false]
   .simp only[evz,e1,h2,e2,key,Bool.true_and]
  .have h2':¬((o.ws.length:Nat):Int)=((o.syms.length:Nat):Int):=by omega
   simp only[evz,e1,h2',h2,Bool.false_and,Bool.true_and]
mutual
def jjh(l:Xa):T->Bool
 |.mk n us=>(jcE n || l.contains n) && jjM l us
def jjM(l:Xa):Xg->Bool
 | []=>true
 |t::ts=>jjh l t && jjM l ts
end
theorem ji1(l:Xa)(t:T):jjh l t=((jcE t.name || l.contains t.name) && jjM l t.args):=by cases t;rfl
theorem jkp(l:Xa):∀ts,jjM l ts=ts.all (jjh l)
 | []=>rfl
 |t::ts=>by rw[jjM,jkp l ts,jby]
theorem jhU{t:T}(h:okT t=true):∀u∈t.args,okT u=true:=by
 rw[jiH]at h;intro u hu;split at h
 .rw [List.isEmpty_iff.1 h]at hu;cases hu
 .simp only[QR]at h;rw[jjQ]at h;exact jz.1 h.2.2 u hu
theorem jqH{t:T}(h:okT t=true):∃c r,t.name=c::r/\jcE t.name=upc c/\(upc c=false->jiO t.name=true):=by
 rw[jiH]at h;cases hn:t.name with
 |nil=>rw[hn]at h;simp[jcE,jiO]at h
 |cons c r=>
  refine⟨c,r,rfl,?_,?_⟩
  .rw [hn]at h;cases hu:upc c with
   |false=>simp[jcE,hu]
   |true=>
    cases hv:jcE (c::r)with
    |true=>rfl
    |false=>
     rw[hv]at h;have:jlR c=false:=by
      simp only[upc,inB,jlR,QR,YZ]at hu⊢;have:¬(97<=(c.toNat:Int)):=by omega
      simp[this]
     simp[jiO,this]at h
  .intro hu;rw[hn]at h;have:jcE (c::r)=false:=by simp[jcE,hu]
   rw[this]at h;simp at h;exact h.1
theorem jk7(t:T)(h:okT t=true):G 48 [tm t]=some (vb (jcE t.name),[]):=by
 obtain⟨c,r,hn,hv,_⟩:=jqH h;have e1:=jkG c;rw[<-hv]at e1;rw[g48];have hx:jaj (sv t.name) (vi 0)=some (vy (c.toNat:Int)):=by rw[hn];exact jiK
 simp only[evz,hx,e1]
theorem jqC(o:Ord')(ho:o.syms.length<=9223372036854775807):∀t:T,twf t->G 119 [od o,tm t]=some (vb (jjh o.syms t),[]):=by
 refine T.ind λt ih hw=>?_;obtain⟨w1,w2,w3⟩:=(jgC t).1 hw;have w3:=(jfY _).1 w3;have e1:=jhT t.name w1;have e2:=jno o t.name ho;have e2':=jtc t.name o.syms;have key:=upto (P:=λi=>jpj (vi i) (strs o.syms) (ints o.ws) (vi o.var) (sv t.name) (tms t.args)=some (vb (jjM o.syms (t.args.drop i)),[])) (n:=t.args.length) ?_ ?_ 0 (Nat.zero_le _)
 .simp only[Int.natCast_zero,List.drop_zero]at key;rw[jAE,ji1];cases hv:jcE t.name<;>rw[hv]at e1
  .cases hc:o.syms.contains t.name<;>rw[hc]at e2'
   .simp only[evz,e1,e2,e2',Bool.false_or,Bool.false_and]
   .simp only[evz,e1,e2,e2',key,Bool.false_or,Bool.true_and]
  .simp only[evz,e1,key,Bool.true_or,Bool.true_and]
 .rw [juG,List.drop_length];simp only[evz,jjM]
 .intro i hi ih';have hlt:(i:Int)<((t.args.length:Nat):Int):=by omega
  have h5:=jeN hi w2;have e3:=ih t.args[i] (jdM _) (w3 _ (jdM _));rw[juG,jcS hi,jjM];cases hp:jjh o.syms t.args[i]<;>rw[hp]at e3
  .simp only[evz,hlt,jay hi,jbK,e3,Bool.false_and]
  .simp only[evz,hlt,jay hi,jbK,e3,h5,ih',Bool.true_and]
def jlK(o:Ord')(t:T):Bool:=jgE t && jjh o.syms t
theorem joW(o:Ord')(t:T)(ho:o.syms.length<=9223372036854775807)(hw:twf t)(hs:tsz t<=1048576):G 88 [od o,tm t]=some (vb (jlK o t),[]):=by
 have e1:=jlp t hw hs;have e2:=jqC o ho t hw;rw[g88,jlK];cases h:jgE t<;>rw[h]at e1<;>simp only[evz,e1,e2,Bool.true_and,Bool.false_and]
def jm8(o:Ord')(n:Xb):Int:=match jiE n o.syms with|some k=>o.ws.getD k 0|none=>0
mutual
def wt(o:Ord'):T->Int
 |.mk n us=>(if jcE n then o.var else jm8 o n)+wtL o us
def wtL(o:Ord'):Xg->Int
 | []=>0
 |t::ts=>wt o t+wtL o ts
end
theorem jri(o:Ord')(t:T):wt o t=(if jcE t.name then o.var else jm8 o t.name)+wtL o t.args:=by cases t;rfl
theorem jkb{o:Ord'}(h:jiu o=true):o.ws.length=o.syms.length/\1<=o.var/\o.var<=100/\ ∀i,i<o.syms.length->o.var<=o.ws.getD i 0/\o.ws.getD i 0<=100:=by
 simp only[jiu,QR,YZ,inB]at h;obtain⟨_,h2,⟨h3,h4⟩,h5⟩:=h;refine⟨h2,h3,h4,λi hi=>?_⟩;have:=jz.1 h5 i (by simpa using hi);simp only[js9,QR,inB,YZ]at this;exact this.2.2
theorem jma{o:Ord'}{n:Xb}(h:o.syms.contains n=true):∃k,jiE n o.syms=some k/\k<o.syms.length:=by
 rw[<-jj5]at h;obtain⟨k,hk⟩:=Option.isSome_iff_exists.1 h;exact⟨k,hk,(jnk hk).1⟩
theorem jpU{o:Ord'}(hv:jiu o=true){n:Xb}(h:o.syms.contains n=true):zP 1 (ints o.ws) (vi (jid 0 (jiE n o.syms)))=some (.elt (ci (jm8 o n)) 0)/\1<=jm8 o n/\jm8 o n<=100:=by
 obtain⟨k,hk,hlt⟩:=jma h;obtain⟨h1,h2,h3,h4⟩:=jkb hv;have h5:=h4 k hlt;have hlt':k<o.ws.length:=by omega
 have e:jm8 o n=o.ws[k]:=by simp[jm8,hk,jX,hlt']
 rw[hk];have e2:jid 0 (some k)=((k:Nat):Int):=by simp[jid]
 rw[e2,jjo hlt',e];have e3:o.ws.getD k 0=o.ws[k]:=by simp[jX,hlt']
 rw[e3]at h5;exact⟨rfl,by omega,by omega⟩
theorem jll{o:Ord'}(hv:jiu o=true):∀t:T,jjh o.syms t=true->1<=wt o t/\wt o t<=100*nodes t:=by
 refine T.ind λt ih hc=>?_;rw[ji1,QR]at hc;obtain⟨h1,h2,h3,_⟩:=jkb hv;have hL:∀ts:Xg,(∀u∈ts,1<=wt o u/\wt o u<=100*nodes u)->0<=wtL o ts/\wtL o ts<=100*jct ts:=by
  intro ts;induction ts with
  |nil=>intro _;simp[wtL,jct]
  |cons u us ih=>
   intro h;have a:=h u (by simp);have b:=ih λv hv=>h v (by simp[hv]);simp only[wtL,jct];omega
 have hb:=hL t.args λu hu=>ih u hu (by
  have:=hc.2;rw[jkp]at this;exact jz.1 this u hu)
 rw[jri,jeU];cases hn:jcE t.name with
 |true=>simp only[yb];omega
 |false=>
  have hcn:=hc.1;rw[hn,Bool.false_or]at hcn;have:=(jpU hv hcn).2;simp only[KL,if_false];omega
theorem jkz{o:Ord'}(hv:jiu o=true){ts:Xg}(hc:jjM o.syms ts=true):0<=wtL o ts/\wtL o ts<=100*jct ts:=by
 induction ts with
 |nil=>simp[wtL,jct]
 |cons u us ih=>
  simp only[jjM,QR]at hc;have a:=jll hv u hc.1;have b:=ih hc.2;simp only[wtL,jct];omega
theorem jnL{l:Xa}{ts:Xg}(h:jjM l ts=true)(i:Nat):jjM l (ts.drop i)=true:=by
 rw[jkp]at h⊢;exact jz.2 λu hu=>jz.1 h u (List.mem_of_mem_drop hu)
theorem ji8{l:Xa}{ts:Xg}(h:jjM l ts=true){u:T}(hu:u∈ts):jjh l u=true:=by
 rw[jkp]at h;exact jz.1 h u hu
theorem jrh{o:Ord'}(hv:jiu o=true)(ts:Xg)(hl:ts.length<=9223372036854775807)(hn:jct ts<=1048577)(hc:jjM o.syms ts=true)(ih:∀t∈ts,G 141 [od o,tm t]=some (vi (wt o t),[])) :
  ∀i,i<=ts.length-> ∀a:Int,0<=a->a+wtL o (ts.drop i)<=200000000->jpn (vi a) (tms ts) (vi (ts.length:Nat)) (vi i) (strs o.syms) (ints o.ws) (vi o.var)=some (vi (a+wtL o (ts.drop i)),[]):=by
 refine upto ?_ ?_
 .intro a ha hb;rw[juO,List.drop_length];simp only[evz,wtL,Int.add_zero]
 .intro i hi ih' a ha hb;have hlt:(i:Int)<((ts.length:Nat):Int):=by omega
  have h5:=jeN hi hl;have e1:=ih ts[i] (jdM _);have b1:=jll hv ts[i] (ji8 hc (jdM _));have b2:=jkz hv (jnL hc (i+1));rw[jcS hi]at hb⊢;simp only[wtL]at hb⊢;have hk:ck (a+wt o ts[i])=some (vi (a+wt o ts[i])):=jht (by omega) (by omega);have ih':=ih' (a+wt o ts[i]) (by omega) (by omega);rw[juO];simp only[evz,hlt,jay hi,jbK,e1,hk,h5,ih',Int.add_assoc]
theorem jpc{o:Ord'}(hv:jiu o=true)(ho:o.syms.length<=9223372036854775807):∀t:T,twf t->tsz t<=1048576->okT t=true->jjh o.syms t=true->G 141 [od o,tm t]=some (vi (wt o t),[]):=by
 refine T.ind λt ih hw hs hk hc=>?_;obtain⟨w1,w2,w3⟩:=(jgC t).1 hw;have w3:=(jfY _).1 w3;have e1:=jk7 t hk;have hb:=jll hv t hc;have hn:=jiF t;rw[jeU]at hn;rw[jeU]at hb;have hks:=jhU hk;rw[jiH]at hk;rw[ji1,QR]at hc;rw[jri]at hb⊢;rw[jAO];cases hvn:jcE t.name<;>rw[hvn]at e1 hc hk hb
 .have hcn:=hc.1;rw[Bool.false_or]at hcn;obtain⟨e2,e3,e4⟩:=jpU hv hcn;have e5:=jkE o.syms t.name ho;have hbl:=jkz hv hc.2;have key:=jrh hv t.args w2 (by omega) hc.2 (λu hu=>ih u hu (w3 u hu) (by have:=jim hu;rw[jhq]at hs;omega) (hks u hu) (ji8 hc.2 hu)) 0 (Nat.zero_le _) (jm8 o t.name) (by omega) (by simp only[List.drop_zero];omega);simp only[Int.natCast_zero,List.drop_zero]at key;simp only[evz,e1,e5,e2,key]
 .simp only[yb]at hk;have:t.args=[]:=List.isEmpty_iff.1 hk;rw[this];simp only[evz,e1,wtL,Int.add_zero]
theorem joA{o:Ord'}(hv:jiu o=true)(n:Xb)(ts:Xg)(hl:ts.length<=9223372036854775807)(hc:jjM o.syms ts=true)(ih:∀t∈ts,G 121 [od o,tm t]=some (vi (wt o t),[])) :
  ∀i,i<=ts.length-> ∀a:Int,0<=a->a+wtL o (ts.drop i)<=200000000->jnw (vi a) (vi i) (strs o.syms) (ints o.ws) (vi o.var) (sv n) (tms ts)=some (vi (a+wtL o (ts.drop i)),[]):=by
 refine upto ?_ ?_
 .intro a ha hb;rw[juI,List.drop_length];simp only[evz,wtL,Int.add_zero]
 .intro i hi ih' a ha hb;have hlt:(i:Int)<((ts.length:Nat):Int):=by omega
  have h5:=jeN hi hl;have e1:=ih ts[i] (jdM _);have b1:=jll hv ts[i] (ji8 hc (jdM _));have b2:=jkz hv (jnL hc (i+1));rw[jcS hi]at hb⊢;simp only[wtL]at hb⊢;have hk:ck (a+wt o ts[i])=some (vi (a+wt o ts[i])):=jht (by omega) (by omega);have ih':=ih' (a+wt o ts[i]) (by omega) (by omega);rw[juI];simp only[evz,hlt,jay hi,jbK,e1,hk,h5,ih',Int.add_assoc]
theorem jmT{o:Ord'}(hv:jiu o=true)(ho:o.syms.length<=9223372036854775807):∀t:T,twf t->tsz t<=1048576->jjh o.syms t=true->G 121 [od o,tm t]=some (vi (wt o t),[]):=by
 refine T.ind λt ih hw hs hc=>?_;obtain⟨w1,w2,w3⟩:=(jgC t).1 hw;have w3:=(jfY _).1 w3;have e1:=jhT t.name w1;have hb:=jll hv t hc;have hn:=jiF t;rw[jeU]at hn;rw[jeU]at hb;obtain⟨_,v2,v3,_⟩:=jkb hv;rw[ji1,QR]at hc;rw[jri]at hb⊢;rw[jAG];have hbl:=jkz hv hc.2;have key:=λa h1 h2=>joA hv t.name t.args w2 hc.2 (λu hu=>ih u hu (w3 u hu) (by have:=jim hu;rw[jhq]at hs;omega) (ji8 hc.2 hu)) 0 (Nat.zero_le _) a h1 h2;simp only[Int.natCast_zero,List.drop_zero]at key;cases hvn:jcE t.name<;>rw[hvn]at e1 hc hb
 .have hcn:=hc.1;rw[Bool.false_or]at hcn;obtain⟨e2,e3,e4⟩:=jpU hv hcn;have e5:=jno o t.name ho;have key:=key (jm8 o t.name) (by omega) (by omega);simp only[evz,e1,e5,e2,key]
 .have key:=key o.var (by omega) (by omega);simp only[evz,e1,key]
theorem joN{o:Ord'}{t:T}(h:jlK o t=true):okT t=true/\jjh o.syms t=true/\nodes t<=30:=by
 simp only[jlK,jgE,jeO,QR,YZ]at h;exact⟨h.1.2,h.2,h.1.1.1⟩
def jyN(o:Ord')(t:T):A:=if jiu o && jlK o t then .tup [vi (wt o t),vb true]else .tup [vi 0,vb false]
theorem jml(a b:A):jb6 2 (.elt [a,b] 0)=some (.agg [a,b]):=rfl
theorem jmm(a b c:A):jb6 3 (.elt [a,b,c] 0)=some (.agg [a,b,c]):=rfl
noncomputable def dq{α:Type}(a b:α):Bool:=@decide (a=b) (Classical.propDecidable _)
theorem jje{α:Type}{a b:α} :dq a b=true↔a=b:=by unfold dq;exact @decide_eq_true_iff _ (Classical.propDecidable _)
theorem jnN{α:Type}{a b:α} :dq a b=false↔ ¬a=b:=by unfold dq;exact @decide_eq_false_iff_not _ (Classical.propDecidable _)
theorem jnj{α:Type}(a:α):dq a a=true:=jje.2 rfl
theorem jsx{α:Type}(a b:α)(l r:List α):dq (a::l) (b::r)=(dq a b && dq l r):=by
 rw[Bool.eq_iff_iff,QR,jje,jje,jje,kq]
theorem jyj(s t:T):dq s t=(decide (s.name=t.name) && dq s.args t.args):=by
 cases s with
 |mk n us=>cases t with
  |mk m vs=>rw[Bool.eq_iff_iff,QR,jje,jje,decide_eq_true_iff,T.mk.injEq];rfl
theorem juo{α:Type}{a b:List α}(h:¬a.length=b.length):dq a b=false:=jnN.2 λe=>h (by rw[e])
theorem jm2(ts us:Xg)(hl:ts.length<=9223372036854775807)(hlen:ts.length=us.length)(ih:∀t∈ts,∀u∈us,G 27 [tm t,tm u]=some (vb (dq t u),[])) :
  ∀i,i<=ts.length->jsj (tms us) (.fn 27 []) (tms ts) (vi (ts.length:Nat)) (vi i)=some (vb (dq (ts.drop i) (us.drop i)),[]):=by
 refine upto ?_ ?_
 .rw [jxE,List.drop_length,hlen,List.drop_length,jnj];simp only[evz]
 .intro i hi ih';have hlt:(i:Int)<((ts.length:Nat):Int):=by omega
  have hi2:i<us.length:=by omega
  have h5:=jeN hi hl;have e1:=ih ts[i] (jdM _) us[i] (jdM _);rw[jxE,jcS hi,jcS hi2,jsx];cases hp:dq ts[i] us[i]<;>rw[hp]at e1
  .simp only[evz,hlt,jay hi,jay hi2,jbK,jjr (f:=27) rfl,KO,e1,Bool.false_and]
  .simp only[evz,hlt,jay hi,jay hi2,jbK,jjr (f:=27) rfl,KO,e1,h5,ih',Bool.true_and]
theorem jin:∀s:T,twf s-> ∀t:T,twf t->G 27 [tm s,tm t]=some (vb (dq s t),[]):=by
 refine T.ind λs ih hw t hw'=>?_;obtain⟨w1,w2,w3⟩:=(jgC s).1 hw;have w3:=(jfY _).1 w3;obtain⟨v1,v2,v3⟩:=(jgC t).1 hw';have v3:=(jfY _).1 v3;rw[g27,jyj];by_cases hn:s.name=t.name
 .have e:G 54 [tms s.args,tms t.args,.fn 27 []]=some (vb (dq s.args t.args),[]):=by
   rw[g54];by_cases hlen:s.args.length=t.args.length
   .have key:=jm2 s.args t.args w2 hlen (λa ha b hb=>ih a ha (w3 a ha) b (v3 b hb)) 0 (Nat.zero_le _);simp only[Int.natCast_zero,List.drop_zero]at key;rw[hlen]at key;simp only[evz,hlen,key]
   .have hlen':¬((s.args.length:Nat):Int)=((t.args.length:Nat):Int):=by omega
    simp only[evz,hlen',juo hlen]
  simp only[evz,hn,e,Bool.true_and]
 .simp only[evz,hn,Bool.false_and]
theorem jqB(n m:Xb)(ts us:Xg)(hl:ts.length<=9223372036854775807)(hlen:ts.length=us.length)(ih:∀t∈ts,∀u∈us,G 19 [tm t,tm u]=some (vb (dq t u),[])) :
  ∀i,i<=ts.length->jr6 (vi i) (sv n) (tms ts) (sv m) (tms us)=some (vb (dq (ts.drop i) (us.drop i)),[]):=by
 refine upto ?_ ?_
 .rw [jxl,List.drop_length,hlen,List.drop_length,jnj];simp only[evz,hlen]
 .intro i hi ih';have hlt:(i:Int)<((ts.length:Nat):Int):=by omega
  have hi2:i<us.length:=by omega
  have h5:=jeN hi hl;have e1:=ih ts[i] (jdM _) us[i] (jdM _);rw[jxl,jcS hi,jcS hi2,jsx];cases hp:dq ts[i] us[i]<;>rw[hp]at e1
  .simp only[evz,hlt,jay hi,jay hi2,jbK,e1,Bool.false_and]
  .simp only[evz,hlt,jay hi,jay hi2,jbK,e1,h5,ih',Bool.true_and]
theorem jjj:∀s:T,twf s-> ∀t:T,twf t->G 19 [tm s,tm t]=some (vb (dq s t),[]):=by
 refine T.ind λs ih hw t hw'=>?_;obtain⟨w1,w2,w3⟩:=(jgC s).1 hw;have w3:=(jfY _).1 w3;obtain⟨v1,v2,v3⟩:=(jgC t).1 hw';have v3:=(jfY _).1 v3;rw[g19,jyj];by_cases hn:s.name=t.name
 .by_cases hlen:s.args.length=t.args.length
  .have key:=jqB t.name t.name s.args t.args w2 hlen (λa ha b hb=>ih a ha (w3 a ha) b (v3 b hb)) 0 (Nat.zero_le _);simp only[Int.natCast_zero,List.drop_zero]at key;simp only[evz,hn,hlen,key,Bool.true_and]
  .have hlen':¬((s.args.length:Nat):Int)=((t.args.length:Nat):Int):=by omega
   simp only[evz,hn,hlen',juo hlen,Bool.and_false]
 .simp only[evz,hn,Bool.false_and]
def rk(o:Ord')(t:T):Int:=jid 0 (jiE t.name o.syms)
def jkV(a b:Int):Int:=if a<b then -1 else if b<a then 1 else 0
def jhN(o:Ord')(s t:T):Int:=if rk o s=rk o t then jkV (s.args.length:Nat) (t.args.length:Nat)else jkV (rk o s) (rk o t)
theorem jw0(o:Ord')(s t:T)(ho:o.syms.length<=9223372036854775807):G 122 [od o,tm s,tm t]=some (vi (jhN o s t),[]):=by
 have e1:=jno o s.name ho;have e2:=jno o t.name ho;rw[jAH];by_cases h:rk o s=rk o t
 .have h':jid 0 (jiE s.name o.syms)=jid 0 (jiE t.name o.syms):=h;by_cases h1:((s.args.length:Nat):Int)<((t.args.length:Nat):Int)
  .simp only[evz,e1,e2,h',jhN,rk,jkV,h1]
  .by_cases h2:((t.args.length:Nat):Int)<((s.args.length:Nat):Int)
   .simp only[evz,e1,e2,h',jhN,rk,jkV,h1,h2]
   .simp only[evz,e1,e2,h',jhN,rk,jkV,h1,h2]
 .have h':¬jid 0 (jiE s.name o.syms)=jid 0 (jiE t.name o.syms):=h;by_cases h1:jid 0 (jiE s.name o.syms)<jid 0 (jiE t.name o.syms)
  .simp only[evz,e1,e2,h',jhN,rk,jkV,h1]
  .by_cases h2:jid 0 (jiE t.name o.syms)<jid 0 (jiE s.name o.syms)
   .simp only[evz,e1,e2,h',jhN,rk,jkV,h1,h2]
   .simp only[evz,e1,e2,h',jhN,rk,jkV,h1,h2]
theorem jqS(o:Ord')(s t:T)(ho:o.syms.length<=9223372036854775807):G 142 [od o,tm s,tm t]=some (vb (decide (jhN o s t<0)),[]):=by
 have e1:=jkE o.syms s.name ho;have e2:=jkE o.syms t.name ho;rw[jAP];by_cases h:rk o s=rk o t
 .have h':jid 0 (jiE s.name o.syms)=jid 0 (jiE t.name o.syms):=h;by_cases h1:((s.args.length:Nat):Int)<((t.args.length:Nat):Int)
  .simp only[evz,e1,e2,h',jhN,rk,jkV,h1]
  .by_cases h2:((t.args.length:Nat):Int)<((s.args.length:Nat):Int)
   .simp only[evz,e1,e2,h',jhN,rk,jkV,h1,h2];rfl
   .simp only[evz,e1,e2,h',jhN,rk,jkV,h1,h2]
 .have h':¬jid 0 (jiE s.name o.syms)=jid 0 (jiE t.name o.syms):=h;by_cases h1:jid 0 (jiE s.name o.syms)<jid 0 (jiE t.name o.syms)
  .simp only[evz,e1,e2,h',jhN,rk,jkV,h1]
  .have h2:jid 0 (jiE t.name o.syms)<jid 0 (jiE s.name o.syms):=by omega
   simp only[evz,e1,e2,h',jhN,rk,jkV,h1,h2];rfl
noncomputable def fd:Xg->Xg->Option (T×T)
 |a::l,b::r=>if dq a b=true then fd l r else some (a,b)
 |_,_=>none
theorem jpw:∀{l r:Xg}{a b:T},fd l r=some (a,b)->a∈l/\b∈r
 | [],_,_,_,h=>by simp[fd]at h
 |_::_,[],_,_,h=>by simp[fd]at h
 |x::l,y::r,a,b,h=>by
  simp only[fd]at h;split at h
  .have:=jpw h;exact⟨by simp[this.1],by simp[this.2]⟩
  .cases h;exact⟨by simp,by simp⟩
theorem jux(s t:T)(hw:twf s)(hw':twf t)(hlen:s.args.length=t.args.length) :
  (fd s.args t.args=none/\G 123 [tm s,tm t]=some (vi (-1),[]))\/ ∃(k:Nat)(h1:k<s.args.length)(h2:k<t.args.length),fd s.args t.args=some (s.args[k],t.args[k])/\G 123 [tm s,tm t]=some (vi k,[]):=by
 obtain⟨w1,w2,w3⟩:=(jgC s).1 hw;have w3:=(jfY _).1 w3;obtain⟨v1,v2,v3⟩:=(jgC t).1 hw';have v3:=(jfY _).1 v3;have key:=upto (P:=λi=>(fd (s.args.drop i) (t.args.drop i)=none/\jnx (vi i) (sv s.name) (tms s.args) (sv t.name) (tms t.args)=some (vi (-1),[]))\/ ∃(k:Nat)(h1:k<s.args.length)(h2:k<t.args.length),fd (s.args.drop i) (t.args.drop i)=some (s.args[k],t.args[k])/\jnx (vi i) (sv s.name) (tms s.args) (sv t.name) (tms t.args)=some (vi k,[])) (n:=s.args.length) ?_ ?_ 0 (Nat.zero_le _)
 .simp only[Int.natCast_zero,List.drop_zero]at key;rw[jAI];rcases key with⟨h1,h2⟩|⟨k,h1,h2,h3,h4⟩
  .exact Or.inl ⟨h1,by simp only[evz,h2]⟩
  .exact Or.inr ⟨k,h1,h2,h3,by simp only[evz,h4]⟩
 .left;rw[juJ,List.drop_length];refine⟨by simp[fd],?_⟩;simp only[evz]
 .intro i hi ih;have hlt:(i:Int)<((s.args.length:Nat):Int):=by omega
  have hi2:i<t.args.length:=by omega
  have h5:=jeN hi w2;have e1:=jjj s.args[i] (w3 _ (jdM _)) t.args[i] (v3 _ (jdM _));rw[juJ,jcS hi,jcS hi2,fd];cases hp:dq s.args[i] t.args[i]<;>rw[hp]at e1
  .refine Or.inr ⟨i,hi,hi2,by simp,?_⟩;simp only[evz,hlt,jay hi,jay hi2,jbK,e1]
  .simp only[evz,hlt,jay hi,jay hi2,jbK,e1,h5];exact ih
def zT:A:= .agg [sv [],.sl 2 []]
noncomputable def fdR(s t:T):A:=match fd s.args t.args with|some (a,b)=>.tup [tm a,tm b,vb true]|none=>.tup [zT,zT,vb false]
theorem jmc(s t:T)(hw:twf s)(hw':twf t)(hn:s.name=t.name)(hlen:s.args.length=t.args.length):G 143 [tm s,tm t]=some (fdR s t,[]):=by
 obtain⟨w1,w2,w3⟩:=(jgC s).1 hw;have w3:=(jfY _).1 w3;obtain⟨v1,v2,v3⟩:=(jgC t).1 hw';have v3:=(jfY _).1 v3;have key:=upto (P:=λi=>jpo (tms s.args) (vi (s.args.length:Nat)) (vi i) (sv t.name) (tms t.args) (sv []) (sv []) [] []=some ((match fd (s.args.drop i) (t.args.drop i)with|some (a,b)=>.tup [tm a,tm b,vb true]|none=>.tup [zT,zT,vb false]),[])) (n:=s.args.length) ?_ ?_ 0 (Nat.zero_le _)
 .simp only[Int.natCast_zero,List.drop_zero]at key;rw[jzt,fdR];simp only[hlen]at key;simp only[evz,hn,hlen,key]
 .rw [juP,List.drop_length];simp only[evz,fd,zT]
 .intro i hi ih;have hlt:(i:Int)<((s.args.length:Nat):Int):=by omega
  have hi2:i<t.args.length:=by omega
  have h5:=jeN hi w2;have e1:=jin s.args[i] (w3 _ (jdM _)) t.args[i] (v3 _ (jdM _));rw[juP,jcS hi,jcS hi2,fd];cases hp:dq s.args[i] t.args[i]<;>rw[hp]at e1
  .simp only[evz,hlt,jay hi,jay hi2,jbK,e1]
  .simp only[evz,hlt,jay hi,jay hi2,jbK,e1,h5,ih]
theorem jmd(s t:T)(h:¬(s.name=t.name/\s.args.length=t.args.length)):G 143 [tm s,tm t]=some (.tup [zT,zT,vb false],[]):=by
 rw[jzt];by_cases hn:s.name=t.name
 .have hlen':¬((s.args.length:Nat):Int)=((t.args.length:Nat):Int):=λe=>h ⟨hn,by omega⟩;simp only[evz,hn,hlen',zT]
 .simp only[evz,hn,zT]
noncomputable def jtm(o:Ord'):Nat->T->T->Bool
 |0,_,_=>false
 |n+1,s,t=>if jcE s.name then false else if(s.args.any λa=>dq a t || jtm o n a t)then true else if jcE t.name then false
   else if(t.args.any λb=> !jtm o n s b)then false else if 0<jhN o s t then true else if jhN o s t<0 then false
   else match fd s.args t.args with|some (a,b)=>jtm o n a b|none=>false
theorem jyJ{o:Ord'}{s t:T}(h1:o.syms.contains s.name=true)(h2:o.syms.contains t.name=true)(h:rk o s=rk o t):s.name=t.name:=by
 obtain⟨k,hk,_⟩:=jma h1;obtain⟨j,hj,_⟩:=jma h2;have a1:=(jnk hk).2;have a2:=(jnk hj).2;simp only[rk,hk,hj,jid,jbz]at h;have:k=j:=by omega
 subst this;rw[a1]at a2;exact jbB a2
theorem jrR(o:Ord')(s t:T):jhN o t s = - jhN o s t:=by
 unfold jhN;by_cases h:rk o s=rk o t
 .rw [jc6 h,jc6 h.symm];unfold jkV;split<;>split<;>(try split)<;>omega
 .rw [ko h,ko (Ne.symm h)];unfold jkV;split<;>split<;>(try split)<;>omega
def jkZ(e g l:Bool):Int:=if e then 1 else if g then 2 else if l then 3 else 0
theorem jth(e g l:Bool):G 89 [vb e,vb g,vb l]=some (vi (jkZ e g l),[]):=by
 rw[g89];cases e<;>cases g<;>cases l<;>simp only[evz,jkZ]
theorem jn4{f g:FuncId}{caps caps':Xd}(hf:K.pureF f=true)(hg:K.pureF g=true)(e gr le:Bool)(h1:G f caps=some (vb gr,[]))(h2:G g caps'=some (vb le,[])) :
  G 104 [vb e,.fn f caps,.fn g caps']=some (vi (jkZ e gr le),[]):=by
 rw[jAv];cases e<;>cases gr<;>cases le<;>simp only[evz,jjr hf,jjr hg,jY,h1,h2,jkZ]
noncomputable def jyg(o:Ord')(s t:T):Int:=jkZ (dq s t) (jtm o (nodes s+nodes t) s t) (jtm o (nodes s+nodes t) t s)
noncomputable def jyi(o:Ord')(s t:T):A:=if jiu o && (jlK o s && jlK o t)then .tup [vi (jyg o s t),vb true]else .tup [vi 0,vb false]
theorem jqE{left:Int}{n:Nat}(h0:0<=left)(h1:left<=1048576)(h:¬jiw left (n:Int)<0):0<=jiw left (n:Int)/\jiw left (n:Int)<=1048576/\n<=1048576:=by
 unfold jiw at h⊢;split at h
 .rename_i hc;rw[jc6 hc];omega
 .exact absurd jsN h
mutual
def jhn:T->Xa
 |.mk n us=>if jcE n then[n]else jic us
def jic:Xg->Xa
 | []=>[]
 |t::ts=>jhn t++jic ts
end
theorem jjW(t:T):jhn t=if jcE t.name then[t.name]else jic t.args:=by cases t;rfl
theorem ji3{n:Nat}(h:n<=4000000):jbb n 16=true:=by
 unfold jbb;simp;omega
def jlY(l:Xa)(vs:Xa)(k:Nat)(r:Xa):Prop:=(∀n,n∈r↔n∈l\/n∈vs)/\r.length<=l.length+k
theorem jow(ts:Xg)(hl:ts.length<=9223372036854775807)(hn:jct ts<=1048577)(ih:∀t∈ts,∀l:Xa,l.length+nodes t<=2100000-> ∃r,jlW (sv t.name) (tms t.args) (l.map cs)=some (.top,[strs r])/\jlY l (jhn t) (nodes t) r) :
  ∀i,i<=ts.length-> ∀l:Xa,l.length+jct (ts.drop i)<=2100000-> ∃r,jl3 (tms ts) (vi (ts.length:Nat)) (vi i) (l.map cs)=some (.top,[strs r])/\jlY l (jic (ts.drop i)) (jct (ts.drop i)) r:=by
 refine upto ?_ ?_
 .intro l hb;rw[jmf,List.drop_length];refine⟨l,?_,by simp[jic],by omega⟩;simp only[evz]
 .intro i hi ih' l hb;have hlt:(i:Int)<((ts.length:Nat):Int):=by omega
  have h5:=jeN hi hl;rw[jcS hi]at hb⊢;simp only[jct,jic]at hb⊢;obtain⟨r1,e1,c1,c2⟩:=ih ts[i] (jdM _) l (by omega);obtain⟨r2,e2,d1,d2⟩:=ih' r1 (by omega);rw[jmf];refine⟨r2,?_,?_,by omega⟩
  .simp only[evz,hlt,jay hi,jbK,e1,h5,e2]
  .intro n;rw[d1,c1,YW];exact or_assoc
theorem jru:∀t:T,twf t->okT t=true->nodes t<=1048577-> ∀l:Xa,l.length+nodes t<=2100000-> ∃r,jlW (sv t.name) (tms t.args) (l.map cs)=some (.top,[strs r])/\jlY l (jhn t) (nodes t) r:=by
 refine T.ind λt ih hw hk hn l hb=>?_;obtain⟨w1,w2,w3⟩:=(jgC t).1 hw;have w3:=(jfY _).1 w3;have hks:=jhU hk;have e1:=jk7 t hk;rw[jxc,jjW];have hpos:=jiG t;rw[jeU]at hn hb⊢;cases hv:jcE t.name<;>rw[hv]at e1
 .
  have ih':∀u∈t.args,∀l:Xa,l.length+nodes u<=2100000-> ∃r,jlW (sv u.name) (tms u.args) (l.map cs)=some (.top,[strs r])/\jlY l (jhn u) (nodes u) r:=λu hu=>ih u hu (w3 u hu) (hks u hu) (by have:=jis hu;omega)
  have loop:=jow t.args w2 (by omega) ih';have start:∃r,jl2 (tms t.args) (vi (t.args.length:Nat)) (vi 0) (l.map cs)=some (.top,[strs r])/\jlY l (jic t.args) (jct t.args) r:=by
   rw[jsG];by_cases h0:t.args.length=0
   .have ha:t.args=[]:=List.length_eq_zero_iff.1 h0;rw[ha];refine⟨l,?_,by simp[jic],by simp[jct]⟩;simp only[evz];rfl
   .have hi:0<t.args.length:=by omega
    have hlt:(0:Int)<((t.args.length:Nat):Int):=by omega
    have hix:zP 2 (tms t.args) (vi 0)=some (.elt (jbL t.args[0]) 0):=jay (i:=0) hi;have h5:jgm .add false (vi 0) (vi 1)=some (vi ((1:Nat):Int)):=by rw[jjR,jht (by decide) (by decide)];rfl
    have hd:t.args=t.args[0]::t.args.drop 1:=by have:=jcS hi;simpa using this
    have hns:jct t.args=nodes t.args[0]+jct (t.args.drop 1):=by conv=>lhs;rw[hd,jct]
    have hvs:jic t.args=jhn t.args[0]++jic (t.args.drop 1):=by conv=>lhs;rw[hd,jic]
    obtain⟨r1,e1,c1,c2⟩:=ih' t.args[0] (jdM _) l (by omega);obtain⟨r2,e2,d1,d2⟩:=loop 1 (by omega) r1 (by omega);refine⟨r2,?_,?_,by omega⟩
    .simp only[evz,hlt,hix,jbK,e1,h5,e2]
    .intro n;rw[d1,c1,hvs,YW];exact or_assoc
  obtain⟨r,e2,d1,d2⟩:=start;refine⟨r,?_,by simpa using d1,by omega⟩;cases h0:decide (((t.args.length:Nat):Int)=0)
  .simp only[evz,h0,e2]
  .simp only[evz,h0,e1,e2]
 .have ha:t.args=[]:=by
   rw[jiH,hv]at hk;simpa using hk
  have h0:decide (((t.args.length:Nat):Int)=0)=true:=by rw[ha];rfl
  have e3:=jjn l t.name (by omega);cases hc:l.contains t.name<;>rw[hc]at e3
  .have hf:jbb (l.length+1) 16=true:=ji3 (by omega);refine⟨l++[t.name],?_,by simp,by simp⟩;have happ:jgs (l.map cs) [[sv t.name]]=(l++[t.name]).map cs:=by simp[jgs]
   simp only[evz,h0,e1,e3,hf,happ]
  .refine ⟨l,?_,λn=>⟨λh=>Or.inl h,λh=>by
    rcases h with h|h
    .exact h
    .simp at h;subst h;simpa using hc⟩,by omega⟩
   simp only[evz,h0,e1,e3]
theorem jmu(t:T)(hw:twf t)(hk:okT t=true)(hn:nodes t<=1048577):∃r,G 139 [tm t]=some (strs r,[])/\(∀n,n∈r↔n∈jhn t)/\r.length<=9223372036854775807:=by
 obtain⟨r,e1,c1,c2⟩:=jru t hw hk hn [] (by simp;omega)
 have e2:jp0 (r.map cs)=some (.top,[strs (kZ r)]):=by
  rw[jxd];simp only[jeD,jck];rw[jc6 (by simp at c2;omega)]
 refine⟨kZ r,?_,λn=>?_,by simp[kZ];simp at c2;omega⟩
 .rw [jAM];simp only[List.map_nil]at e1;simp only[evz,e1,e2]
 .unfold kZ;rw[List.mem_mergeSort,c1];simp
mutual
def cnt(n:Xb):T->Nat
 |.mk m us=>(if m=n then 1 else 0)+jjG n us
def jjG(n:Xb):Xg->Nat
 | []=>0
 |t::ts=>cnt n t+jjG n ts
end
theorem jmA(n:Xb)(t:T):cnt n t=(if t.name=n then 1 else 0)+jjG n t.args:=by cases t;rfl
theorem jyh(n:Xb):∀t:T,cnt n t<=nodes t:=by
 refine T.ind λt ih=>?_;have:∀ts:Xg,(∀u∈ts,cnt n u<=nodes u)->jjG n ts<=jct ts:=by
  intro ts;induction ts with
  |nil=>intro _;simp[jjG]
  |cons u us ih=>
   intro h;have h1:=h u (by simp);have h2:=ih λv hv=>h v (by simp[hv]);simp only[jjG,jct];omega
 have h:=this t.args ih;rw[jmA,jeU];split<;>omega
theorem jsv(n:Xb)(ts:Xg):jjG n ts<=jct ts:=by
 induction ts with
 |nil=>simp[jjG]
 |cons u us ih=>have:=jyh n u;simp only[jjG,jct];omega
theorem jnK(n:Xb)(ts:Xg)(hl:ts.length<=9223372036854775807)(hn:jct ts<=1048577)(ih:∀t∈ts,G 140 [tm t,sv n]=some (vi (cnt n t:Nat),[])) :
  ∀i,i<=ts.length-> ∀a:Nat,a+jjG n (ts.drop i)<=1048579->jnz (sv n) (vi a) (tms ts) (vi (ts.length:Nat)) (vi i)=some (vi ((a+jjG n (ts.drop i):Nat):Int),[]):=by
 refine upto ?_ ?_
 .intro a ha;rw[juN,List.drop_length];simp only[evz,jjG,zH]
 .intro i hi ih' a ha;have hlt:(i:Int)<((ts.length:Nat):Int):=by omega
  have h5:=jeN hi hl;have e1:=ih ts[i] (jdM _);rw[jcS hi]at ha⊢;simp only[jjG]at ha⊢;have hk:ck ((a:Int)+((cnt n ts[i]:Nat):Int))=some (vi ((a+cnt n ts[i]:Nat):Int)):=by rw[jht (by omega) (by omega)];rfl
  have ih':=ih' (a+cnt n ts[i]) (by omega);rw[juN];simp only[evz,hlt,jay hi,jbK,e1,hk,h5,ih',jbI]
theorem jjd(n:Xb):∀t:T,twf t->nodes t<=1048577->G 140 [tm t,sv n]=some (vi (cnt n t:Nat),[]):=by
 refine T.ind λt ih hw hn=>?_;obtain⟨w1,w2,w3⟩:=(jgC t).1 hw;have w3:=(jfY _).1 w3;rw[jeU]at hn;have hc:=jsv n t.args;have key:=λa h=>jnK n t.args w2 (by omega) (λu hu=>ih u hu (w3 u hu) (by have:=jis hu;omega)) 0 (Nat.zero_le _) a h;simp only[Int.natCast_zero,List.drop_zero]at key;rw[jAN,jmA];by_cases h:t.name=n
 .have key:=key 1 (by omega);simp only[Int.natCast_one]at key;simp only[evz,h,key]
 .have key:=key 0 (by omega);simp only[Int.natCast_zero]at key;simp only[evz,h,key]
theorem jpC(m n:Xb)(ts:Xg)(hl:ts.length<=9223372036854775807)(hn:jct ts<=1048577)(ih:∀t∈ts,G 148 [tm t,sv n]=some (vi (cnt n t:Nat),[])) :
  ∀i,i<=ts.length-> ∀a:Nat,a+jjG n (ts.drop i)<=1048579->jnA (sv n) (vi a) (vi i) (sv m) (tms ts)=some (vi ((a+jjG n (ts.drop i):Nat):Int),[]):=by
 refine upto ?_ ?_
 .intro a ha;rw[juR,List.drop_length];simp only[evz,jjG,zH]
 .intro i hi ih' a ha;have hlt:(i:Int)<((ts.length:Nat):Int):=by omega
  have h5:=jeN hi hl;have e1:=ih ts[i] (jdM _);rw[jcS hi]at ha⊢;simp only[jjG]at ha⊢;have hk:ck ((a:Int)+((cnt n ts[i]:Nat):Int))=some (vi ((a+cnt n ts[i]:Nat):Int)):=by rw[jht (by omega) (by omega)];rfl
  have ih':=ih' (a+cnt n ts[i]) (by omega);rw[juR];simp only[evz,hlt,jay hi,jbK,e1,hk,h5,ih',jbI]
theorem jnX(n:Xb):∀t:T,twf t->nodes t<=1048577->G 148 [tm t,sv n]=some (vi (cnt n t:Nat),[]):=by
 refine T.ind λt ih hw hn=>?_;obtain⟨w1,w2,w3⟩:=(jgC t).1 hw;have w3:=(jfY _).1 w3;rw[jeU]at hn;have hc:=jsv n t.args;have key:=λa h=>jpC t.name n t.args w2 (by omega) (λu hu=>ih u hu (w3 u hu) (by have:=jis hu;omega)) 0 (Nat.zero_le _) a h;simp only[Int.natCast_zero,List.drop_zero]at key;rw[jAR,jmA];by_cases h:t.name=n
 .have key:=key 1 (by omega);simp only[Int.natCast_one]at key;rw[h]at key;simp only[evz,h,key]
 .have key:=key 0 (by omega);simp only[Int.natCast_zero]at key;simp only[evz,h,key]
theorem juT(l:Xa)(s:Xb)(hl:l.length<=2100000):∃r,G 86 [strs l,sv s]=some (strs r,[])/\jlY l [s] 1 r:=by
 have key:=upto (P:=λi=>∃r,jqb (strs l) (sv s) (vi i)=some (strs r,[])/\jlY l [s] 1 r) (n:=l.length) ?_ ?_ 0 (Nat.zero_le _)
 .simp only[Int.natCast_zero]at key;rw[g86];exact key
 .have hx:¬((l.length:Nat):Int)<((l.length:Nat):Int):=Int.lt_irrefl _;have s1:K4 1 (strs l) none (some (vi (l.length:Nat)))=some (strs l):=by rw[jju (by simp),jQ (by simp)]
  have s2:K4 1 (strs l) (some (vi (l.length:Nat))) none=some (.sl 1 []):=by rw[jja (by simp),List.drop_of_length_le (by simp)]
  have f1:jbb l.length 16=true:=ji3 (by omega);have f2:jbb (l.length+1) 16=true:=ji3 (by omega);have happ:jgs (jgs (l.map cs) [[sv s]]) []=(l++[s]).map cs:=by simp[jgs]
  have hlen:(jgs (l.map cs) [[sv s]]).length=l.length+1:=by simp[jgs]
  refine⟨l++[s],?_,by intro n;simp,by simp⟩
  rw[jsK];simp only[evz,hx,s1,s2,f1,f2,hlen,happ,zH]
 .intro i hi ih;have hlt:(i:Int)<((l.length:Nat):Int):=by omega
  have h5:=jeN hi (by omega);rw[jsK];cases h1:sLt l[i] s
  .by_cases h2:l[i]=s
   .refine ⟨l,?_,λn=>⟨λh=>Or.inl h,λh=>by
     rcases h with h|h
     .exact h
     .simp at h;rw[h,<-h2];exact jdM _⟩,by omega⟩
    rw[h2]at h1;simp only[evz,hlt,jay hi,h2,h1]
   .have s1:K4 1 (strs l) none (some (vi i))=some (strs (l.take i)):=by rw[jju (by simp;omega),<-List.map_take]
    have s2:K4 1 (strs l) (some (vi i)) none=some (strs (l.drop i)):=by rw[jja (by simp;omega),<-List.map_drop]
    have ht:(l.take i).length=i:=by rw[List.length_take];omega
    have f1:jbb i 16=true:=ji3 (by omega);have f2:jbb (i+1) 16=true:=ji3 (by omega);have f3:jbb (i+1+(l.drop i).length) 16=true:=ji3 (by rw[List.length_drop];omega);have happ:jgs (jgs ((l.take i).map cs) [[sv s]]) ((l.drop i).map cs)=(l.take i++[s]++l.drop i).map cs:=by simp[jgs]
    have hlen:(jgs ((l.take i).map cs) [[sv s]]).length=i+1:=by simp[jgs];omega
    refine⟨l.take i++[s]++l.drop i,?_,λn=>?_,by simp;omega⟩
    .simp only[evz,hlt,jay hi,h1,h2,s1,s2,ht,f1,f2,f3,hlen,happ]
    .have hm:n∈l↔n∈l.take i\/n∈l.drop i:=by rw[<-YW,jbH]
     simp only[YW,j6,hm];exact⟨λh=>by rcases h with(h|h)|h<;>simp[h],λh=>by rcases h with(h|h)|h<;>simp[h]⟩
  .obtain ⟨r,e,c⟩:=ih;refine⟨r,?_,c⟩;simp only[evz,hlt,jay hi,h1,h5,e]
theorem jtf:∀t:T,twf t-> ∀l:Xa,l.length+nodes t<=2100000-> ∃r,G 124 [strs l,tm t]=some (strs r,[])/\jlY l (jhn t) (nodes t) r:=by
 refine T.ind λt ih hw l hb=>?_;obtain⟨w1,w2,w3⟩:=(jgC t).1 hw;have w3:=(jfY _).1 w3;have e1:=jhT t.name w1;rw[jAJ,jjW];rw[jeU]at hb⊢;cases hv:jcE t.name<;>rw[hv]at e1
 .have key:=upto (P:=λi=>∀l:Xa,l.length+jct (t.args.drop i)<=2100000-> ∃r,jpl (strs l) (vi i) (sv t.name) (tms t.args)=some (strs r,[])/\jlY l (jic (t.args.drop i)) (jct (t.args.drop i)) r) (n:=t.args.length) ?_ ?_ 0 (Nat.zero_le _)
  .simp only[Int.natCast_zero,List.drop_zero]at key;obtain⟨r,e,c1,c2⟩:=key l (by omega);refine⟨r,?_,by simpa using c1,by omega⟩;simp only[evz,e1,e]
  .intro l hb;rw[juK,List.drop_length];refine⟨l,?_,by simp[jic],by omega⟩;simp only[evz]
  .intro i hi ih' l hb;have hlt:(i:Int)<((t.args.length:Nat):Int):=by omega
   have h5:=jeN hi w2;rw[jcS hi]at hb⊢;simp only[jct,jic]at hb⊢;obtain⟨r1,a1,c1,c2⟩:=ih t.args[i] (jdM _) (w3 _ (jdM _)) l (by omega);obtain⟨r2,a2,d1,d2⟩:=ih' r1 (by omega);rw[juK];refine⟨r2,?_,?_,by omega⟩
   .simp only[evz,hlt,jay hi,jbK,a1,h5,a2]
   .intro n;rw[d1,c1,YW];exact or_assoc
 .obtain ⟨r,e,c1,c2⟩:=juT l t.name (by omega);refine⟨r,?_,by simpa using c1,by omega⟩;simp only[evz,e1,e]
theorem joT(t:T)(hw:twf t)(hn:nodes t<=1048577):∃r,G 93 [tm t]=some (strs r,[])/\(∀n,n∈r↔n∈jhn t)/\r.length<=9223372036854775807:=by
 obtain⟨r,e,c1,c2⟩:=jtf t hw [] (by simp;omega)
 have e:G 124 [.sl 1 [],tm t]=some (strs r,[]):=e;refine⟨r,?_,λn=>by rw[c1];simp,by simp at c2;omega⟩;rw[g93];simp only[evz,e]
def bal(s t:T):Bool:=(jhn t).all λn=>decide (cnt n t<=cnt n s)
theorem juf{r:Xa}{s t:T}(h:∀n,n∈r↔n∈jhn t):(r.all λn=>decide (cnt n t<=cnt n s))=bal s t:=by
 unfold bal;rw[Bool.eq_iff_iff,jz,jz];exact⟨λa n hn=>a n ((h n).2 hn),λa n hn=>a n ((h n).1 hn)⟩
theorem jqk(s t:T)(hw:twf s)(hw':twf t)(hs:nodes s<=1048577)(ht:nodes t<=1048577):G 120 [tm s,tm t]=some (vb (bal s t),[]):=by
 obtain⟨r,e,c1,c2⟩:=joT t hw' ht;have key:=upto (P:=λi=>jpk (strs r) (vi i) (sv s.name) (tms s.args) (sv t.name) (tms t.args)=some (vb ((r.drop i).all λn=>decide (cnt n t<=cnt n s)),[])) (n:=r.length) ?_ ?_ 0 (Nat.zero_le _)
 .simp only[Int.natCast_zero,List.drop_zero]at key;rw[juf c1]at key;rw[jAF];simp only[evz,e,key]
 .rw [juH,List.drop_length];simp only[evz]
 .intro i hi ih;have hlt:(i:Int)<((r.length:Nat):Int):=by omega
  have h5:=jeN hi c2;have e1:=jnX r[i] s hw hs;have e2:=jnX r[i] t hw' ht;rw[juH,jcS hi,jby];by_cases h:cnt r[i] t<=cnt r[i] s
  .have h':¬((cnt r[i] s:Nat):Int)<((cnt r[i] t:Nat):Int):=by omega
   simp only[evz,hlt,jay hi,e1,e2,h',h,h5,ih,Bool.true_and]
  .have h':((cnt r[i] s:Nat):Int)<((cnt r[i] t:Nat):Int):=by omega
   simp only[evz,hlt,jay hi,e1,e2,h',h,Bool.false_and]
noncomputable def jjx(o:Ord'):Nat->T->T->Bool
 |0,_,_=>false
 |n+1,s,t=>if bal s t then(if wt o s=wt o t then(if jcE s.name || jcE t.name then false else if jhN o s t=0 then(match fd s.args t.args with|some (a,b)=>jjx o n a b|none=>false)else decide (0<jhN o s t))else decide (wt o t<wt o s))else false
theorem jqy{s t a b:T}{n:Nat}(ha:a∈s.args)(hb:b∈t.args)(h:nodes s+nodes t<=n+1):nodes a+nodes b<=n:=by
 have h1:=jis ha;have h2:=jis hb;rw[jeU s,jeU t]at h;omega
theorem jo5{o:Ord'}{s t:T}(h:jhN o s t=0):rk o s=rk o t/\s.args.length=t.args.length:=by
 unfold jhN jkV at h;split at h
 .rename_i h1;refine⟨h1,?_⟩;split at h
  .cases h
  .split at h
   .cases h
   .omega
 .split at h
  .cases h
  .split at h
   .cases h
   .omega
theorem jnZ{o:Ord'}(hv:jiu o=true)(ho:o.syms.length<=9223372036854775807):∀(n:Nat)(s t:T),nodes s+nodes t<=n->twf s->twf t->tsz s<=1048576->tsz t<=1048576->jjh o.syms s=true->jjh o.syms t=true->G 90 [od o,tm s,tm t]=some (vb (jjx o n s t),[])
 |0,s,t,h,_,_,_,_,_,_=>by have:=jiG s;omega
 |n+1,s,t,h,hw,hw',hs,ht,hc,hc'=>by
  obtain⟨w1,w2,w3⟩:=(jgC s).1 hw;have w3:=(jfY _).1 w3;obtain⟨v1,v2,v3⟩:=(jgC t).1 hw';have v3:=(jfY _).1 v3;have hns:=jiF s;have hnt:=jiF t;have e1:=jqk s t hw hw' (by omega) (by omega);have e2:=jmT hv ho s hw hs hc;have e3:=jmT hv ho t hw' ht hc';have e4:=jhT s.name w1;have e5:=jhT t.name v1;have e6:=jw0 o s t ho;have cs1:∀a∈s.args,jjh o.syms a=true:=λa ha=>by rw[ji1,QR]at hc;exact ji8 hc.2 ha
  have cs2:∀a∈t.args,jjh o.syms a=true:=λa ha=>by rw[ji1,QR]at hc';exact ji8 hc'.2 ha
  rw[g90,jjx];cases hb:bal s t<;>rw[hb]at e1
  .simp only[evz,e1]
  by_cases hwt:wt o s=wt o t;rotate_left
  .simp only[evz,e1,e2,e3,hwt]
  cases hv1:jcE s.name<;>rw[hv1]at e4
  rotate_left
  .simp only[evz,e1,e2,e3,hwt,e4,Bool.true_or]
  cases hv2:jcE t.name<;>rw[hv2]at e5
  rotate_left
  .simp only[evz,e1,e2,e3,hwt,e4,e5,Bool.false_or]
  by_cases hr:jhN o s t=0;rotate_left
  .simp only[evz,e1,e2,e3,hwt,e4,e5,e6,hr,Bool.false_or]
  obtain⟨_,hlen⟩:=jo5 hr;rcases jux s t hw hw' hlen with⟨f1,f2⟩|⟨k,k1,k2,f1,f2⟩
  .have:¬(0:Int)<= -1:=by decide
   simp only[evz,e1,e2,e3,hwt,e4,e5,e6,hr,Bool.false_or,f1,f2,this]
  .have m1:=jdM k1;have m2:=jdM k2;have e7:=jnZ hv ho n s.args[k] t.args[k] (jqy m1 m2 h) (w3 _ m1) (v3 _ m2) (by have:=jim m1;rw[jhq]at hs;omega) (by have:=jim m2;rw[jhq]at ht;omega) (cs1 _ m1) (cs2 _ m2);have:(0:Int)<=(k:Int):=by omega
   simp only[evz,e1,e2,e3,hwt,e4,e5,e6,hr,Bool.false_or,f1,f2,this,jay k1,jay k2,jbK,e7]
theorem jrA{o:Ord'}(hv:jiu o=true)(ho:o.syms.length<=9223372036854775807):∀(n:Nat)(s t:T),nodes s+nodes t<=n->twf s->twf t->tsz s<=1048576->tsz t<=1048576->okT s=true->okT t=true->jjh o.syms s=true->jjh o.syms t=true->G 106 [od o,tm s,tm t]=some (vb (jjx o n s t),[])
 |0,s,t,h,_,_,_,_,_,_,_,_=>by have:=jiG s;omega
 |n+1,s,t,h,hw,hw',hs,ht,hk,hk',hc,hc'=>by
  obtain⟨w1,w2,w3⟩:=(jgC s).1 hw;have w3:=(jfY _).1 w3;obtain⟨v1,v2,v3⟩:=(jgC t).1 hw';have v3:=(jfY _).1 v3;have hns:=jiF s;have hnt:=jiF t;have ks:=jhU hk;have ks':=jhU hk';have e2:=jpc hv ho s hw hs hk hc;have e3:=jpc hv ho t hw' ht hk' hc';have e4:=jk7 s hk;have e5:=jk7 t hk';have e6:=jqS o t s ho;rw[jrR]at e6;have cs1:∀a∈s.args,jjh o.syms a=true:=λa ha=>by rw[ji1,QR]at hc;exact ji8 hc.2 ha
  have cs2:∀a∈t.args,jjh o.syms a=true:=λa ha=>by rw[ji1,QR]at hc';exact ji8 hc'.2 ha
  obtain⟨r,er,c1,c2⟩:=jmu t hw' hk' (by omega);have tail:jnu (strs r) (vi (r.length:Nat)) (vi (r.length:Nat)) (strs o.syms) (ints o.ws) (vi o.var) (sv s.name) (tms s.args) (sv t.name) (tms t.args)=some (vb (if wt o s=wt o t then(if jcE s.name || jcE t.name then false else if jhN o s t=0 then(match fd s.args t.args with|some (a,b)=>jjx o n a b|none=>false)else decide (0<jhN o s t))else decide (wt o t<wt o s)),[]):=by
   rw[jrB];by_cases hwt:wt o s=wt o t;rotate_left
   .simp only[evz,e2,e3,hwt]
   have hnlt:¬wt o t<wt o s:=by omega
   cases hv1:jcE s.name<;>rw[hv1]at e4
   rotate_left
   .simp only[evz,e2,e3,hwt,e4,Bool.true_or]
   cases hv2:jcE t.name<;>rw[hv2]at e5
   rotate_left
   .simp only[evz,e2,e3,hwt,e4,e5,Bool.false_or]
   by_cases hr:jhN o s t=0
   .have hr':¬ -jhN o s t<0:=by omega
    obtain⟨hrk,hlen⟩:=jo5 hr;have hcn:o.syms.contains s.name=true:=by rw[ji1,hv1,Bool.false_or,QR]at hc;exact hc.1
    have hcn':o.syms.contains t.name=true:=by rw[ji1,hv2,Bool.false_or,QR]at hc';exact hc'.1
    have e7:=jmc s t hw hw' (jyJ hcn hcn' hrk) hlen;cases hf:fd s.args t.args with
    |none=>
     have:fdR s t = .tup [zT,zT,vb false]:=by unfold fdR;rw[hf]
     rw[this]at e7;simp only[hr]at e6;simp only[evz,e2,e3,hwt,e4,e5,e6,hr,Bool.false_or,e7,zT,Int.neg_zero]
    |some p=>
     obtain⟨a,b⟩:=p;have:fdR s t = .tup [tm a,tm b,vb true]:=by unfold fdR;rw[hf]
     rw[this]at e7;obtain⟨ma,mb⟩:=jpw hf;have e8:=jrA hv ho n a b (jqy ma mb h) (w3 a ma) (v3 b mb) (by have:=jim ma;rw[jhq]at hs;omega) (by have:=jim mb;rw[jhq]at ht;omega) (ks a ma) (ks' b mb) (cs1 a ma) (cs2 b mb);simp only[hr]at e6;simp only[evz,e2,e3,hwt,e4,e5,e6,hr,Bool.false_or,e7,e8,Int.neg_zero]
   .by_cases hg:0<jhN o s t
    .have hg': -jhN o s t<0:=by omega
     simp only[evz,e2,e3,hwt,e4,e5,e6,hr,hg,hg',Bool.false_or]
    .have hg':¬ -jhN o s t<0:=by omega
     have hno:¬(s.name=t.name/\s.args.length=t.args.length):=by
      rintro⟨q1,q2⟩;apply hr;have:rk o s=rk o t:=by unfold rk;rw[q1]
      unfold jhN jkV;rw[jc6 this,q2];simp
     have e7:=jmd s t hno;simp only[evz,e2,e3,hwt,e4,e5,e6,hr,hg,hg',Bool.false_or,e7,zT]
  have key:=upto (P:=λi=>jnu (strs r) (vi (r.length:Nat)) (vi i) (strs o.syms) (ints o.ws) (vi o.var) (sv s.name) (tms s.args) (sv t.name) (tms t.args)=some (vb (if((r.drop i).all λn=>decide (cnt n t<=cnt n s))then(if wt o s=wt o t then(if jcE s.name || jcE t.name then false else if jhN o s t=0 then(match fd s.args t.args with|some (a,b)=>jjx o n a b|none=>false)else decide (0<jhN o s t))else decide (wt o t<wt o s))else false),[])) (n:=r.length) ?_ ?_ 0 (Nat.zero_le _)
  .simp only[Int.natCast_zero,List.drop_zero]at key;rw[juf c1]at key;rw[jzr,jjx];simp only[evz,er];exact key
  .rw [tail,List.drop_length];rfl
  .intro i hi ih;have hlt:(i:Int)<((r.length:Nat):Int):=by omega
   have h5:=jeN hi c2;have a1:=jjd r[i] s hw (by omega);have a2:=jjd r[i] t hw' (by omega);rw[jrB,jcS hi,jby];by_cases hcn:cnt r[i] t<=cnt r[i] s
   .have h':¬((cnt r[i] s:Nat):Int)<((cnt r[i] t:Nat):Int):=by omega
    simp only[evz,hlt,jay hi,a1,a2,h',hcn,h5,ih,Bool.true_and]
   .have h':((cnt r[i] s:Nat):Int)<((cnt r[i] t:Nat):Int):=by omega
    simp only[evz,hlt,jay hi,a1,a2,h',hcn,Bool.false_and]
noncomputable def jkC(o:Ord')(s t:T):Int:=jkZ (dq s t) (jjx o (nodes s+nodes t) s t) (jjx o (nodes s+nodes t) t s)
noncomputable def jkD(o:Ord')(s t:T):A:=if jiu o && (jlK o s && jlK o t)then .tup [vi (jkC o s t),vb true]else .tup [vi 0,vb false]
theorem jm6(o:Ord')(s t:T)(ho:owf o)(hw:twf s)(hs:tsz s<=1048576)(hw':twf t)(hs':tsz t<=1048576):G 60 [od o,tm s,tm t]=some (jkD o s t,[]):=by
 have e1:=jti o ho;have e2:=joW o s ho.1.2 hw hs;have e3:=joW o t ho.1.2 hw' hs';have e4:=jjj s hw t hw';have e7:=jth (dq s t) (jjx o (nodes s+nodes t) s t) (jjx o (nodes s+nodes t) t s);rw[g60,jkD];cases h:jiu o<;>rw[h]at e1
 .simp only[evz,e1,Bool.false_and]
 .cases h2:jlK o s<;>rw[h2]at e2
  .simp only[evz,e1,e2,Bool.and_false,Bool.false_and]
  .cases h3:jlK o t<;>rw[h3]at e3
   .simp only[evz,e1,e2,e3,Bool.and_false]
   .have g2:=joN h2;have g3:=joN h3;have e5:=jnZ h ho.1.2 (nodes s+nodes t) s t (jl _) hw hw' hs hs' g2.2.1 g3.2.1;have e6:=jnZ h ho.1.2 (nodes s+nodes t) t s (by omega) hw' hw hs' hs g3.2.1 g2.2.1;simp only[evz,e1,e2,e3,e4,e5,e6,e7,jkC]
theorem jm1{o:Ord'}(hv:jiu o=true)(s t:T)(ho:owf o)(hw:twf s)(hs:tsz s<=1048576)(hw':twf t)(hs':tsz t<=1048576)(hk:okT s=true)(hk':okT t=true)(hc:jjh o.syms s=true)(hc':jjh o.syms t=true):G 73 [od o,tm s,tm t]=some (vi (jkC o s t),[]):=by
 have e4:=jin s hw t hw';have e5:=jrA hv ho.1.2 (nodes s+nodes t) s t (jl _) hw hw' hs hs' hk hk' hc hc';have e6:=jrA hv ho.1.2 (nodes s+nodes t) t s (by omega) hw' hw hs' hs hk' hk hc' hc;have c1:G 105 [.elt (jpK o) 0,.elt [sv s.name,.sl 2 (s.args.map jbL)] 0,.elt [sv t.name,.sl 2 (t.args.map jbL)] 0]=some (vb (jjx o (nodes s+nodes t) s t),[]):=by
  rw[jzq];simp only[evz,jml,jmm,e5]
 have c2:G 107 [.elt (jpK o) 0,.elt [sv t.name,.sl 2 (t.args.map jbL)] 0,.elt [sv s.name,.sl 2 (s.args.map jbL)] 0]=some (vb (jjx o (nodes s+nodes t) t s),[]):=by
  rw[jzs];simp only[evz,jml,jmm,e6]
 have e7:=jn4 (f:=105) (g:=107) rfl rfl (dq s t) _ _ c1 c2;rw[g73];simp only[evz,e4,e7,jkC]
def jm0(t:T):T:=t.args.getD 0 (.mk [] [])
def jov(t:T):T:=t.args.getD 1 (.mk [] [])
def jkq(t:T):Bool:=decide (t.args.length=2) && (jeO t && (okT (jm0 t) && okT (jov t)))
theorem jjK{t:T}(hl:t.args.length=2):zP 2 (tms t.args) (vi 0)=some (.elt (jbL (jm0 t)) 0)/\zP 2 (tms t.args) (vi 1)=some (.elt (jbL (jov t)) 0)/\jm0 t∈t.args/\jov t∈t.args:=by
 have e0:jm0 t=t.args[0]:=by unfold jm0;simp[jX,hl]
 have e1:jov t=t.args[1]:=by unfold jov;simp[jX,hl]
 rw[e0,e1];exact⟨jay (i:=0) (by omega),jay (i:=1) (by omega),jdM _,jdM _⟩
theorem jlO(t:T)(hw:twf t)(hs:tsz t<=1048576)(he:t.name=[61]):G 29 [tm t]=some (vb (jkq t),[]):=by
 obtain⟨w1,w2,w3⟩:=(jgC t).1 hw;have w3:=(jfY _).1 w3;have het:(t.name=[61])=True:=eq_true he;unfold jkq;rw[g29];by_cases hl:t.args.length=2;rotate_left
 .have hl':¬((t.args.length:Nat):Int)=2:=by omega
  simp only[evz,het,hl',hl,Bool.false_and]
 have hl':((t.args.length:Nat):Int)=2:=by omega
 rw[decide_eq_true hl,Bool.true_and];obtain⟨i0,i1,ma,mb⟩:=jjK hl;have p1:=joS t hw hs;have p2:=jlP _ (w3 _ ma);have p3:=jlP _ (w3 _ mb);cases h1:jeO t<;>rw[h1]at p1
 .simp only[evz,het,hl',p1,Bool.false_and]
 .cases h2:okT (jm0 t)<;>rw[h2]at p2
  .simp only[evz,het,hl',p1,i0,jbK,p2,Bool.false_and,Bool.and_false]
  .simp only[evz,het,hl',p1,i0,i1,jbK,p2,p3,Bool.true_and]
theorem jkf(t:T):G 39 [tm t]=some (vb (decide (t.name=[61])),[]):=by
 rw[g39];simp only[evz]
theorem jkR(t:T)(hw:twf t)(hs:tsz t<=1048576)(he:t.name=[61]):G 40 [tm t]=some (vb (jkq t),[]):=by
 obtain⟨w1,w2,w3⟩:=(jgC t).1 hw;have w3:=(jfY _).1 w3;have q0:=jkf t;rw[decide_eq_true he]at q0;unfold jkq;rw[g40];by_cases hl:t.args.length=2;rotate_left
 .have hl':¬((t.args.length:Nat):Int)=2:=by omega
  simp only[evz,q0,hl',hl,Bool.false_and]
 have hl':((t.args.length:Nat):Int)=2:=by omega
 rw[decide_eq_true hl,Bool.true_and];obtain⟨i0,i1,ma,mb⟩:=jjK hl;have p1:=jkF t hw hs;have p2:=jk4 _ (w3 _ ma);have p3:=jk4 _ (w3 _ mb);cases h1:jeO t<;>rw[h1]at p1
 .simp only[evz,q0,hl',p1,Bool.false_and]
 .cases h2:okT (jm0 t)<;>rw[h2]at p2
  .simp only[evz,q0,hl',p1,i0,jbK,p2,Bool.false_and,Bool.and_false]
  .simp only[evz,q0,hl',p1,i0,i1,jbK,p2,p3,Bool.true_and]
def jBE(o:Ord')(t:T):Bool:=decide (t.name=[61]) && (jkq t && (jjh o.syms (jm0 t) && jjh o.syms (jov t)))
theorem jyO:∀t:T,tsz t<=1048576->twf t:=by
 refine T.ind λt ih h=>?_;have h':=h;rw[jhq]at h';exact(jgC t).2 ⟨by omega,by omega,(jfY _).2 λu hu=>ih u hu (by have:=jim hu;omega)⟩
theorem jrM{n:Nat}(h:n<=4194304):jbb n 40=true:=by
 unfold jbb;exact decide_eq_true ⟨by omega,by omega⟩
theorem jn5(t:T):tsz t<=1048576->G 63 [tm t]=some (tm t,[]):=by
 refine T.ind (p:=λt=>tsz t<=1048576->G 63 [tm t]=some (tm t,[])) ?_ t;intro t ih h;rw[jhq]at h;have key:=(upto (P:=λi=>jsl (vi i) (sv t.name) (tms t.args) (sv []) (sv t.name) [] ((t.args.take i).map jbL)=some (tm t,[])) (n:=t.args.length) ?_ ?_ 0 (Nat.zero_le _))
 .rw [g63];simp only[Int.natCast_zero,List.take_zero,List.map_nil]at key;simp only[evz,key]
 .rw [jxI,List.take_length];simp only[evz]
 .intro i hi ih';have hlt:(i:Int)<((t.args.length:Nat):Int):=by omega
  have h5:=jeN hi (by show t.args.length<=9223372036854775807;omega)
  have e1:=ih t.args[i] (jdM _) (by have:=jim (jdM hi);omega)
  have hf:jbb (i+1) 40=true:=jrM (by omega);have hl:((t.args.take i).map jbL).length=i:=by rw[jbD,List.length_take];omega
  have ha:jgs ((t.args.take i).map jbL) [[sv t.args[i].name,tms t.args[i].args]]=(t.args.take (i+1)).map jbL:=by
   rw[show[sv t.args[i].name,tms t.args[i].args]=jbL t.args[i] from(jf3 _).symm,List.take_add_one,jw hi,jB];rfl
  rw[jxI];simp only[evz,hlt,jay hi,jbK,e1,hl,hf,ha,h5,ih']
theorem jwW(o:Ord')(s t:T):jhN o s t=0↔rk o s=rk o t/\s.args.length=t.args.length:=by
 unfold jhN jkV;constructor
 .intro h;split at h
  .rename_i h1;refine⟨h1,?_⟩;split at h
   .omega
   .split at h<;>omega
  .split at h
   .omega
   .split at h<;>omega
 .rintro ⟨h1,h2⟩;rw[jc6 h1,ko (by omega),ko (by omega)]
theorem jwV(o:Ord')(s:T):jhN o s s=0:=(jwW o s s).2 ⟨rfl,rfl⟩
theorem jsz:∀l:Xg,fd l l=none
 | []=>rfl
 |x::l=>by rw[fd,jc6 (jje.2 rfl),jsz l]
def Lp(o:Ord')(s t:T):Prop:=jtm o (nodes s+nodes t) s t=true
theorem jlo{s a:T}(h:a∈s.args):nodes a<nodes s:=by
 have:=jis h;rw[jeU s];omega
def Kp(o:Ord')(s t:T):Prop:=jjx o (nodes s+nodes t) s t=true
theorem jlN(o:Ord'):∀(n m:Nat)(s t:T),nodes s+nodes t<=n->nodes s+nodes t<=m->jjx o n s t=jjx o m s t
 |0,_,s,t,h,_=>by have:=jiG s;omega
 |_+1,0,s,t,_,h=>by have:=jiG s;omega
 |n+1,m+1,s,t,h1,h2=>by
  rw[jjx,jjx];cases hf:fd s.args t.args with
  |none=>rfl
  |some p=>
   obtain⟨a,b⟩:=p;have hm:=jpw hf;have h3:=jlo hm.1;have h4:=jlo hm.2;simp only[jlN o n m a b (by omega) (by omega)]
theorem jt3(o:Ord')(s t:T):Kp o s t↔bal s t=true/\(wt o t<wt o s\/(wt o s=wt o t/\(jcE s.name=false/\jcE t.name=false)/\(0<jhN o s t\/(jhN o s t=0/\ ∃a b,fd s.args t.args=some (a,b)/\Kp o a b)))):=by
 unfold Kp;obtain⟨n,hn⟩:∃n,nodes s+nodes t=n+1:=⟨nodes s+nodes t-1,by have:=jiG s;omega⟩;rw[hn,jjx];have e3:(match fd s.args t.args with|some (a,b)=>jjx o n a b|none=>false)=true↔ ∃a b,fd s.args t.args=some (a,b)/\jjx o (nodes a+nodes b) a b=true:=by
  cases hf:fd s.args t.args with
  |none=>simp
  |some p=>
   obtain⟨a,b⟩:=p;have hm:=jpw hf;have h3:=jlo hm.1;have h4:=jlo hm.2;dsimp only;rw[jlN o n (nodes a+nodes b) a b (by omega) (jl _)];constructor
   .intro h;exact⟨a,b,rfl,h⟩
   .rintro ⟨a',b',h,h'⟩;cases h;exact h'
 cases hb:bal s t
 .simp
 .rw [jc6 rfl];simp only[true_and];by_cases hw:wt o s=wt o t
  .rw [jc6 hw];have hw':¬wt o t<wt o s:=by omega
   cases hv:jcE s.name
   .cases hv2:jcE t.name
    .simp only[Bool.or_self,KL,if_false,true_and,and_self];by_cases hr:jhN o s t=0
     .rw [jc6 hr];refine Iff.trans e3 ?_;constructor
      .intro h;exact Or.inr ⟨hw,Or.inr ⟨hr,h⟩⟩
      .rintro (h|⟨_,h|⟨_,h⟩⟩)
       .exact (hw' h).elim
       .omega
       .exact h
     .rw [ko hr,decide_eq_true_iff];constructor
      .intro h;exact Or.inr ⟨hw,Or.inl h⟩
      .rintro (h|⟨_,h|⟨h,_⟩⟩)
       .exact (hw' h).elim
       .exact h
       .exact (hr h).elim
    .simp [hw']
   .simp [hw']
  .rw [ko hw,decide_eq_true_iff];constructor
   .intro h;exact Or.inl h
   .rintro (h|⟨h,_⟩)
    .exact h
    .exact (hw h).elim
theorem jvT{n:Xb}(hn:jcE n=true):∀t:T,okT t=true->(n∈jhn t↔1<=cnt n t):=by
 refine T.ind λt ih hk=>?_;have hL:∀ts:Xg,(∀u∈ts,(n∈jhn u↔1<=cnt n u))->(n∈jic ts↔1<=jjG n ts):=by
  intro ts;induction ts with
  |nil=>intro _;simp[jic,jjG]
  |cons u us ih2=>
   intro h;have h1:=h u (by simp);have h2:=ih2 λv hv=>h v (by simp[hv]);simp only[jic,jjG,YW,h1,h2];omega
 have hargs:=hL t.args λu hu=>ih u hu (jhU hk u hu);rw[jjW,jmA];rw[jiH]at hk;cases hv:jcE t.name
 .have hne:t.name≠n:=λe=>by rw[e,hn]at hv;cases hv
  rw[ko Bool.false_ne_true,ko hne,hargs];omega
 .rw [hv,jc6 rfl]at hk;have ha:=List.isEmpty_iff.1 hk;rw[jc6 rfl,j6,ha];by_cases e:t.name=n
  .rw [jc6 e];simp[jjG,e]
  .rw [ko e];simp[jjG];exact λh=>e h.symm
theorem jvU{n:Xb} :∀t:T,n∈jhn t->jcE n=true:=by
 refine T.ind λt ih h=>?_;rw[jjW]at h;cases hv:jcE t.name
 .rw [hv,ko Bool.false_ne_true]at h;have:∀ts:Xg,(∀u∈ts,n∈jhn u->jcE n=true)->n∈jic ts->jcE n=true:=by
   intro ts;induction ts with
   |nil=>intro _ h;simp[jic]at h
   |cons u us ih2=>
    intro h h2;simp only[jic,YW]at h2;rcases h2 with h2|h2
    .exact h u (by simp) h2
    .exact ih2 (λv hv=>h v (by simp[hv])) h2
  exact this t.args ih h
 .rw [hv,jc6 rfl,j6]at h;rw[h];exact hv
theorem jx6(o:Ord')(x:T):¬Kp o x x:=by
 intro h;obtain⟨_,h|⟨_,_,h|⟨_,_,_,h,_⟩⟩⟩:=(jt3 o x x).1 h
 .omega
 .rw [jwV]at h;omega
 .rw [jsz]at h;cases h
theorem jta(o:Ord')(s t:T):jkC o s t=jkZ (dq s t) (@decide (Kp o s t) (Classical.propDecidable _)) (@decide (Kp o t s) (Classical.propDecidable _)):=by
 have e1:jjx o (nodes s+nodes t) s t = @decide (Kp o s t) (Classical.propDecidable _):=by
  unfold Kp;cases jjx o (nodes s+nodes t) s t<;>simp
 have e2:jjx o (nodes s+nodes t) t s = @decide (Kp o t s) (Classical.propDecidable _):=by
  rw[jlN o (nodes s+nodes t) (nodes t+nodes s) t s (by omega) (jl _)];unfold Kp;cases jjx o (nodes t+nodes s) t s<;>simp
 unfold jkC;rw[e1,e2]
def rbI(c:Int):Int:=if c=2 then 3 else if c=3 then 2 else c
open Classical in
open Classical in
theorem jul{R:T->T->Prop}{s t:T}(hir:∀x,¬R x x):jkZ (dq s t) (decide (R s t)) (decide (R t s))=2↔R s t:=by
 unfold jkZ;cases hd:dq s t
 .by_cases h1:R s t
  .simp [h1]
  .by_cases h2:R t s<;>simp[h1,h2]
 .have:=jje.1 hd;subst this;simp[hir s]
theorem jwE(o:Ord')(s t:T):jkC o s t=2↔Kp o s t:=by
 rw[jta];exact jul (R:=Kp o) (jx6 o)
def look:List (Xb×T)->Xb->Option T
 | [],_=>none
 |p::u,n=>if p.1=n then some p.2 else look u n
def jm7(u:List (Xb×T))(n:Xb):T:=(look u n).getD (.mk n [])
mutual
def sub(u:List (Xb×T)):T->T
 |.mk n us=>if jcE n then jm7 u n else .mk n (jtO u us)
def jtO(u:List (Xb×T)):Xg->Xg
 | []=>[]
 |t::ts=>sub u t::jtO u ts
end
theorem jq9(u:List (Xb×T)):∀ts:Xg,jtO u ts=ts.map (sub u)
 | []=>rfl
 |t::ts=>by rw[jtO,jq9 u ts,ky]
theorem jka{u:List (Xb×T)}{t:T}(h:jcE t.name=true):sub u t=jm7 u t.name:=by
 obtain⟨n,us⟩:=t;have h:jcE n=true:=h;show(if jcE n then jm7 u n else T.mk n (jtO u us))=_;rw[jc6 h];rfl
theorem jjp{u:List (Xb×T)}{t:T}(h:jcE t.name=false):sub u t = .mk t.name (t.args.map (sub u)):=by
 obtain⟨n,us⟩:=t;have h:jcE n=false:=h;show(if jcE n then jm7 u n else T.mk n (jtO u us))=_;rw[h,ko Bool.false_ne_true,jq9];rfl
theorem joi{u:List (Xb×T)}{t:T}(h:jcE t.name=false):(sub u t).name=t.name:=by rw[jjp h];rfl
theorem jmq{u:List (Xb×T)}{t:T}(h:jcE t.name=false):(sub u t).args=t.args.map (sub u):=by rw[jjp h];rfl
theorem jkw{t:T}(h:okT t=true)(hv:jcE t.name=true):t.args=[]:=by
 rw[jiH,hv,jc6 rfl]at h;exact List.isEmpty_iff.1 h
def jA4(f:Xb->Int):Xa->Int
 | []=>0
 |x::l=>f x+jA4 f l
theorem jvL{o:Ord'}(hv:jiu o=true){n:Xb}(h:o.syms.contains n=true):o.var<=jm8 o n:=by
 obtain⟨k,hk,hlt⟩:=jma h;obtain⟨h1,h2,h3,h4⟩:=jkb hv;have h5:=h4 k hlt;have hlt':k<o.ws.length:=by omega
 have e:jm8 o n=o.ws.getD k 0:=by simp[jm8,hk]
 rw[e];exact h5.1
theorem jyS{o:Ord'}(hv:jiu o=true){t:T}(hc:jjh o.syms t=true):o.var<=wt o t:=by
 have hc':=hc;rw[ji1,QR]at hc';have hb:=(jkz hv hc'.2).1;rw[jri];cases hn:jcE t.name with
 |true=>simp only[yb];omega
 |false=>
  have hcn:=hc'.1;rw[hn,Bool.false_or]at hcn;have:=jvL hv hcn;simp only[KL,if_false];omega
abbrev bc(p:Xb×T):Xd:=[sv p.1,sv p.2.name,.sl 2 (p.2.args.map jbL)]
abbrev sbs(u:List (Xb×T)):A:= .sl 3 (u.map bc)
abbrev sb(u:List (Xb×T)):A:= .agg [sbs u]
theorem jkL(p:Xb×T):jb6 2 (.elt (bc p) 1)=some (tm p.2):=rfl
def Sz(z:Nat)(u:List (Xb×T)):Prop:=u.length<=z/\ ∀p∈u,p.1.length<=z/\tsz p.2<=z
theorem joU(u:List (Xb×T))(hl:u.length<=1048576)(n:Xb):(look u n=none/\G 66 [sb u,sv n]=some (vi (-1),[]))\/ ∃k,∃h:k<u.length,look u n=some u[k].2/\G 66 [sb u,sv n]=some (vi (k:Nat),[]):=by
 have key:=upto (P:=λi=>(look (u.drop i) n=none/\jp8 (sv n) (vi i) (sbs u)=some (vi (-1),[]))\/ ∃k,∃h:k<u.length,look (u.drop i) n=some u[k].2/\jp8 (sv n) (vi i) (sbs u)=some (vi (k:Nat),[])) (n:=u.length) ?_ ?_ 0 (Nat.zero_le _)
 .rw [g66];exact key
 .left;rw[List.drop_length,jxJ];exact⟨rfl,by simp only[evz]⟩
 .intro i hi ih;have hlt:(i:Int)<((u.length:Nat):Int):=by omega
  have h5:=jeN hi (by show u.length<=9223372036854775807;omega)
  rw[jxJ,jcS hi,look];by_cases he:u[i].1=n
  .right;rw[jc6 he];exact⟨i,hi,rfl,by simp only[evz,hlt,jay hi,he]⟩
  .rw [ko he];rcases ih with⟨h1,h2⟩|⟨k,hk,h1,h2⟩
   .left;exact⟨h1,by simp only[evz,hlt,jay hi,he,h5,h2]⟩
   .right;exact⟨k,hk,h1,by simp only[evz,hlt,jay hi,he,h5,h2]⟩
theorem jkH(u:List (Xb×T))(hu:Sz 1048576 u)(t:T):tsz t<=1048576->G 37 [sb u,tm t]=some (tm (sub u t),[]):=by
 refine T.ind (p:=λt=>tsz t<=1048576->G 37 [sb u,tm t]=some (tm (sub u t),[])) ?_ t;intro t ih hs;have h:=hs;rw[jhq]at h;have e1:=jhT t.name (by show t.name.length<=9223372036854775807;omega);rw[g37];cases hv:jcE t.name<;>rw[hv]at e1
 .have key:=(upto (P:=λi=>jsd (vi i) (sbs u) (sv t.name) (tms t.args) (sv []) (sv t.name) [] (((t.args.map (sub u)).take i).map jbL)=some (tm (sub u t),[])) (n:=t.args.length) ?_ ?_ 0 (Nat.zero_le _))
  .simp only[Int.natCast_zero,List.take_zero,List.map_nil]at key;simp only[evz,e1,key]
  .rw [jxw,jQ (by rw[jbD];omega),jjp hv]
   simp only[evz];rfl
  .intro i hi ih';have hlt:(i:Int)<((t.args.length:Nat):Int):=by omega
   have h5:=jeN hi (by show t.args.length<=9223372036854775807;omega)
   have e2:=ih t.args[i] (jdM _) (by have:=jim (jdM hi);omega)
   have hf:jbb (i+1) 40=true:=jrM (by omega);have hi2:i<(t.args.map (sub u)).length:=by rw[jbD];exact hi
   have hl:(((t.args.map (sub u)).take i).map jbL).length=i:=by rw[jbD,List.length_take,jbD];omega
   have ha:jgs (((t.args.map (sub u)).take i).map jbL) [[sv (sub u t.args[i]).name,tms (sub u t.args[i]).args]]=((t.args.map (sub u)).take (i+1)).map jbL:=by
    rw[show[sv (sub u t.args[i]).name,tms (sub u t.args[i]).args]=jbL (sub u t.args[i]) from(jf3 _).symm,List.take_add_one,jw hi2,jB,List.getElem_map];rfl
   generalize ((t.args.map (sub u)).take i).map jbL=R at *;rw[jxw];simp only[evz,hlt,jay hi,jbK,e2,hl,hf,ha,h5,ih']
 .rw [jka hv,jm7];rcases joU u hu.1 t.name with⟨h1,h2⟩|⟨k,hk,h1,h2⟩
  .rw [h1];simp only[evz,e1,h2];rfl
  .rw [h1];have hm:=hu.2 _ (jdM hk);have e3:=jn5 u[k].2 hm.2;have hk0:(0:Int)<=((k:Nat):Int):=by omega
   simp only[evz,e1,h2,hk0,jay hk,jkL,e3,QU]
abbrev jeM:=List (Xb×T)
mutual
noncomputable def mt(m:jeM)(p:T)(t:T):Option jeM:=
 match p with
 |.mk n us=>if jcE n then(match look m n with|some r=>if dq r t then some m else none|none=>some (m++[(n,t)]))
   else if n=t.name/\us.length=t.args.length then mtL m us t.args else none
termination_by structural p
noncomputable def mtL(m:jeM)(ps:Xg)(ts:Xg):Option jeM:=
 match ps with
 | []=>some m
 |u::us=>(match ts with| []=>some m|t::ts=>(mt m u t).bind λm'=>mtL m' us ts)
termination_by structural ps
end
theorem jjk{u:jeM}{n:Xb} :look u n=none↔ ∀p∈u,p.1≠n:=by
 induction u with
 |nil=>simp[look]
 |cons p u ih=>
  rw[look];by_cases h:p.1=n
  .rw [jc6 h];simp[h]
  .rw [ko h,ih];simp[h]
theorem jkI:∀{u:jeM}{n:Xb}{r:T},look u n=some r->(n,r)∈u
 |p::u,n,r,h=>by
  rw[look]at h;by_cases e:p.1=n
  .rw [jc6 e]at h;cases h;rw[<-e];simp
  .rw [ko e]at h;exact kT _ (jkI h)
def MOk(p:T->Prop)(m:jeM):Prop:=(m.map Prod.fst).Nodup/\(∀q∈m,jcE q.1=true/\p q.2)
theorem MOk.nil(p:T->Prop):MOk p []:=⟨by simp,λq h=>by cases h⟩
def jkg(s:jeM)(n:Xb)(t:T):jeM:=s.takeWhile (λp=>sLt p.1 n)++(n,t)::s.dropWhile (λp=>sLt p.1 n)
def jj1(s:jeM)(n:Xb)(t:T):jeM:=if t.name=n then s else jkg s n t
def jlS(m:jeM):jeM:=m.foldl (λs p=>jj1 s p.1 p.2) []
theorem jlv(a:Xb):sLt a a=false:=by
 unfold sLt;cases h:Op.bytesLess a a with
 |false=>rfl
 |true=>
  exfalso;induction a with
  |nil=>simp[Op.bytesLess]at h
  |cons c r ih=>simp[Op.bytesLess]at h;exact ih h
theorem jvd(n:Xb)(h:jcE n=true):okT (.mk n [])=true:=by rw[jiH];show(if jcE n then _ else _)=true;rw[jc6 h];rfl
theorem jlh{u:jeM}(hu:∀q∈u,okT q.2=true):∀t:T,okT t=true->okT (sub u t)=true:=by
 refine T.ind λt ih hk=>?_;cases hv:jcE t.name with
 |true=>
  rw[jka hv,jm7];cases h:look u t.name with
  |none=>exact jvd _ hv
  |some r=>exact hu _ (jkI h)
 |false=>
  have hk':=hk;rw[jiH,hv,ko Bool.false_ne_true,QR,QR,jjQ]at hk;rw[jiH,joi hv,hv,ko Bool.false_ne_true,jmq hv,QR,QR,jjQ];refine⟨hk.1,by simpa using hk.2.1,?_⟩;rw[List.all_map,jz];intro a ha;exact ih a ha (jz.1 hk.2.2 a ha)
def jhp(r:T):T:=r.args.getD 0 (.mk [] [])
def jii(r:T):T:=r.args.getD 1 (.mk [] [])
noncomputable def jvE:Xg->T->Option T
 | [],_=>none
 |r::rs,t=>(match mt [] (jhp r) t with|some m=>some (sub m (jii r))|none=>jvE rs t)
mutual
noncomputable def jzM(rs:Xg)(root:Bool):T->Option T
 |.mk n us=>(match jxT rs us with|some us'=>some (.mk n us')|none=>if root then jvE rs (.mk n us)else none)
noncomputable def jxT(rs:Xg):Xg->Option Xg
 | []=>none
 |t::ts=>(match jzM rs true t with|some t'=>some (t'::ts)|none=>(jxT rs ts).map (t::·))
end
def atT:Xf->T->T
 | [],t=>t
 |i::p,t=>atT p (t.args.getD i (.mk [] []))
def jhs(s:T):Xf->T->T
 | [],_=>s
 |i::p,t=>.mk t.name (t.args.set i (jhs s p (t.args.getD i (.mk [] []))))
mutual
def jqQ:T->List Xf
 |.mk _ us=>job 0 us++[[]]
def job(i:Nat):Xg->List Xf
 | []=>[]
 |t::ts=>(jqQ t).map (i::·)++job (i+1) ts
end
noncomputable def jA3(rs:Xg)(root:Bool)(t:T)(p:Xf):Option T:=if p=[]/\root=false then none else(jvE rs (atT p t)).map λs=>jhs s p t
def jv6(rs:Xg):Prop:=∀r∈rs,okT (jhp r)=true/\okT (jii r)=true
noncomputable def rwN(rs:Xg)(root:Bool):Nat->Nat->T->Option (T×Nat)
 |0,_,_=>none
 |k+1,n,t=>(match jzM rs root t with
  |none=>some (t,n)
  |some u=>if k=0\/jeO u=false then none else rwN rs root k (n+1) u)
theorem jl9(ts:Xg)(hl:ts.length<=1048576)(ih:∀t∈ts,G 81 [tm t]=some (tm t,[])):jpf (tms ts)=some (.top,[tms ts]):=by
 rw[jyd];by_cases h0:ts.length=0
 .have:ts=[]:=List.length_eq_zero_iff.1 h0;subst this;simp only[evz,Int.natCast_zero];rfl
 have hz:¬((ts.length:Nat):Int)=0:=by omega
 have hm:=jmI (b:=40) (n:=ts.length) (by omega) hl;have key:=(upto (P:=λi=>jlZ (tms ts) (vi (ts.length:Nat)) (vi i) (part jbL [sv [],.sl 2 []] ts i)=some (.top,[tms ts])) (n:=ts.length) ?_ ?_ 0 (Nat.zero_le _))
 .simp only[Int.natCast_zero,<-jmJ]at key;simp only[evz,hz,hm,key]
 .rw [jqA,jn8];simp only[evz]
 .intro i hi ih';have hlt:(i:Int)<((ts.length:Nat):Int):=by omega
  have h1:=jlf (f:=jbL) (z:=[sv [],.sl 2 []]) (Nat.le_of_lt hi);have h2:pIx (part jbL [sv [],.sl 2 []] ts i).length (vi i)=some i:=jit (by omega);have h4:=joa (f:=jbL) (z:=[sv [],.sl 2 []]) hi;rw[jf3]at h4;have h5:=jeN hi (ZF hl (by decide));have e1:G 81 [A.agg [sv ts[i].name,tms ts[i].args]]=_:=ih ts[i] (jdM _);rw[jqA];simp only[evz,hlt,jay hi,jbK,e1,h2,jn9 hi,jnh,h4,h5,ih']
theorem jk1(t:T):tsz t<=1048576->G 81 [tm t]=some (tm t,[]):=by
 refine T.ind (p:=λt=>tsz t<=1048576->G 81 [tm t]=some (tm t,[])) ?_ t;intro t ih h;rw[jhq]at h;have e1:=jl9 t.args (by omega) λu hu=>ih u hu (by have:=jim hu;omega);rw[g81];simp only[evz,e1]
theorem jwR{n:Nat}(h:n<=4194304):jbb n 56=true:=by
 unfold jbb;exact decide_eq_true ⟨by omega,by omega⟩
def MR(o:Xe)(r:Option jeM):Prop:=match r with
 |some m'=>o=some (.top,[vb true,.sl 259 (m'.map bc)])
 |none=>∃R,o=some (.top,[vb false,.sl 259 R])
theorem jvs{m:jeM}{i:Nat}(hi:i<m.length):jfV (m.map bc) i 0=some (sv m[i].1):=by unfold jfV;simp[hi]
def Tz(t:T):Prop:=tsz t<=1048576
theorem Tz.args{t:T}(h:Tz t):∀u∈t.args,Tz u:=λu hu=>by
 have:=jim hu;unfold Tz at h⊢;rw[jhq]at h;omega
theorem Tz.wf{t:T}(h:Tz t):twf t:=jyO t h
abbrev kv(p:Xb×T):Xd:=[sv p.1,tm p.2]
theorem jyk(a b:Xb):eqK none (sv a) (sv b)=some (decide (a=b)):=by show some (decide (bs _=bs _))=_;refine congrArg some (decide_eq_decide.2 ?_);simp
def MI(o:Xe)(r:Option jeM):Prop:=match r with
 |some m'=>o=some (.top,[vb true,.sl 128 (m'.map kv)])
 |none=>∃R,o=some (.top,[vb false,.sl 128 R])
end Go.Proofs.YtocncngbocomhaaGreatDoor
