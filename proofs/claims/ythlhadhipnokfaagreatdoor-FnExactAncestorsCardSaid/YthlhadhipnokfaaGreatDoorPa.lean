/- Pa -/
import Derived.Test.YthlhadhipnokfaaGreatDoorKt
import Derived.Test.YthlhadhipnokfaaGreatDoorPq
import Derived.Test.YthlhadhipnokfaaGreatDoorEd
import Derived.ChangeSame
namespace Go.Proofs.YthlhadhipnokfaaGreatDoor
open Go Go.RowKit Go.Proofs.YthlhadhipnokfaaGreatDoor.Abs
set_option linter.unusedSimpArgs false
set_option linter.unusedVariables false
abbrev ci(n:Int):Xd:=[vi n]
abbrev cs(s:Xb):Xd:=[sv s]
abbrev ints(l:Xi):A:= .sl 1 (l.map ci)
abbrev strs(l:Xa):A:= .sl 1 (l.map cs)
section
theorem jql{α:Type}(x y:α):brn true x y=x:=rfl
theorem jjO{α:Type}(x y:α):brn false x y=y:=rfl
theorem jDL{α:Type}(b:Bool)(x y:α):brn b x y=if b=true then x else y:=rfl
theorem jyt:(-1:Int)<0:=by decide
theorem jj1(b:Bool):qf (vb b)=some b:=rfl
theorem jq7(b:Bool)(x y:A):jcX (vb b) x y=some (if b=true then x else y):=rfl
theorem jCO(b w:Bool)(x:Xl):pG (vb b) w x=if b=w then x else some (.val undef):=rfl
theorem jvz(b w:Bool):yB (vb b) w=some (decide (b=w)):=rfl
theorem jCN(w:Bool)(x:Xl):pG (.val undef) w x=some (.val undef):=rfl
theorem jvy(w:Bool):yB (.val undef) w=some false:=rfl
theorem jCP(k:Nat)(xs:Xc):jcV (.sl k xs)=some (vi xs.length):=rfl
theorem jn7(xs:Xc):jaK xs=vi xs.length:=rfl
theorem jrd(xs:Xc):Y8 xs=xs.length:=rfl
theorem jmi(l:Xb):jcW (sv l)=some (vi l.length):=rfl
theorem jAX(a:A):fin false (a,[])=some a:=rfl
theorem jGm(b c:Bool):fin c (vb b,[])=some (vb b):=by cases c<;>rfl
theorem jGn(c:Bool)(n:Int):fin c (vi n,[])=some (vi n):=by cases c<;>rfl
theorem jEE(b:Bool):pUn .not (vb b)=some (vb (!b)):=rfl
theorem jn3(b:Bool)(x y:Int):jdl .lss b (vi x) (vi y)=some (vb (decide (x<y))):=rfl
theorem jCI(b:Bool)(x y:Int):jdl .leq b (vi x) (vi y)=some (vb (decide (x<=y))):=rfl
theorem jCH(b:Bool)(x y:Int):jdl .gtr b (vi x) (vi y)=some (vb (decide (y<x))):=rfl
theorem jCG(b:Bool)(x y:Int):jdl .geq b (vi x) (vi y)=some (vb (decide (y<=x))):=rfl
theorem jvu(b:Bool)(x y:Int):jdl .eql b (vi x) (vi y)=some (vb (decide (x=y))):=rfl
theorem jCK(b:Bool)(x y:Int):jdl .neq b (vi x) (vi y)=some (vb (!decide (x=y))):=rfl
theorem jzr(b:Bool)(x y:Int):jdl .lss b (vy x) (vy y)=some (vb (decide (x<y))):=rfl
theorem jzq(b:Bool)(x y:Int):jdl .leq b (vy x) (vy y)=some (vb (decide (x<=y))):=rfl
theorem jzp(b:Bool)(x y:Int):jdl .gtr b (vy x) (vy y)=some (vb (decide (y<x))):=rfl
theorem jzo(b:Bool)(x y:Int):jdl .geq b (vy x) (vy y)=some (vb (decide (y<=x))):=rfl
theorem jzn(b:Bool)(x y:Int):jdl .eql b (vy x) (vy y)=some (vb (decide (x=y))):=rfl
theorem jzs(b:Bool)(x y:Int):jdl .neq b (vy x) (vy y)=some (vb (!decide (x=y))):=rfl
theorem jzt(x y:Bool):jdl .eql true (vb x) (vb y)=some (vb (decide (x=y))):=rfl
theorem jzu(x y:Bool):jdl .neq true (vb x) (vb y)=some (vb (!decide (x=y))):=rfl
theorem ji8(b:Bool)(x y:Int):jdl .add b (vi x) (vi y)=ck (x+y):=by cases b<;>rfl
theorem jvv(b:Bool)(x y:Int):jdl .sub b (vi x) (vi y)=ck (x-y):=by cases b<;>rfl
theorem jCJ(b:Bool)(x y:Int):jdl .mul b (vi x) (vi y)=ck (x*y):=by cases b<;>rfl
theorem jgA{n:Int}(h1: -9223372036854775808<=n)(h2:n<=9223372036854775807):ck n=some (vi n):=jbZ ⟨h1,h2⟩
theorem jkQ(b:Bool)(x y:Xb):jdl .add b (sv x) (sv y)=if x.length+y.length<=9223372036854775807 then some (sv (x++y))else none:=by cases b<;>rfl
theorem joN(b:Bool)(x y:Xb):jdl .eql b (sv x) (sv y)=some (vb (decide (x=y))):=rfl
theorem jzz(b:Bool)(x y:Xb):jdl .neq b (sv x) (sv y)=some (vb (!decide (x=y))):=rfl
theorem jzy(b:Bool)(x y:Xb):jdl .lss b (sv x) (sv y)=some (vb (sLt x y)):=rfl
theorem jCQ(a:A)(l:Xd):QO (.elt (a::l) 0)=some a:=rfl
theorem jip(cs:Xd)(off n:Nat):jdk (.elt cs off) n=some (.elt cs (off+n)):=rfl
theorem jxi(off:Nat)(cs:Xd):QM off (.agg cs)=cs[off]? :=rfl
theorem jxh(n:Nat)(ds:Xd):jbz n (.agg ds)=if ds.length=n/\ds.all Ka=true then some ds else none:=rfl
theorem jyQ(a:A)(l:Xd):qL (a::l) 0=a:=rfl
theorem jAv(a b:A)(l:Xd):qL (a::b::l) 1=b:=rfl
theorem jAw(a b c:A)(l:Xd):qL (a::b::c::l) 2=c:=rfl
theorem jwE(a b c d:A)(l:Xd):qL (a::b::c::d::l) 3=d:=rfl
theorem jxc(k:Nat)(xs:Xc):Ka (.sl k xs)=true:=rfl
theorem jEy(cs:Xd)(o:Nat):Ka (.elt cs o)=true:=rfl
theorem jGN(f:FuncId)(l:Xd):Ka (.fn f l)=true:=rfl
theorem jGQ(n:Int):Ka (vi n)=true:=rfl
theorem jGP(b:Bool):Ka (vb b)=true:=rfl
theorem jGO(l:Xb):Ka (sv l)=true:=rfl
theorem jGS(n:Nat)(i:Int):pIx n (vi i)=if 0<=i/\i<(n:Int)then some i.toNat else none:=rfl
theorem jgZ{n i:Nat}(h:i<n):pIx n (vi i)=some i:=by
 rw[jGS,jbZ ⟨by omega,by omega⟩];simp
theorem jCS(k:Nat)(xs:Xc):Zx k (.sl k xs)=some xs:=jbZ rfl
theorem jGU(a:A)(l:Xd):jd5 (.tup (a::l)) 0=some a:=rfl
theorem jGV(a b:A)(l:Xd):jd5 (.tup (a::b::l)) 1=some b:=rfl
theorem jGW(a b c:A)(l:Xd):jd5 (.tup (a::b::c::l)) 2=some c:=rfl
theorem jEC(x y:Int):jdn (vi x) (vi y)=some (vi (if x<y then y else x)):=by
 unfold jdn;simp
theorem jED(x y:Int):jdo (vi x) (vi y)=some (vi (if y<x then y else x)):=by
 unfold jdo;simp
theorem jHY(a:A)(l:Xd)(i:Nat):hD (a,l) i=l[i]? :=rfl
theorem jLe(k:Nat)(a:A)(xs:Xc)(l:Xd):hR k (a,.sl k xs::l) 0=some xs:=by simp[hR]
theorem jLf(k:Nat)(a b:A)(xs:Xc)(l:Xd):hR k (a,b:: .sl k xs::l) 1=some xs:=by simp[hR]
theorem jLg(k:Nat)(a b c:A)(xs:Xc)(l:Xd):hR k (a,b::c:: .sl k xs::l) 2=some xs:=by simp[hR]
theorem jhU{f:FuncId}{caps args:Xd}{c:Bool}(h:K.pureF f=true):DX.run K (MM K) (.callc (.fn f caps) args c)=(G f (args++caps)).bind (fin c):=by
 simp only[DX.run,h,jer]
theorem jfY{α:Type}{k:Nat}{f:α->Xd}{xs:List α}{i:Nat}(h:i<xs.length):kL k (.sl k (xs.map f)) (vi i)=some (.elt (f xs[i]) 0):=by
 simp only[kL,jer,List.length_map,jgZ h,jen];simp[jcQ,h]
theorem jgj{i n:Nat}(h:i<n)(hn:n<=9223372036854775807):jdl .add false (vi i) (vi 1)=some (vi ((i+1:Nat):Int)):=by
 rw[ji8,jgA (by omega) (by omega)];rfl
theorem joC{b:Int}{n:Nat}(h0:0<=b)(h1:b<=9223372036854775807)(hn:n<=9223372036854775807):ck (b-n)=some (vi (b-n)):=jgA (by omega) (by omega)
theorem jH8(d top:Nat)(z:Int):pB d top (some (vi z))=if 0<=z/\z<=(top:Int)then some z.toNat else none:=rfl
theorem jiq{d top n:Nat}(h:n<=top):pB d top (some (vi n))=some n:=by
 rw[jH8,jbZ ⟨by omega,by omega⟩];simp
theorem jhe{d top:Nat}(h:d<=top):pB d top none=some d:=jbZ h
theorem jt1(xs:Xc):jaJ xs=xs.length:=rfl
theorem jh2(xs:Xc)(off:Nat):jd6 xs off=xs.length-off:=rfl
theorem jyC(ys:Xc)(n:Nat):jeW ys n=vi (min ys.length n:Nat):=rfl
theorem jvK(ys:Xc)(n:Nat):jd7 ys n=ys.take n:=rfl
theorem jn8(xs:Xc)(off n:Nat):jeX xs off n=(xs.drop off).take n:=rfl
theorem jkT(xs:Xc)(off:Nat)(ys:Xc):yn xs off ys=xs.take off++ys++xs.drop (off+ys.length):=rfl
theorem jie(a b:Nat):jeQ a b=a-b:=rfl
theorem jCR(off n:Nat)(ys xs:Xc):jcY off n ys xs=decide (off+n+ys.length<=xs.length):=rfl
theorem upto{P:Nat->Prop}{n:Nat}(h0:P n)(hs:∀i,i<n->P (i+1)->P i):∀i,i<=n->P i:=by
 intro i hi;obtain⟨k,hk⟩:∃k,n=i+k:=⟨n-i,by omega⟩;induction k generalizing i with
 |zero=>rw[show i=n by omega];exact h0
 |succ k ih=>exact hs i (by omega) (ih (i+1) (by omega) (by omega))
theorem jgg{α:Type}{xs:List α}{i:Nat}(h:i<xs.length):xs.drop i=xs[i]::xs.drop (i+1):=List.drop_eq_getElem_cons h
theorem evs :
  ((-1:Int)<0)/\
  (∀{α:Type}(x y:α),brn true x y=x)/\
  (∀{α:Type}(x y:α),brn false x y=y)/\
  (∀{α:Type}(b:Bool)(x y:α),brn b x y=if b=true then x else y)/\
  (∀{α β:Type}(a:α)(f:α->Option β),(some a).bind f=f a)/\
  (∀{α β:Type}(f:α->Option β),none.bind f=none)/\
  (∀(b:Bool),qf (vb b)=some b)/\
  (∀(b:Bool)(x y:A),jcX (vb b) x y=some (if b=true then x else y))/\
  (∀(b w:Bool)(x:Xl),pG (vb b) w x=if b=w then x else some (A.val undef))/\
  (∀(b w:Bool),yB (vb b) w=some (decide (b=w)))/\
  (∀(w:Bool)(x:Xl),pG (A.val undef) w x=some (A.val undef))/\
  (∀(w:Bool),yB (A.val undef) w=some false)/\
  (∀(k:Nat)(xs:Xc),jcV (A.sl k xs)=some (vi ↑xs.length))/\
  (∀(xs:Xc),jaK xs=vi ↑xs.length)/\
  (∀(xs:Xc),Y8 xs=xs.length)/\
  (∀(l:Xb),jcW (sv l)=some (vi ↑l.length))/\
  (∀(a:A),fin false (a,[])=some a)/\
  (∀(b c:Bool),fin c (vb b,[])=some (vb b))/\
  (∀(c:Bool)(n:Int),fin c (vi n,[])=some (vi n))/\
  (∀(b:Bool),pUn UnOp.not (vb b)=some (vb !b))/\
  (∀(b:Bool)(x y:Int),jdl BinOp.lss b (vi x) (vi y)=some (vb (decide (x<y))))/\
  (∀(b:Bool)(x y:Int),jdl BinOp.leq b (vi x) (vi y)=some (vb (decide (x<=y))))/\
  (∀(b:Bool)(x y:Int),jdl BinOp.gtr b (vi x) (vi y)=some (vb (decide (y<x))))/\
  (∀(b:Bool)(x y:Int),jdl BinOp.geq b (vi x) (vi y)=some (vb (decide (y<=x))))/\
  (∀(b:Bool)(x y:Int),jdl BinOp.eql b (vi x) (vi y)=some (vb (decide (x=y))))/\
  (∀(b:Bool)(x y:Int),jdl BinOp.neq b (vi x) (vi y)=some (vb !decide (x=y)))/\
  (∀(b:Bool)(x y:Int),jdl BinOp.lss b (vy x) (vy y)=some (vb (decide (x<y))))/\
  (∀(b:Bool)(x y:Int),jdl BinOp.leq b (vy x) (vy y)=some (vb (decide (x<=y))))/\
  (∀(b:Bool)(x y:Int),jdl BinOp.gtr b (vy x) (vy y)=some (vb (decide (y<x))))/\
  (∀(b:Bool)(x y:Int),jdl BinOp.geq b (vy x) (vy y)=some (vb (decide (y<=x))))/\
  (∀(b:Bool)(x y:Int),jdl BinOp.eql b (vy x) (vy y)=some (vb (decide (x=y))))/\
  (∀(b:Bool)(x y:Int),jdl BinOp.neq b (vy x) (vy y)=some (vb !decide (x=y)))/\
  (∀(x y:Bool),jdl BinOp.eql true (vb x) (vb y)=some (vb (decide (x=y))))/\
  (∀(x y:Bool),jdl BinOp.neq true (vb x) (vb y)=some (vb !decide (x=y)))/\
  (∀(b:Bool)(x y:Int),jdl BinOp.add b (vi x) (vi y)=ck (x+y))/\
  (∀(b:Bool)(x y:Int),jdl BinOp.sub b (vi x) (vi y)=ck (x-y))/\
  (∀(b:Bool)(x y:Int),jdl BinOp.mul b (vi x) (vi y)=ck (x*y))/\
  (∀(b:Bool)(x y:Xb),jdl BinOp.eql b (sv x) (sv y)=some (vb (decide (x=y))))/\
  (∀(b:Bool)(x y:Xb),jdl BinOp.neq b (sv x) (sv y)=some (vb !decide (x=y)))/\
  (∀(b:Bool)(x y:Xb),jdl BinOp.lss b (sv x) (sv y)=some (vb (sLt x y)))/\
  (∀(a:A)(l:Xd),QO (A.elt (a::l) 0)=some a)/\
  (∀(cs:Xd)(off n:Nat),jdk (A.elt cs off) n=some (A.elt cs (off+n)))/\
  (∀(off:Nat)(cs:Xd),QM off (A.agg cs)=cs[off]?)/\
  (∀(n:Nat)(ds:Xd),jbz n (A.agg ds)=if ds.length=n/\ds.all Ka=true then some ds else none)/\
  (∀(a:A)(l:Xd),qL (a::l) 0=a)/\
  (∀(a b:A)(l:Xd),qL (a::b::l) 1=b)/\
  (∀(a b c:A)(l:Xd),qL (a::b::c::l) 2=c)/\
  (∀(a b c d:A)(l:Xd),qL (a::b::c::d::l) 3=d)/\
  (∀(k:Nat)(xs:Xc),Ka (A.sl k xs)=true)/\
  (∀(cs:Xd)(o:Nat),Ka (A.elt cs o)=true)/\
  (∀(f:FuncId)(l:Xd),Ka (A.fn f l)=true)/\
  (∀(n:Int),Ka (vi n)=true)/\
  (∀(b:Bool),Ka (vb b)=true)/\
  (∀(l:Xb),Ka (sv l)=true)/\
  (∀(k:Nat)(xs:Xc),Zx k (A.sl k xs)=some xs)/\
  (∀(a:A)(l:Xd),jd5 (A.tup (a::l)) 0=some a)/\
  (∀(a b:A)(l:Xd),jd5 (A.tup (a::b::l)) 1=some b)/\
  (∀(a b c:A)(l:Xd),jd5 (A.tup (a::b::c::l)) 2=some c)/\
  (∀(x y:Int),jdn (vi x) (vi y)=some (vi (if x<y then y else x)))/\
  (∀(x y:Int),jdo (vi x) (vi y)=some (vi (if y<x then y else x)))/\
  (∀(a:A)(l:Xd)(i:Nat),hD (a,l) i=l[i]?)/\
  (∀(k:Nat)(a:A)(xs:Xc)(l:Xd),hR k (a,A.sl k xs::l) 0=some xs)/\
  (∀(k:Nat)(a b:A)(xs:Xc)(l:Xd),hR k (a,b::A.sl k xs::l) 1=some xs)/\
  (∀(k:Nat)(a b c:A)(xs:Xc)(l:Xd),hR k (a,b::c::A.sl k xs::l) 2=some xs)/\
  (∀{α:Type}{a:α}{l:List α}{f:α->Bool},(a::l).all f=(f a && l.all f))/\
  (∀{α:Type}{f:α->Bool},([]:List α).all f=true)/\
  (∀{α:Type}{a:α}{l:List α},(a::l).length=l.length+1)/\
  (∀{α:Type},([]:List α).length=0)/\
  (∀{α β:Type}{l:List α}(f:α->β),(List.map f l).length=l.length)/\
  (∀(n:Nat),0+n=n)/\
  (∀(b:Bool),(b && b)=b)/\
  (∀(b:Bool),(b && true)=b)/\
  (∀(p:Prop),(p/\p)=p)/\
  (∀{α:Type}{_x:Decidable True}(t e:α),(if True then t else e)=t)/\
  (∀{α:Type}{_x:Decidable False}(t e:α),(if False then t else e)=e)/\
  ((true=false)=False)/\
  ((false=true)=False)/\
  (∀(_h:Decidable True),decide True=true)/\
  (∀(_h:Decidable False),decide False=false)/\
  ((!true)=false)/\
  ((!false)=true)/\
  (∀(b:Bool),((!b)=true)=(b=false))/\
  (∀{p:Prop} [Decidable p],(decide p=true)=p)/\
  (∀{p:Prop}{x:Decidable p},decide p=false↔ ¬p)/\
  (∀(a:Int),¬a<a)/\
  ((¬True)=False)/\
  ((¬False)=True)/\
  (∀{α:Type}(a b:α),(if True then a else b)=a)/\
  (∀{α:Type}(a b:α),(if False then a else b)=b):=
 ⟨@jyt,@jql,@jjO,@jDL,@Option.bind_some.{0,0},@Option.bind_none.{0,0},@jj1,@jq7,@jCO,@jvz,@jCN,@jvy,@jCP,@jn7,@jrd,@jmi,@jAX,@jGm,@jGn,@jEE,@jn3,@jCI,@jCH,@jCG,@jvu,@jCK,@jzr,@jzq,@jzp,@jzo,@jzn,@jzs,@jzt,@jzu,@ji8,@jvv,@jCJ,@joN,@jzz,@jzy,@jCQ,@jip,@jxi,@jxh,@jyQ,@jAv,@jAw,@jwE,@jxc,@jEy,@jGN,@jGQ,@jGP,@jGO,@jCS,@jGU,@jGV,@jGW,@jEC,@jED,@jHY,@jLe,@jLf,@jLg,@jev.{0},@List.all_nil.{0},@jfC.{0},@jfJ.{0},@List.length_map.{0,0},@je8,@Bool.and_self,@Bool.and_true,@and_self,@jer.{1},@if_false.{1},@Bool.true_eq_false,@jfB,@decide_true,@decide_false,@Bool.not_true,@Bool.not_false,@jfl,@jfH,@decide_eq_false_iff_not,@Int.lt_irrefl,@not_true_eq_false,@not_false_eq_true,@ite_true.{1},@ite_false.{1}⟩
end
theorem jHD:(∀{α:Type}{h:Decidable True}(a b:α),@ite α True h a b=a)/\(∀{α:Type}{h:Decidable False}(a b:α),@ite α False h a b=b)/\(1+1=2/\1+2=3/\1+3=4/\1+4=5/\2+1=3/\2+2=4/\2+3=5/\2+4=6/\3+1=4/\3+2=5/\3+3=6/\3+4=7/\4+1=5/\4+2=6/\4+3=7/\4+4=8/\5+1=6/\5+2=7/\5+3=8/\5+4=9/\6+1=7/\6+2=8/\6+3=9/\6+4=10/\7+1=8/\7+2=9/\7+3=10/\7+4=11/\8+1=9/\8+2=10/\8+3=11/\8+4=12/\9+1=10/\9+2=11/\9+3=12/\9+4=13/\10+1=11/\10+2=12/\10+3=13/\10+4=14/\11+1=12/\11+2=13/\11+3=14/\11+4=15/\12+1=13/\12+2=14/\12+3=15/\12+4=16):=by refine⟨?_,?_,by decide⟩<;>intros<;>simp
theorem evz:type_of% (And.intro evs (And.intro cev jHD)):=And.intro evs (And.intro cev jHD)
open Go Go.RowKit Go.ChangeShapes Go.Deep Go.Proofs.YthlhadhipnokfaaGreatDoor.Abs
section
variable{P:Program}{t:Nat}{H:Type}{enc:TypeId×Value->H}{w:World}{base:Nat}{spare:Nat->Bool}{held:Bool}{fuel:Nat}{cs:Xh}{x:DataW H×List MemPlace}
theorem jxy{α:Type}{g0:α->Xd}{p0:α->Prop}{f0:Field}{k0:Nat}(ht:P.underlying t=some (.struct #[f0]))
  (o0:f0.offset=0) (c0:P.cellsOf f0.type=k0) (c:P.cellsOf t=k0)
  (h0:∀n cs x,n<fuel->DataW.trod enc P w base spare held n f0.type cs=some x-> ∃a,p0 a/\je w (λ_=>False) (g0 a) cs/\jd cs)
  (h:DataW.trod enc P w base spare held fuel t cs=some x):∃a,p0 a/\je w (λ_=>False) (g0 a) cs/\jd cs:=by
 obtain⟨xs,n,hfn,rfl,hl,hlen,hf⟩:=DataW.trod_struct ht h;have e0:=hf 0 f0 rfl;rw[o0,c0]at e0;have hlen:xs.length=1:=hlen;have hx0:xs[0]? = some xs[0]:=jam (by omega);rw[hx0]at e0;obtain⟨a,q1,q2,q3⟩:=h0 n _ _ (by omega) e0;rw[List.drop_zero,jfU (by omega)]at q2 q3;exact⟨a,q1,q2,q3⟩
theorem jrk{α β:Type}{g0:α->Xd}{g1:β->Xd}{p0:α->Prop}{p1:β->Prop}{f0 f1:Field}{k0 k1:Nat}(ht:P.underlying t=some (.struct #[f0,f1]))
  (o0:f0.offset=0) (o1:f1.offset=k0) (c0:P.cellsOf f0.type=k0) (c1:P.cellsOf f1.type=k1) (c:P.cellsOf t=k0+k1)
  (h0:∀n cs x,n<fuel->DataW.trod enc P w base spare held n f0.type cs=some x-> ∃a,p0 a/\je w (λ_=>False) (g0 a) cs/\jd cs)
  (h1:∀n cs x,n<fuel->DataW.trod enc P w base spare held n f1.type cs=some x-> ∃a,p1 a/\je w (λ_=>False) (g1 a) cs/\jd cs)
  (h:DataW.trod enc P w base spare held fuel t cs=some x):∃a b,p0 a/\p1 b/\je w (λ_=>False) (g0 a++g1 b) cs/\jd cs:=by
 obtain⟨xs,n,hfn,rfl,hl,hlen,hf⟩:=DataW.trod_struct ht h;have e0:=hf 0 f0 rfl;have e1:=hf 1 f1 rfl;rw[o0,c0]at e0;rw[o1,c1]at e1;have hlen:xs.length=2:=hlen;have hx0:xs[0]? = some xs[0]:=jam (by omega);have hx1:xs[1]? = some xs[1]:=jam (by omega);rw[hx0]at e0;rw[hx1]at e1;obtain⟨a,q1,q2,q3⟩:=h0 n _ _ (by omega) e0;obtain⟨b,r1,r2,r3⟩:=h1 n _ _ (by omega) e1;have e:cs=(cs.drop 0).take k0++(cs.drop k0).take k1:=by
  rw[jfU (l:=cs.drop k0) (by simp;omega),List.drop_zero,jfK]
 rw[e];exact⟨a,b,q1,r1,jA q2 r2,jd.append q3 r3⟩
end
inductive T where
 |mk (name:Xb) (args:List T)
abbrev Xg:=List T
def T.name:T->Xb|.mk n _=>n
def T.args:T->Xg|.mk _ us=>us
theorem T.eta(t:T):T.mk t.name t.args=t:=by cases t;rfl
mutual
def jgi:T->Xd
 |.mk n us=>[sv n,.sl 2 (jpN us)]
def jpN:Xg->Xc
 | []=>[]
 |t::ts=>jgi t::jpN ts
end
theorem jmo:∀ts:Xg,jpN ts=ts.map jgi
 | []=>rfl
 |t::ts=>by simp[jpN,jmo ts]
theorem jgT(t:T):jgi t=[sv t.name,.sl 2 (t.args.map jgi)]:=by
 cases t;simp[jgi,T.name,T.args,jmo]
theorem jrI(t:T):(jgi t).length=2:=by rw[jgT];rfl
abbrev tm(t:T):A:= .agg [sv t.name,.sl 2 (t.args.map jgi)]
abbrev tms(ts:Xg):A:= .sl 2 (ts.map jgi)
theorem jga(t:T):QN 2 (.elt (jgi t) 0)=some (.agg [sv t.name,.sl 2 (t.args.map jgi)]):=by rw[jgT];rfl
mutual
def tsz:T->Nat
 |.mk n us=>n.length+us.length+jjE us
def jjE:Xg->Nat
 | []=>0
 |t::ts=>tsz t+jjE ts
end
theorem jgL(t:T):tsz t=t.name.length+t.args.length+jjE t.args:=by cases t;simp[tsz,T.name,T.args]
theorem jhr:∀{ts:Xg}{t:T},t∈ts->tsz t<=jjE ts
 | [],_,h=>by cases h
 |u::us,t,h=>by
  simp only[jjE];rcases ja1.1 h with rfl|h
  .omega
  .have:=jhr h;omega
mutual
def twf:T->Prop
 |.mk n us=>n.length<=9223372036854775807/\us.length<=9223372036854775807/\jzV us
def jzV:Xg->Prop
 | []=>True
 |t::ts=>twf t/\jzV ts
end
theorem jgK(t:T):twf t↔t.name.length<=9223372036854775807/\t.args.length<=9223372036854775807/\jzV t.args:=by cases t;simp[twf,T.name,T.args]
theorem jgF:∀ts:Xg,jzV ts↔ ∀t∈ts,twf t
 | []=>by simp[jzV]
 |t::ts=>by simp[jzV,jgF ts]
theorem T.ind{p:T->Prop}(h:∀t,(∀u∈t.args,p u)->p t):∀t,p t:=by
 intro t;induction hn:SizeOf.sizeOf t using Nat.strongRecOn generalizing t with
 |ind n ih=>
  subst hn;refine h t λu hu=>ih (SizeOf.sizeOf u) ?_ u rfl;cases t with
  |mk nm us=>
   have:=List.sizeOf_lt_of_mem hu;simp only[T.args]at this;simp only[T.mk.sizeOf_spec];omega
section
variable{P:Program}{tT tS:Nat}
theorem jzC{H:Type}{enc:TypeId×Value->H}{w:World}{base:Nat}{spare:Nat->Bool}{held:Bool}{f0 f1:Field}(ht:P.underlying tT=some (.struct #[f0,f1]))(h0:P.underlying f0.type=some .string)(h1:P.underlying f1.type=some (.slice tT))
  (o0:f0.offset=0) (o1:f1.offset=1) (c0:P.cellsOf f0.type=1) (c1:P.cellsOf f1.type=1) (c2:P.cellsOf tT=2) :
  ∀(fuel:Nat)(cs:Xh)(x:DataW H×List MemPlace),DataW.trod enc P w base spare held fuel tT cs=some x-> ∃t,twf t/\je w (λ_=>False) (jgi t) cs/\jd cs:=by
 intro fuel;induction fuel using Nat.strongRecOn with
 |ind fuel ih=>
  intro cs x h;obtain⟨xs,n,hfn,rfl,hl,hlen,hf⟩:=DataW.trod_struct ht h;have e0:=hf 0 f0 rfl;have e1:=hf 1 f1 rfl;rw[o0,c0]at e0;rw[o1,c1]at e1;rw[c2]at hl
  match cs,hl with
  | [u,v],_=>
   match xs,hlen with
   | [y0,y1],_=>
    simp only[List.drop_zero,jfR,List.take_zero,List.getElem?_cons_zero]at e0;simp only[List.drop_succ_cons,List.drop_zero,jfR,List.take_zero,List.getElem?_cons_succ,List.getElem?_cons_zero]at e1;obtain⟨s,hs,_,hsz⟩:=DataW.trod_string h0 e0;obtain⟨ts,⟨hts,htl⟩,hr,ho⟩:=jbP (P:=P) (t:=f1.type) (e:=tT) (f:=jgi) (p:=twf) jrI (by decide) h1 c2 (λm cs' x' hm hx'=>ih m (by omega) cs' x' hx') e1;have hbs:∀s:ByteArray,(⟨⟨bs s⟩⟩:ByteArray)=s:=λs=>rfl;refine⟨.mk (bs s) ts,by simp only[twf];exact⟨by show(bs s).length<=_;rw[<-Ji];simpa[maxLen]using hsz,htl,(jgF ts).2 hts⟩,?_,?_⟩
    .simp only[jgi,jmo];simp only[jfk,and_true]at hs;subst hs;simp only[je,jfk]at hr;obtain⟨v',r',⟨rfl,rfl⟩,h3,_⟩:=hr;simp only[je];exact⟨_,_,rfl,by simp[rel,hbs],_,_,rfl,h3,rfl⟩
    .simp only[jfk,and_true]at hs;subst hs;intro z hz;rcases ja1.1 hz with rfl|hz
     .simp [Value.oneCell']
     .exact ho z hz
end
theorem jEK:Rdr Tryz.prog 117 jgi twf:=λ_ _ _ _ _ _ fuel cs x h=>
 jzC Tryz.underlying117 Tryz.underlying9 Tryz.underlying115 rfl rfl (by kernel_rfl) (by kernel_rfl) (by kernel_rfl) fuel cs x h
theorem jxl:Rdr Tryz.prog 3 ci I64:=Rdr.int Tryz.underlying3
theorem jEH:Rdr Tryz.prog 4 (λb=>[vb b]) (λ_=>True):=Rdr.bool Tryz.underlying4
theorem jyD:Rdr Tryz.prog 27 (λxs:Xi=>[ints xs]) (λxs=>(∀x∈xs,I64 x)/\xs.length<=9223372036854775807):=
 Rdr.slice Tryz.underlying27 (by kernel_rfl) (by decide) (λ_=>rfl) jxl
structure Ord' where
 syms:Xa
 ws:Xi
 var:Int
abbrev jtY(o:Ord'):Xd:=[strs o.syms,ints o.ws,vi o.var]
abbrev od(o:Ord'):A:= .agg [strs o.syms,ints o.ws,vi o.var]
def owf(o:Ord'):Prop:=((∀s∈o.syms,s.length<=9223372036854775807)/\o.syms.length<=9223372036854775807)/\((∀x∈o.ws,I64 x)/\o.ws.length<=9223372036854775807)/\I64 o.var
set_option maxHeartbeats 1000000
def jgI(left n:Int):Int:=if 0<=left-n then left-n else -1
theorem jhh{left n:Int}(h:left<n):jgI left n = -1:=ja0 (by omega)
theorem jiV{left n:Int}(h:n<=left):jgI left n=left-n:=jbZ (by omega)
theorem jlk{b:Int}(h:0<=b):jgI b ((0:Nat):Int)=b:=by unfold jgI;simp[h]
theorem jjP(b m n:Int):jgI (b-m) n=jgI b (m+n):=by unfold jgI;rw[Int.sub_sub]
theorem jl9(b n:Int): -1<=jgI b n:=by unfold jgI;split<;>omega
theorem jkN{b m n:Int}(h:m<=b):jgI (jgI b m) n=jgI b (m+n):=by rw[jiV h,jjP]
def part{α:Type}(f:α->Xd)(z:Xd)(xs:List α)(i:Nat):Xc:=(xs.take i).map f++List.replicate (xs.length-i) z
section
variable{α:Type}{f:α->Xd}{z:Xd}{xs:List α}
theorem jjh:QP xs.length z=part f z xs 0:=by simp[part,QP]
theorem jj5:part f z xs xs.length=xs.map f:=by simp[part]
theorem jir{i:Nat}(h:i<=xs.length):(part f z xs i).length=xs.length:=by simp[part];omega
theorem jj6{i:Nat}(h:i<xs.length):jbF (part f z xs i) i=some z:=by
 unfold jbF part;rw[jeU (by simp;omega)];simp;rw[List.getElem?_replicate,jbZ (by omega)]
theorem jj7{i:Nat}(h:i<xs.length):Y9 (part f z xs i) i (f xs[i])=part f z xs (i+1):=by
 unfold Y9 part;have e:xs.length-i=(xs.length-(i+1))+1:=by omega
 rw[List.set_append_right _ _ (by simp;omega),e,jeZ]
 simp only[List.length_map,List.length_take,Nat.min_eq_left (Nat.le_of_lt h),Nat.sub_self,List.set_cons_zero];rw[<-List.take_append_getElem h,List.map_append];simp
end
theorem jDM(a b:A):Zj [a] 0 [b]=[b]:=rfl
theorem jpF(a b c d:A):Zj [a,b] 0 [c,d]=[c,d]:=rfl
theorem jic{b n:Nat}(hb:(b:Int)*(n:Int)<=281474976710656)(hn:n<=1048576):Zw b (vi n) (vi n)=some n:=by
 show(if _ then _ else _)=_;rw[jbZ (show jdD b n n from⟨by omega,Int.le_refl _,hb,by omega⟩),Int.toNat_natCast]
theorem jiW{k:Nat}{xs:Xc}{i:Nat}(h:i<=xs.length):Jy k (.sl k xs) none (some (vi i))=some (.sl k (xs.take i)):=by
 simp only[Jy,zz,Option.bind_some];rw[jbZ ⟨trivial,Int.le_refl _,by omega,by omega⟩];simp
theorem jhJ{k:Nat}{xs:Xc}{i:Nat}(h:i<=xs.length):Jy k (.sl k xs) (some (vi i)) none=some (.sl k (xs.drop i)):=by
 simp only[Jy,zz,Option.bind_some];rw[jbZ ⟨trivial,by omega,by omega,by omega⟩];simp
def jne(k:Int):Nat->Xi
 |0=>[]
 |n+1=>k::jne (k+1) n
theorem jo3:∀(k:Int)(n:Nat),(jne k n).length=n
 |_,0=>rfl
 |k,n+1=>by simp[jne,jo3 (k+1) n]
section
variable{α:Type}{f:α->Xd}(M r:List α)(x:α)
theorem jqT{k:Nat} :kL k (.sl k ((M++x::r).map f)) (vi (M.length:Nat))=some (.elt (f x) 0):=by
 rw[jfY (by simp)];simp
theorem jtV:((M.length:Nat):Int)<(((M++x::r).length:Nat):Int):=by simp only[jf7,jfC];omega
end
section
variable(M R:Xc)(x y:Xd)
theorem jiO:jbF (M++x::R) M.length=some x:=by
 unfold jbF;rw[jeU (jdB _)];simp
theorem jiP:Y9 (M++x::R) M.length y=M++y::R:=by
 unfold Y9;rw[List.set_append_right _ _ (by simp)];simp
theorem jjB:pIx (M++x::R).length (vi (M.length:Nat))=some M.length:=jgZ (by simp)
end
def jDf:Xa->Nat
 | []=>0
 |s::l=>s.length+jDf l
theorem jyI(l:Xi)(hl:l.length<=9223372036854775807)(left:Int)(h0:0<=left)(h1:left<=1048576):G 64 [ints l,vi left]=some (vi (jgI left ((l.length:Nat):Int)),[]):=by
 have hk:=joC h0 (Int.le_trans h1 (by decide)) hl;rw[g64];simp only[evz,hk];by_cases hc:left-l.length<0
 .simp only[evz,hc];rw[jhh (by omega)]
 .simp only[evz,hc];rw[jiV (by omega)]
def osz(o:Ord'):Nat:=o.syms.length+jDf o.syms+o.ws.length
theorem jDm(ts:Xg)(hl:ts.length<=9223372036854775807)(ih:∀t∈ts,∀left:Int,0<=left->left<=1048576->G 111 [tm t,vi left]=some (vi (jgI left ((tsz t:Nat):Int)),[]))
  (left:Int) (h0:0<=left) (h1:left<=1048576):G 139 [tms ts,vi left]=some (vi (jgI left ((ts.length+jjE ts:Nat):Int)),[]):=by
 have loop:∀(a:Int),0<=a->a<=1048576->jpU (tms ts) (vi a) (vi 0)=some (vi (jgI a (jjE ts)),[]):=by
  have key:=(upto (P:=λi=>∀a:Int,0<=a->a<=1048576->jpU (tms ts) (vi a) (vi i)=some (vi (jgI a (jjE (ts.drop i))),[])) (n:=ts.length) ?_ ?_ 0 (Nat.zero_le _))
  .simp only[List.drop_zero,Int.natCast_zero]at key;exact key
  .intro b hb hb';rw[jBh,List.drop_length];simp only[evz,jjE];rw[jlk hb]
  .intro i hi ih' b hb hb';have e1:=ih ts[i] (jfL _) b hb hb';rw[jBh,jgg hi];simp only[evz,hi,Int.ofNat_lt,jfY hi,jga,e1,jgj hi hl,jjE];by_cases hc:b<(tsz ts[i]:Nat)
   .rw [jhh hc,jhh (by omega)];rfl
   .have hp:=jiV (Int.not_lt.1 hc);have ih':=ih' (jgI b (tsz ts[i]:Nat)) (by omega) (by omega);have hn:¬jgI b ((tsz ts[i]:Nat):Int)<0:=by omega
    simp only[evz,hn,ih'];rw[jkN (Int.not_lt.1 hc),<-Int.natCast_add]
 have hk:=joC h0 (Int.le_trans h1 (by decide)) hl;rw[jJd];simp only[evz,hk];by_cases hc:left-ts.length<0
 .simp only[evz,hc];rw[jhh (by omega)]
 .have hl:=loop (left-ts.length) (by omega) (by omega);simp only[evz,hc,hl];rw[jjP,<-Int.natCast_add]
theorem jEV(t:T):twf t-> ∀left:Int,0<=left->left<=1048576->G 111 [tm t,vi left]=some (vi (jgI left ((tsz t:Nat):Int)),[]):=by
 refine T.ind (p:=λt=>twf t-> ∀left:Int,0<=left->left<=1048576->G 111 [tm t,vi left]=some (vi (jgI left ((tsz t:Nat):Int)),[])) ?_ t;intro t ih hw left h0 h1;obtain⟨w1,w2,w3⟩:=(jgK t).1 hw;have w3:=(jgF _).1 w3;have hk:=joC h0 (Int.le_trans h1 (by decide)) w1;rw[jIZ,jgL];simp only[evz,hk];by_cases hc:left-t.name.length<0
 .simp only[evz,hc];rw[jhh (by omega)]
 .have e2:=jDm t.args w2 (λu hu=>ih u hu (w3 u hu)) (left-t.name.length) (by omega) (by omega);simp only[evz,hc,e2];rw[jjP,<-Int.natCast_add,<-jf9];by_cases h2:jgI left ((t.name.length+t.args.length+jjE t.args:Nat):Int)<0
  .have:jgI left ((t.name.length+t.args.length+jjE t.args:Nat):Int) = -1:=by have:=jl9 left (t.name.length+t.args.length+jjE t.args:Nat);omega
   simp only[evz,this]
  .simp only[evz,h2]
theorem jtD(l:Xi)(hl:l.length<=9223372036854775807):G 10 [ints l,ints l]=some (vb true,[]):=by
 have key:=(upto (P:=λi=>jxK (ints l) (ints l) (vi i)=some (vb true,[])) (n:=l.length) ?_ ?_ 0 (Nat.zero_le _))
 .rw [g10];simp only[Int.natCast_zero]at key;simp only[evz,key]
 .rw [jFe];simp only[evz]
 .intro i hi ih;have h5:=jgj hi hl;rw[jFe];simp only[evz,hi,Int.ofNat_lt,jfY hi,h5,ih]
theorem jAU(ts:Xg)(hl:ts.length<=9223372036854775807)(ih:∀t∈ts,G 123 [tm t,tm t]=some (vb true,[])):G 152 [tms ts,tms ts]=some (vb true,[]):=by
 have key:=(upto (P:=λi=>jsJ (tms ts) (tms ts) (vi i)=some (vb true,[])) (n:=ts.length) ?_ ?_ 0 (Nat.zero_le _))
 .rw [jJm];simp only[Int.natCast_zero]at key;simp only[evz,key]
 .rw [jBm];simp only[evz]
 .intro i hi ih';have h5:=jgj hi hl;have e1:=ih ts[i] (jfL _);rw[jBm];simp only[evz,hi,Int.ofNat_lt,jfY hi,jga,e1,h5,ih']
theorem jEk(t:T):twf t->G 123 [tm t,tm t]=some (vb true,[]):=by
 refine T.ind (p:=λt=>twf t->G 123 [tm t,tm t]=some (vb true,[])) ?_ t;intro t ih h;obtain⟨w1,w2,w3⟩:=(jgK t).1 h;have w3:=(jgF _).1 w3;have e1:=jAU t.args w2 λu hu=>ih u hu (w3 u hu);rw[jI4];simp only[evz,e1]
theorem jj3{l:Xb}{i:Nat}(h:i<l.length):Yk (sv l) (vi i)=some (vy (l[i].toNat:Int)):=by
 show(if _ then _ else _)=_;rw[jbZ ⟨by omega,by simpa using h⟩];simp[jcQ,h]
theorem jia{c:UInt8}{l:Xb} :Yk (sv (c::l)) (vi 0)=some (vy (c.toNat:Int)):=jj3 (i:=0) (l:=c::l) (by simp)
def inB(lo hi x:Int):Bool:=decide (lo<=x) && decide (x<=hi)
theorem jhz(x a b:Int):G 47 [vi x,vi a,vi b]=some (vb (inB a b x),[]):=by
 rw[g47];by_cases h:a<=x<;>simp only[evz,h,inB,Bool.true_and,Bool.false_and]
theorem jhd(x a b:Int):G 22 [vi x,vi a,vi b]=some (vb (inB a b x),[]):=by
 rw[g22];by_cases h:a<=x<;>simp only[evz,h,inB,Bool.true_and,Bool.false_and]
def upc(c:UInt8):Bool:=inB 65 90 (c.toNat:Int)
def jmQ(c:UInt8):Bool:=inB 97 122 (c.toNat:Int)
def jyV(c:UInt8):Bool:=inB 48 57 (c.toNat:Int)
def jiD(c:UInt8):Bool:=jmQ c || jyV c
theorem jng(c:UInt8):G 233 [vy (c.toNat:Int)]=some (vb (upc c),[]):=by
 rw[jKn];by_cases h:65<=(c.toNat:Int)<;>simp only[evz,h,upc,inB,Bool.true_and,Bool.false_and]
theorem jnf(c:UInt8):G 262 [vy (c.toNat:Int)]=some (vb (jmQ c),[]):=by
 rw[jKJ];by_cases h:97<=(c.toNat:Int)<;>simp only[evz,h,jmQ,inB,Bool.true_and,Bool.false_and]
theorem jqz(c:UInt8):G 263 [vy (c.toNat:Int)]=some (vb (jyV c),[]):=by
 rw[jKK];by_cases h:48<=(c.toNat:Int)<;>simp only[evz,h,jyV,inB,Bool.true_and,Bool.false_and]
theorem jqL(c:UInt8):G 169 [vy (c.toNat:Int)]=some (vb (jiD c),[]):=by
 rw[jJA];by_cases h:97<=(c.toNat:Int)<;>by_cases h2:(c.toNat:Int)<=122<;>by_cases h3:48<=(c.toNat:Int)<;>simp only[evz,h,h2,h3,jiD,jmQ,jyV,inB,Bool.true_and,Bool.false_and,Bool.or_false,Bool.true_or,Bool.false_or]
def jgk:Xb->Bool
 | []=>false
 |c::r=>upc c && (r.all jiD && decide (r.length<=3))
theorem jpI(r:Xb)(k:Nat)(hk:k<=9):inB 1 (k+1:Nat) (((r.length+1:Nat)):Int)=decide (r.length<=k):=by
 unfold inB;have:decide ((1:Int)<=((r.length+1:Nat):Int))=true:=by simp;omega
 rw[this,Bool.true_and];by_cases h:r.length<=k<;>simp[h]<;>omega
theorem jpn(s:Xb)(hs:s.length<=9223372036854775807):∀i,i<=s.length->1<=i->jqb (sv s) (vi (s.length:Nat)) (vi i)=some (vb ((s.drop i).all jiD && inB 1 4 (s.length:Nat)),[]):=by
 refine upto (P:=λi=>1<=i->jqb (sv s) (vi (s.length:Nat)) (vi i)=some (vb ((s.drop i).all jiD && inB 1 4 (s.length:Nat)),[])) ?_ ?_
 .intro _;rw[jtN,List.drop_length];have e:=jhz (s.length:Nat) 1 4;simp only[evz,e,Bool.true_and]
 .intro i hi ih h1;have ih:=ih (by omega);have hn:¬((i:Int)=0):=by omega
  have hp:(0:Int)<(i:Int):=by omega
  have hlt:(i:Int)<((s.length:Nat):Int):=by omega
  have h5:=jgj hi hs;have hx:=jj3 hi;have e1:=jnf s[i];have e2:=jqz s[i];rw[jtN,jgg hi];generalize s[i]=ch at *;rw[jev];cases h8:jmQ ch<;>cases h9:jyV ch<;>rw[h8]at e1<;>rw[h9]at e2<;>simp only[evz,hn,hp,hlt,hx,e1,e2,h5,ih,jiD,h8,h9,Bool.true_and,Bool.false_and,Bool.or_true,Bool.or_false]
theorem jmX(s:Xb)(hs:s.length<=9223372036854775807):G 260 [sv s]=some (vb (jgk s),[]):=by
 rw[jKH];show(jcW (sv s)).bind _=_;rw[jmi,Option.bind_some];cases s with
 |nil=>
  rw[jtN];have e:=jhz ((0:Nat):Int) 1 4;simp only[evz,e];rfl
 |cons c r=>
  have key:=jpn (c::r) hs 1 (by simp) (jdB _);simp only[List.drop_succ_cons,List.drop_zero]at key;have e':inB 1 4 (((c::r).length:Nat):Int)=decide (r.length<=3):=jpI r 3 (by decide);rw[e']at key;rw[jtN];have h5:jdl .add false (vi 0) (vi 1)=some (vi ((1:Nat):Int)):=by rw[ji8,jgA (by decide) (by decide)];rfl
  have h6:(0:Int)<(((c::r).length:Nat):Int):=Int.natCast_pos.2 (Nat.succ_pos _);have e1:=jng c;generalize ((((c::r).length:Nat)):Int)=n at *;cases hu:upc c<;>rw[hu]at e1<;>simp only[evz,h6,jia,e1,h5,key,jgk,hu,Bool.true_and,Bool.false_and]
theorem jw2(s:Xb)(hs:s.length<=9223372036854775807):∀i,i<=s.length->jop (sv s) (vi i)=some (vb ((s.drop i).all jiD),[]):=by
 refine upto (P:=λi=>jop (sv s) (vi i)=some (vb ((s.drop i).all jiD),[])) ?_ ?_
 .rw [jBp,List.drop_length];simp only[evz]
 .intro i hi ih;have hlt:(i:Int)<((s.length:Nat):Int):=by omega
  have h5:=jgj hi hs;have hx:=jj3 hi;have e1:=jqL s[i];rw[jBp,jgg hi];generalize s[i]=ch at *;rw[jev];cases h8:jiD ch<;>rw[h8]at e1<;>simp only[evz,hlt,hx,e1,h5,ih,Bool.true_and,Bool.false_and]
theorem jg9(s:Xb)(hs:s.length<=9223372036854775807):G 168 [sv s]=some (vb (jgk s),[]):=by
 rw[jJz];show(jcW (sv s)).bind _=_;rw[jmi,Option.bind_some];cases s with
 |nil=>
  have e:=jhd ((0:Nat):Int) 1 4;simp only[evz,e];rfl
 |cons c r=>
  have e:=jhd (((c::r).length:Nat):Int) 1 4;have e':inB 1 4 (((c::r).length:Nat):Int)=decide (r.length<=3):=jpI r 3 (by decide);rw[e']at e;have key:=jw2 (c::r) hs 1 (by simp);simp only[List.drop_succ_cons,List.drop_zero]at key;have key:jop (sv (c::r)) (vi 1)=some (vb (r.all jiD),[]):=key;generalize ((((c::r).length:Nat)):Int)=n at *;by_cases h3:r.length<=3
  .rw [decide_eq_true h3]at e;by_cases ha:(c.toNat:Int)<65
   .have:¬(65<=(c.toNat:Int)):=by omega
    simp only[evz,e,jia,ha,jgk,upc,inB,this,Bool.false_and]
   .have h65:65<=(c.toNat:Int):=by omega
    by_cases hb:90<(c.toNat:Int)
    .have:¬((c.toNat:Int)<=90):=by omega
     simp only[evz,e,jia,ha,hb,jgk,upc,inB,this,Bool.false_and,Bool.and_false]
    .have:(c.toNat:Int)<=90:=by omega
     simp only[evz,e,jia,ha,hb,jgk,upc,inB,this,h65,key,h3,Bool.true_and]
  .rw [decide_eq_false h3]at e;simp only[evz,e,jgk,h3,Bool.and_false]
def jhV(s:Xb):Xa->Option Nat
 | []=>none
 |x::l=>if s=x then some 0 else(jhV s l).map (· + 1)
def jhk(i:Nat):Option Nat->Int
 |none=> -1
 |some k=>((i+k:Nat):Int)
theorem jkl(s:Xb):∀l,(jhV s l).isSome=l.contains s
 | []=>rfl
 |x::l=>by
  simp only[jhV,List.contains_cons];by_cases h:s=x
  .simp [h]
  .have:=jkl s l;simp[h,this]
theorem jpH{s:Xb} :∀{l:Xa}{k:Nat},jhV s l=some k->k<l.length/\l[k]? = some s
 | [],_,h=>by cases h
 |x::l,k,h=>by
  simp only[jhV]at h;split at h
  .rename_i e;cases h;exact⟨by simp,by simp[e]⟩
  .obtain ⟨j,h1,rfl⟩:=jeq.1 h;have:=jpH h1;exact⟨by simp;exact this.1,by simpa using this.2⟩
theorem jyZ(s:Xb)(l:Xa):decide (jhk 0 (jhV s l)<0)=!l.contains s:=by
 rw[<-jkl];cases jhV s l<;>simp[jhk]
theorem jtG(s:Xb)(l:Xa):decide (0<=jhk 0 (jhV s l))=l.contains s:=by
 rw[<-jkl];cases jhV s l<;>simp[jhk]
theorem jqv{s x:Xb}{l:Xa}{i:Nat}(h:¬s=x):jhk (i+1) (jhV s l)=jhk i (jhV s (x::l)):=by
 simp only[jhV,h,if_false];cases jhV s l<;>simp[jhk];omega
theorem jlh(l:Xa)(s:Xb)(hl:l.length<=9223372036854775807):G 266 [strs l,sv s]=some (vi (jhk 0 (jhV s l)),[]):=by
 have key:=upto (P:=λi=>jtg (strs l) (sv s) (vi (l.length:Nat)) (vi i)=some (vi (jhk i (jhV s (l.drop i))),[])) (n:=l.length) ?_ ?_ 0 (Nat.zero_le _)
 .simp only[Int.natCast_zero,List.drop_zero]at key;rw[jKM];simp only[evz,key]
 .rw [jB5,List.drop_length];simp only[evz,jhV,jhk]
 .intro i hi ih;have hlt:(i:Int)<((l.length:Nat):Int):=by omega
  have h5:=jgj hi hl;rw[jB5,jgg hi];by_cases h:s=l[i]
  .simp only[evz,hlt,jfY hi,h,jhV,jhk,jfg]
  .simp only[evz,hlt,jfY hi,h,h5,ih,jqv h]
theorem jjj(l:Xa)(s:Xb)(hl:l.length<=9223372036854775807):G 225 [strs l,sv s]=some (vb (l.contains s),[]):=by
 have e:=jlh l s hl;rw[jKj];simp only[evz,e,jtG]
theorem jpM(o:Ord')(s:Xb)(hl:o.syms.length<=9223372036854775807):G 319 [od o,sv s]=some (vi (jhk 0 (jhV s o.syms)),[]):=by
 have key:=upto (P:=λi=>jtq (sv s) (vi i) (strs o.syms) (ints o.ws) (vi o.var)=some (vi (jhk i (jhV s (o.syms.drop i))),[])) (n:=o.syms.length) ?_ ?_ 0 (Nat.zero_le _)
 .simp only[Int.natCast_zero,List.drop_zero]at key;rw[jLb];simp only[evz,key]
 .rw [jCn,List.drop_length];simp only[evz,jhV,jhk]
 .intro i hi ih;have hlt:(i:Int)<((o.syms.length:Nat):Int):=by omega
  have h5:=jgj hi hl;rw[jCn,jgg hi];by_cases h:s=o.syms[i]
  .simp only[evz,hlt,jfY hi,h,jhV,jhk,jfg]
  .have h':¬o.syms[i]=s:=λe=>h e.symm;simp only[evz,hlt,jfY hi,h',h5,ih,jqv h]
theorem jtR(l:Xa)(s:Xb)(hl:l.length<=9223372036854775807):G 171 [strs l,sv s]=some (vb (l.contains s),[]):=by
 have key:=upto (P:=λi=>jsM (strs l) (sv s) (vi i)=some (vb ((l.drop i).contains s),[])) (n:=l.length) ?_ ?_ 0 (Nat.zero_le _)
 .simp only[Int.natCast_zero,List.drop_zero]at key;rw[jJC];exact key
 .rw [jBq,List.drop_length];simp only[evz,List.contains_nil]
 .intro i hi ih;have hlt:(i:Int)<((l.length:Nat):Int):=by omega
  have h5:=jgj hi hl;rw[jBq,jgg hi,List.contains_cons];by_cases h:l[i]=s
  .have:(s == l[i])=true:=by simp[h]
   simp only[evz,hlt,jfY hi,h];simp
  .have:(s == l[i])=false:=by simp;exact λe=>h e.symm
   simp only[evz,hlt,jfY hi,h,this,h5,ih,Bool.false_or]
def jvQ:Xa:=[[116,114,117,101],[102,97,108,115,101],[116,114,117,116,104],[98,111,116,104],[101,105,116,104,101,114],[105,102],[97,108,108],[115,111,109,101]]
def juc(c:UInt8):Bool:=jiD c || decide ((c.toNat:Int)=95)
def jhO:Xb->Bool
 | []=>false
 |c::r=>jmQ c && (r.all juc && (decide (r.length<=5) && !jvQ.contains (c::r)))
theorem jDK(a b:Xb):(a == b)=decide (a=b):=by by_cases h:a=b<;>simp[h]
theorem jrx(s:Xb)(hs:s.length<=9223372036854775807):∀i,i<=s.length->1<=i->jp6 (sv s) (vi (s.length:Nat)) (vi i)=some (vb ((s.drop i).all juc && (inB 1 6 (s.length:Nat) && !jvQ.contains s)),[]):=by
 refine upto (P:=λi=>1<=i->jp6 (sv s) (vi (s.length:Nat)) (vi i)=some (vb ((s.drop i).all juc && (inB 1 6 (s.length:Nat) && !jvQ.contains s)),[])) ?_ ?_
 .intro _;rw[jtL,List.drop_length];have e:=jhz (s.length:Nat) 1 6;have e2:=jjj jvQ s (by decide);have e3:G 264 []=some (strs jvQ,[]):=jKL;cases h:inB 1 6 (s.length:Nat)<;>rw[h]at e<;>simp only[evz,e,e2,e3,Bool.true_and,Bool.false_and]
 .intro i hi ih h1;have ih:=ih (by omega);have hn:¬((i:Int)=0):=by omega
  have hlt:(i:Int)<((s.length:Nat):Int):=by omega
  have h5:=jgj hi hs;have hx:=jj3 hi;have e1:=jnf s[i];have e2:=jqz s[i];rw[jtL,jgg hi];generalize s[i]=ch at *;rw[jev];cases h7:decide ((ch.toNat:Int)=95)<;>cases h8:jmQ ch<;>cases h9:jyV ch<;>rw[h8]at e1<;>rw[h9]at e2<;>
   simp only[evz,hn,hlt,hx,e1,e2,h5,ih,juc,jiD,h7,h8,h9,Bool.true_and,Bool.false_and,Bool.or_true,Bool.or_false]
theorem jl4(s:Xb)(hs:s.length<=9223372036854775807):G 221 [sv s]=some (vb (jhO s),[]):=by
 rw[jKf];show(jcW (sv s)).bind _=_;rw[jmi,Option.bind_some];cases s with
 |nil=>
  rw[jtL];have e:G 47 [vi ((0:Nat):Int),vi 1,vi 6]=some (vb false,[]):=jhz ((0:Nat):Int) 1 6;simp only[evz,e];rfl
 |cons c r=>
  have key:=jrx (c::r) hs 1 (by simp) (jdB _);simp only[List.drop_succ_cons,List.drop_zero]at key;have e':inB 1 6 (((c::r).length:Nat):Int)=decide (r.length<=5):=jpI r 5 (by decide);rw[e']at key;rw[jtL];have h5:jdl .add false (vi 0) (vi 1)=some (vi ((1:Nat):Int)):=by rw[ji8,jgA (by decide) (by decide)];rfl
  have h6:(0:Int)<(((c::r).length:Nat):Int):=Int.natCast_pos.2 (Nat.succ_pos _);have e1:=jnf c;generalize ((((c::r).length:Nat)):Int)=n at *;cases hu:jmQ c<;>rw[hu]at e1<;>simp only[evz,h6,jia,e1,h5,key,jhO,hu,Bool.true_and,Bool.false_and]
theorem jrz(s:Xb)(hs:s.length<=9223372036854775807):∀i,i<=s.length->jjc (sv s) (vi i)=some (vb ((s.drop i).all juc),[]):=by
 refine upto (P:=λi=>jjc (sv s) (vi i)=some (vb ((s.drop i).all juc),[])) ?_ ?_
 .rw [jBj,List.drop_length];simp only[evz]
 .intro i hi ih;have hlt:(i:Int)<((s.length:Nat):Int):=by omega
  have h5:=jgj hi hs;have hx:=jj3 hi;have e1:=jqL s[i];rw[jBj,jgg hi];generalize s[i]=ch at *;rw[jev];cases h7:decide ((ch.toNat:Int)=95)<;>cases h8:jiD ch<;>rw[h8]at e1<;>simp only[evz,hlt,hx,e1,h5,ih,juc,h7,h8,Bool.true_and,Bool.false_and,Bool.or_true,Bool.or_false]
theorem jko(s:Xb)(hs:s.length<=9223372036854775807):G 142 [sv s]=some (vb (jhO s),[]):=by
 rw[jJg];show(jcW (sv s)).bind _=_;rw[jmi,Option.bind_some];cases s with
 |nil=>
  have e:G 22 [vi ((0:Nat):Int),vi 1,vi 6]=some (vb false,[]):=jhd ((0:Nat):Int) 1 6;simp only[evz,e];rfl
 |cons c r=>
  have e:=jhd (((c::r).length:Nat):Int) 1 6;have e':inB 1 6 (((c::r).length:Nat):Int)=decide (r.length<=5):=jpI r 5 (by decide);rw[e']at e;have key:=jrz (c::r) hs 1 (by simp);simp only[List.drop_succ_cons,List.drop_zero]at key;have key:jjc (sv (c::r)) (vi 1)=some (vb (r.all juc),[]):=key;generalize ((((c::r).length:Nat)):Int)=n at *;have hres:jvQ.contains (c::r)=(decide (c::r=[116,114,117,101]) || (decide (c::r=[102,97,108,115,101]) || (decide (c::r=[116,114,117,116,104]) || (decide (c::r=[98,111,116,104]) || (decide (c::r=[101,105,116,104,101,114]) || (decide (c::r=[105,102]) || (decide (c::r=[97,108,108]) || decide (c::r=[115,111,109,101])))))))):=by
   simp only[jvQ,List.contains_cons,List.contains_nil,Bool.or_false,jDK]
  by_cases h3:r.length<=5
  .rw [decide_eq_true h3]at e;by_cases ha:(c.toNat:Int)<97
   .have:¬(97<=(c.toNat:Int)):=by omega
    simp only[evz,e,jia,ha,jhO,jmQ,inB,this,Bool.false_and]
   .have h65:97<=(c.toNat:Int):=by omega
    by_cases hb:122<(c.toNat:Int)
    .have:¬((c.toNat:Int)<=122):=by omega
     simp only[evz,e,jia,ha,hb,jhO,jmQ,inB,this,Bool.false_and,Bool.and_false]
    .have h122:(c.toNat:Int)<=122:=by omega
     have e0:jhO (c::r)=(r.all juc && !jvQ.contains (c::r)):=by
      simp[jhO,jmQ,inB,h65,h122,h3]
     rw[e0,hres];have hx0:=jia (c:=c) (l:=r);clear hres e0;generalize c::r=s at *;cases q0:decide (s=[116,114,117,101]);rotate_left
     .simp only[evz,e,hx0,ha,hb,q0,Bool.true_or,Bool.and_false]
     cases q1:decide (s=[102,97,108,115,101]);rotate_left
     .simp only[evz,e,hx0,ha,hb,q0,q1,Bool.true_or,Bool.false_or,Bool.and_false]
     cases q2:decide (s=[116,114,117,116,104]);rotate_left
     .simp only[evz,e,hx0,ha,hb,q0,q1,q2,Bool.true_or,Bool.false_or,Bool.and_false]
     cases q3:decide (s=[98,111,116,104]);rotate_left
     .simp only[evz,e,hx0,ha,hb,q0,q1,q2,q3,Bool.true_or,Bool.false_or,Bool.and_false]
     cases q4:decide (s=[101,105,116,104,101,114]);rotate_left
     .simp only[evz,e,hx0,ha,hb,q0,q1,q2,q3,q4,Bool.true_or,Bool.false_or,Bool.and_false]
     cases q5:decide (s=[105,102]);rotate_left
     .simp only[evz,e,hx0,ha,hb,q0,q1,q2,q3,q4,q5,Bool.true_or,Bool.false_or,Bool.and_false]
     cases q6:decide (s=[97,108,108]);rotate_left
     .simp only[evz,e,hx0,ha,hb,q0,q1,q2,q3,q4,q5,q6,Bool.true_or,Bool.false_or,Bool.and_false]
     cases q7:decide (s=[115,111,109,101]);rotate_left
     .simp only[evz,e,hx0,ha,hb,q0,q1,q2,q3,q4,q5,q6,q7,Bool.false_or,Bool.and_false]
     simp only[evz,e,hx0,ha,hb,q0,q1,q2,q3,q4,q5,q6,q7,Bool.or_false,key]
  .rw [decide_eq_false h3]at e;simp only[evz,e,jhO,h3,Bool.false_and,Bool.and_false]
mutual
def nodes:T->Nat
 |.mk _ us=>1+jgm us
def jgm:Xg->Nat
 | []=>0
 |t::ts=>nodes t+jgm ts
end
theorem jgx(t:T):nodes t=1+jgm t.args:=by cases t;rfl
mutual
def dep:T->Nat
 |.mk _ us=>1+jky us
def jky:Xg->Nat
 | []=>0
 |t::ts=>max (dep t) (jky ts)
end
theorem jjv(t:T):dep t=1+jky t.args:=by cases t;rfl
mutual
def okT:T->Bool
 |.mk n us=>if jgk n then us.isEmpty else jhO n && (decide (us.length<=4) && jqZ us)
def jqZ:Xg->Bool
 | []=>true
 |t::ts=>okT t && jqZ ts
end
theorem jht(t:T):okT t=if jgk t.name then t.args.isEmpty else jhO t.name && (decide (t.args.length<=4) && jqZ t.args):=by cases t;rfl
theorem jiH:∀ts,jqZ ts=ts.all okT
 | []=>rfl
 |t::ts=>by rw[jqZ,jiH ts,jev]
theorem jh5:∀t:T,nodes t<=1+tsz t:=by
 refine T.ind λt ih=>?_;have:∀ts:Xg,(∀u∈ts,nodes u<=1+tsz u)->jgm ts<=ts.length+jjE ts:=by
  intro ts;induction ts with
  |nil=>intro _;simp[jgm]
  |cons u us ih=>
   intro h;have h1:=h u (by simp);have h2:=ih λv hv=>h v (by simp[hv]);simp only[jgm,jjE,jfC];omega
 have h:=this t.args ih;rw[jgx,jgL];omega
theorem jhX(t:T):1<=nodes t:=by rw[jgx];omega
theorem jhN{ts:Xg}{t:T}(h:t∈ts):nodes t<=jgm ts:=by
 induction ts with
 |nil=>cases h
 |cons u us ih=>
  simp only[jgm];rcases ja1.1 h with rfl|h
  .omega
  .have:=ih h;omega
theorem jAH:∀t:T,dep t<=nodes t:=by
 refine T.ind λt ih=>?_;have:∀ts:Xg,(∀u∈ts,dep u<=nodes u)->jky ts<=jgm ts:=by
  intro ts;induction ts with
  |nil=>intro _;simp[jky]
  |cons u us ih=>
   intro h;have h1:=h u (by simp);have h2:=ih λv hv=>h v (by simp[hv]);simp only[jgm,jky];omega
 have h:=this t.args ih;rw[jgx,jjv];omega
theorem jzH(ts:Xg)(hl:ts.length<=9223372036854775807)(hn:jgm ts<=1048577)(ih:∀t∈ts,∃r:Nat,G 242 [tm t]=some (vi r,[])/\r<=nodes t/\(nodes t<=30->r=nodes t)/\(30<nodes t->30<r)) :
  ∀i,i<=ts.length-> ∀a:Nat,a+jgm (ts.drop i)<=1048578-> ∃r:Nat,js7 (vi a) (tms ts) (vi (ts.length:Nat)) (vi i)=some (vi r,[])/\r<=a+jgm (ts.drop i)/\(a+jgm (ts.drop i)<=30->r=a+jgm (ts.drop i))/\(30<a+jgm (ts.drop i)->30<r):=by
 refine upto ?_ ?_
 .intro a ha;rw[jwX,List.drop_length];simp only[evz,jgm,jfg];exact⟨a,rfl,jdB _,λ_=>rfl,λh=>h⟩
 .intro i hi ih' a ha;have hlt:(i:Int)<((ts.length:Nat):Int):=by omega
  have h5:=jgj hi hl;rw[jgg hi]at ha⊢;simp only[jgm]at ha⊢;obtain⟨r1,e1,b1,b2,b3⟩:=ih ts[i] (jfL _);by_cases hc:(30:Int)<(a:Int)
  .refine ⟨a,?_,by omega,by omega,by omega⟩;rw[jwX];simp only[evz,hlt,jfY hi,jga,hc]
  .have hk:ck ((a:Int)+(r1:Int))=some (vi ((a+r1:Nat):Int)):=by rw[jgA (by omega) (by omega)];rfl
   obtain⟨r2,e2,c1,c2,c3⟩:=ih' (a+r1) (by omega);refine⟨r2,?_,by omega,by omega,by omega⟩;rw[jwX];simp only[evz,hlt,jfY hi,jga,hc,e1,hk,h5,e2]
theorem size_eq:∀t:T,twf t->tsz t<=1048576-> ∃r:Nat,G 242 [tm t]=some (vi r,[])/\r<=nodes t/\(nodes t<=30->r=nodes t)/\(30<nodes t->30<r):=by
 refine T.ind λt ih hw hs=>?_;obtain⟨w1,w2,w3⟩:=(jgK t).1 hw;have w3:=(jgF _).1 w3;have hn:=jh5 t;rw[jgx]at hn;rw[jgL]at hs;obtain⟨r,h1,h2,h3,h4⟩:=jzH t.args w2 (by rw[jgL]at hn;omega) (λu hu=>ih u hu (w3 u hu) (by have:=jhr hu;omega)) 0 (Nat.zero_le _) 1 (by rw[jgL]at hn;simp;omega);simp only[List.drop_zero,Int.natCast_zero,Int.natCast_one]at h1 h2 h3 h4;refine⟨r,?_,by rw[jgx];exact h2,by rw[jgx];exact h3,by rw[jgx];exact h4⟩;rw[jKr];simp only[evz,h1]
theorem jzh(n:Xb)(most:Int)(hm1: -1048600<=most)(hm:most<=1048576)(ts:Xg)(hl:ts.length<=9223372036854775807)(ih:∀t∈ts,∀m:Int,-1048600<=m->m<=1048576-> ∃r:Nat,G 166 [tm t,vi m]=some (vi r,[])/\1<=r/\r<=nodes t/\((nodes t:Int)<=m->r=nodes t)/\(m<nodes t->m<r)) :
  ∀i,i<=ts.length-> ∀a:Nat,1<=a->a+jgm (ts.drop i)<=1048578-> ∃r:Nat,jsK (vi most) (vi a) (vi i) (sv n) (tms ts)=some (vi r,[])/\1<=r/\r<=a+jgm (ts.drop i)/\(((a+jgm (ts.drop i):Nat):Int)<=most->r=a+jgm (ts.drop i))/\(most<((a+jgm (ts.drop i):Nat):Int)->most<r):=by
 refine upto ?_ ?_
 .intro a h1 ha;rw[jwO,List.drop_length];simp only[evz,jgm,jfg];exact⟨a,rfl,h1,jdB _,λ_=>rfl,λh=>h⟩
 .intro i hi ih' a h1 ha;have hlt:(i:Int)<((ts.length:Nat):Int):=by omega
  have h5:=jgj hi hl;rw[jgg hi]at ha⊢;simp only[jgm]at ha⊢;by_cases hc:(a:Int)<=most
  .obtain ⟨r1,e1,b0,b1,b2,b3⟩:=ih ts[i] (jfL _) (most-a) (by omega) (by omega);have hk0:ck (most-(a:Int))=some (vi (most-a)):=jgA (by omega) (by omega);have hk:ck ((a:Int)+(r1:Int))=some (vi ((a+r1:Nat):Int)):=by rw[jgA (by omega) (by omega)];rfl
   obtain⟨r2,e2,c0,c1,c2,c3⟩:=ih' (a+r1) (by omega) (by omega);refine⟨r2,?_,by omega,by omega,by omega,by omega⟩;rw[jwO];simp only[evz,hlt,jfY hi,jga,hc,hk0,e1,hk,h5,e2]
  .refine ⟨a,?_,h1,by omega,by omega,by omega⟩;rw[jwO];simp only[evz,hlt,hc]
theorem jEu:∀t:T,twf t->tsz t<=1048576-> ∀m:Int,-1048600<=m->m<=1048576-> ∃r:Nat,G 166 [tm t,vi m]=some (vi r,[])/\1<=r/\r<=nodes t/\((nodes t:Int)<=m->r=nodes t)/\(m<nodes t->m<r):=by
 refine T.ind λt ih hw hs m hm1 hm=>?_;obtain⟨w1,w2,w3⟩:=(jgK t).1 hw;have w3:=(jgF _).1 w3;have hn:=jh5 t;rw[jgx]at hn;obtain⟨r,h1,h0,h2,h3,h4⟩:=jzh t.name m hm1 hm t.args w2 (λu hu m h1 h2=>ih u hu (w3 u hu) (by have:=jhr hu;rw[jgL]at hs;omega) m h1 h2) 0 (Nat.zero_le _) 1 (jdB _) (by simp;omega);simp only[List.drop_zero,Int.natCast_zero,Int.natCast_one]at h1 h2 h3 h4;refine⟨r,?_,h0,by rw[jgx];exact h2,by rw[jgx];exact h3,by rw[jgx];exact h4⟩;rw[jJx];simp only[evz,h1]
theorem jwJ(ts:Xg)(hl:ts.length<=9223372036854775807)(hn:jgm ts<=1048577)(ih:∀t∈ts,G 243 [tm t]=some (vi (dep t:Nat),[])) :
  ∀i,i<=ts.length-> ∀a:Nat,a<=1048577->js8 (vi a) (tms ts) (vi (ts.length:Nat)) (vi i)=some (vi ((max a (jky (ts.drop i))+1:Nat):Int),[]):=by
 refine upto ?_ ?_
 .intro a ha;have hk:ck ((a:Int)+1)=some (vi ((a+1:Nat):Int)):=by rw[jgA (by omega) (by omega)];rfl
  rw[jBU,List.drop_length];simp only[evz,jky,hk,Nat.max_zero]
 .intro i hi ih' a ha;have hlt:(i:Int)<((ts.length:Nat):Int):=by omega
  have h5:=jgj hi hl;have e1:=ih ts[i] (jfL _);have hd:dep ts[i]<=1048577:=jfI (jAH _) (jfI (jhN (jfL hi)) hn);have hmx:(if(a:Int)<((dep ts[i]:Nat):Int)then((dep ts[i]:Nat):Int)else(a:Int))=((max a (dep ts[i]):Nat):Int):=by split<;>omega
  have ih':=ih' (max a (dep ts[i])) (by omega);rw[jBU,jgg hi];simp only[evz,hlt,jfY hi,jga,e1,hmx,h5,ih',jky,Nat.max_assoc]
theorem jAI:∀t:T,twf t->tsz t<=1048576->G 243 [tm t]=some (vi (dep t:Nat),[]):=by
 refine T.ind λt ih hw hs=>?_;obtain⟨w1,w2,w3⟩:=(jgK t).1 hw;have w3:=(jgF _).1 w3;have hn:=jh5 t;rw[jgx]at hn;have h1:=jwJ t.args w2 (by omega) (λu hu=>ih u hu (w3 u hu) (by have:=jhr hu;rw[jgL]at hs;omega)) 0 (Nat.zero_le _) 0 (by omega);simp only[List.drop_zero,Int.natCast_zero,Nat.zero_max]at h1;rw[jKs,jjv,Nat.add_comm];simp only[evz,h1]
theorem jEw(a b:Nat):G 209 [vi a,vi b]=some (vi ((max a b:Nat):Int),[]):=by
 rw[jJ4];by_cases h:(b:Int)<(a:Int)
 .simp only[evz,h];rw[Nat.max_eq_left (by omega)]
 .simp only[evz,h];rw[Nat.max_eq_right (by omega)]
theorem jtQ(n:Xb)(ts:Xg)(hl:ts.length<=9223372036854775807)(hn:jgm ts<=1048577)(ih:∀t∈ts,G 167 [tm t]=some (vi (dep t:Nat),[])) :
  ∀i,i<=ts.length-> ∀a:Nat,a<=1048577->jsL (vi a) (vi i) (sv n) (tms ts)=some (vi ((max a (jky (ts.drop i))+1:Nat):Int),[]):=by
 refine upto ?_ ?_
 .intro a ha;have hk:ck ((a:Int)+1)=some (vi ((a+1:Nat):Int)):=by rw[jgA (by omega) (by omega)];rfl
  rw[jBo,List.drop_length];simp only[evz,jky,hk,Nat.max_zero]
 .intro i hi ih' a ha;have hlt:(i:Int)<((ts.length:Nat):Int):=by omega
  have h5:=jgj hi hl;have e1:=ih ts[i] (jfL _);have e2:=jEw a (dep ts[i]);have hd:dep ts[i]<=1048577:=jfI (jAH _) (jfI (jhN (jfL hi)) hn);have ih':=ih' (max a (dep ts[i])) (by omega);rw[jBo,jgg hi];simp only[evz,hlt,jfY hi,jga,e1,e2,h5,ih',jky,Nat.max_assoc]
theorem jw1:∀t:T,twf t->tsz t<=1048576->G 167 [tm t]=some (vi (dep t:Nat),[]):=by
 refine T.ind λt ih hw hs=>?_;obtain⟨w1,w2,w3⟩:=(jgK t).1 hw;have w3:=(jgF _).1 w3;have hn:=jh5 t;rw[jgx]at hn;have h1:=jtQ t.name t.args w2 (by omega) (λu hu=>ih u hu (w3 u hu) (by have:=jhr hu;rw[jgL]at hs;omega)) 0 (Nat.zero_le _) 0 (by omega);simp only[List.drop_zero,Int.natCast_zero,Nat.zero_max]at h1;rw[jJy,jjv,Nat.add_comm];simp only[evz,h1]
def jgr(t:T):Bool:=decide (nodes t<=30) && decide (dep t<=8)
def jgR(t:T):Bool:=jgr t && okT t
theorem jli(t:T)(hw:twf t)(hs:tsz t<=1048576):G 205 [tm t]=some (vb (jgr t),[]):=by
 obtain⟨r,h1,h2,h3,h4⟩:=size_eq t hw hs;have hd:=jAI t hw hs;rw[jJ0];by_cases h:nodes t<=30
 .have:(r:Int)<=30:=by have:=h3 h;omega
  have e:decide (((dep t:Nat):Int)<=8)=decide (dep t<=8):=by congr 1;exact propext (by omega)
  simp only[evz,h1,hd,this,jgr,h,e,Bool.true_and]
 .have:¬(r:Int)<=30:=by have:=h4 (by omega);omega
  simp only[evz,h1,this,jgr,h,Bool.false_and]
theorem jr3(t:T)(hw:twf t)(hs:tsz t<=1048576):G 140 [tm t]=some (vb (jgr t),[]):=by
 obtain⟨r,h1,h0,h2,h3,h4⟩:=jEu t hw hs 30 (by decide) (by decide);have hd:=jw1 t hw hs;rw[jJe];by_cases h:nodes t<=30
 .have:(r:Int)<=30:=by have:=h3 (by omega);omega
  have e:decide (((dep t:Nat):Int)<=8)=decide (dep t<=8):=by congr 1;exact propext (by omega)
  simp only[evz,h1,hd,this,jgr,h,e,Bool.true_and]
 .have:¬(r:Int)<=30:=by have:=h4 (by omega);omega
  simp only[evz,h1,this,jgr,h,Bool.false_and]
theorem jpm{f:FuncId}{caps:Xd}(hsig:K.pureF f=true)(p:T->Bool)(ts:Xg)(hl:ts.length<=9223372036854775807)(h:∀t∈ts,G f (tm t::caps)=some (vb (p t),[])) :
  ∃r:Int,G 239 [tms ts,.fn f caps]=some (vi r,[])/\decide (0<=r)=ts.any p:=by
 have key:=upto (P:=λi=>∃r:Int,js5 (tms ts) (.fn f caps) (vi (ts.length:Nat)) (vi i)=some (vi r,[])/\decide (0<=r)=(ts.drop i).any p) (n:=ts.length) ?_ ?_ 0 (Nat.zero_le _)
 .obtain ⟨r,h1,h2⟩:=key;simp only[Int.natCast_zero,List.drop_zero]at h1 h2;refine⟨r,?_,h2⟩;rw[jKp];simp only[evz,h1]
 .refine ⟨-1,?_,by simp⟩;rw[jBT];simp only[evz]
 .intro i hi ih;obtain⟨r,h1,h2⟩:=ih;have hlt:(i:Int)<((ts.length:Nat):Int):=by omega
  have h5:=jgj hi hl;have e1:=h ts[i] (jfL _);rw[jBT,jgg hi,List.any_cons];cases hp:p ts[i]<;>rw[hp]at e1
  .refine ⟨r,?_,by rw[h2,Bool.false_or]⟩;simp only[evz,hlt,jfY hi,jga,jhU hsig,jf0,jfw,e1,h5,h1]
  .refine ⟨i,?_,by simp⟩;simp only[evz,hlt,jfY hi,jga,jhU hsig,jf0,jfw,e1]
theorem jlY{f:FuncId}{caps:Xd}(hsig:K.pureF f=true)(p:T->Bool)(ts:Xg)(hl:ts.length<=9223372036854775807)(h:∀t∈ts,G f (tm t::caps)=some (vb (p t),[])) :
  G 201 [tms ts,.fn f caps]=some (vb (ts.any p),[]):=by
 obtain⟨r,h1,h2⟩:=jpm hsig p ts hl h;rw[jJX];simp only[evz,h1,h2]
theorem joZ(p:T->Bool)(ts:Xg):(ts.any λt=> !p t)=!ts.all p:=by
 induction ts with
 |nil=>rfl
 |cons t ts ih=>rw[List.any_cons,jev,ih];cases p t<;>rfl
theorem jl3:∀t:T,twf t->G 220 [tm t]=some (vb (okT t),[]):=by
 refine T.ind λt ih hw=>?_;obtain⟨w1,w2,w3⟩:=(jgK t).1 hw;have w3:=(jgF _).1 w3;have e1:=jmX t.name w1;have e2:=jl4 t.name w1;have e3:=jlY (f:=261) (caps:=[]) rfl (λu=> !okT u) t.args w2 (λu hu=>by
  have:=ih u hu (w3 u hu);rw[jKI];simp only[evz,this])
 rw[joZ,<-jiH]at e3;rw[jKe,jht];have e4:decide (((t.args.length:Nat):Int)=0)=t.args.isEmpty:=by cases t.args<;>simp;omega
 have e5:decide (((t.args.length:Nat):Int)<=4)=decide (t.args.length<=4):=by congr 1;exact propext (by omega)
 cases hv:jgk t.name<;>rw[hv]at e1
 .cases hy:jhO t.name<;>rw[hy]at e2
  .simp only[evz,e1,e2,Bool.false_and]
  .cases ha:decide (t.args.length<=4)<;>rw[ha]at e5
   .simp only[evz,e1,e2,e5,Bool.false_and,Bool.true_and]
   .simp only[evz,e1,e2,e5,e3,Bool.true_and,Bool.not_not]
 .simp only[evz,e1,e4]
theorem jnj:∀t:T,twf t->G 141 [tm t]=some (vb (okT t),[]):=by
 refine T.ind λt ih hw=>?_;obtain⟨w1,w2,w3⟩:=(jgK t).1 hw;have w3:=(jgF _).1 w3;have e1:=jg9 t.name w1;have e2:=jko t.name w1;have key:=upto (P:=λi=>jsI (vi i) (sv t.name) (tms t.args)=some (vb (jqZ (t.args.drop i)),[])) (n:=t.args.length) ?_ ?_ 0 (Nat.zero_le _)
 .simp only[Int.natCast_zero,List.drop_zero]at key;rw[jJf,jht];have e4:decide (((t.args.length:Nat):Int)=0)=t.args.isEmpty:=by cases t.args<;>simp;omega
  cases hv:jgk t.name<;>rw[hv]at e1
  .cases hy:jhO t.name<;>rw[hy]at e2
   .simp only[evz,e1,e2,Bool.false_and]
   .by_cases ha:4<((t.args.length:Nat):Int)
    .have:¬t.args.length<=4:=by omega
     simp only[evz,e1,e2,ha,this,Bool.false_and,Bool.and_false]
    .have:t.args.length<=4:=by omega
     simp only[evz,e1,e2,ha,this,key,Bool.true_and]
  .simp only[evz,e1,e4]
 .rw [jBi,List.drop_length];simp only[evz,jqZ]
 .intro i hi ih';have hlt:(i:Int)<((t.args.length:Nat):Int):=by omega
  have h5:=jgj hi w2;have e3:=ih t.args[i] (jfL _) (w3 _ (jfL _));rw[jBi,jgg hi,jqZ];cases hp:okT t.args[i]<;>rw[hp]at e3
  .simp only[evz,hlt,jfY hi,jga,e3,Bool.false_and]
  .simp only[evz,hlt,jfY hi,jga,e3,h5,ih',Bool.true_and]
theorem jl5(t:T)(hw:twf t)(hs:tsz t<=1048576):G 222 [tm t]=some (vb (jgR t),[]):=by
 have e1:=jli t hw hs;have e2:=jl3 t hw;rw[jKg,jgR];cases h:jgr t<;>rw[h]at e1<;>simp only[evz,e1,e2,Bool.true_and,Bool.false_and]
theorem jjf(t:T)(hw:twf t)(hs:tsz t<=1048576):G 143 [tm t]=some (vb (jgR t),[]):=by
 have e1:=jr3 t hw hs;have e2:=jnj t hw;rw[jJh,jgR];cases h:jgr t<;>rw[h]at e1<;>simp only[evz,e1,e2,Bool.true_and,Bool.false_and]
theorem jiI{xs:Xi}{i:Nat}(h:i<xs.length):kL 1 (ints xs) (vi i)=some (.elt (ci xs[i]) 0):=jfY h
def jyR(o:Ord')(i:Nat):Bool:=jhO (o.syms.getD i []) && (!(o.syms.take i).contains (o.syms.getD i []) && inB o.var 100 (o.ws.getD i 0))
def jhB(o:Ord'):Bool:=inB 1 12 (o.syms.length:Nat) && (decide (o.ws.length=o.syms.length) && (inB 1 100 o.var && (List.range o.syms.length).all (jyR o)))
theorem jxj{n i:Nat}(h:i<n):(List.range n).drop i=i::(List.range n).drop (i+1):=by
 have h':i<(List.range n).length:=by simpa using h
 rw[List.drop_eq_getElem_cons h',List.getElem_range]
theorem jvf(o:Ord')(hw:owf o)(hl:o.ws.length=o.syms.length):∀i,i<=o.syms.length->jtf (vi i) (strs o.syms) (ints o.ws) (vi o.var)=some (vb (((List.range o.syms.length).drop i).all (jyR o)),[]):=by
 refine upto ?_ ?_
 .rw [jB3,List.drop_of_length_le (by simp)];simp only[evz]
 .intro i hi ih;have hlt:(i:Int)<((o.syms.length:Nat):Int):=by omega
  have hi2:i<o.ws.length:=by omega
  have h5:=jgj hi hw.1.2;have hs:=hw.1.1 o.syms[i] (jfL _);have e1:=jko o.syms[i] hs;have hsl:Jy 1 (strs o.syms) none (some (vi i))=some (strs (o.syms.take i)):=by rw[jiW (by simp;omega),<-List.map_take]
  have e2:=jtR (o.syms.take i) o.syms[i] (by rw[List.length_take];exact jfI (Nat.min_le_right _ _) hw.1.2)
  have e3:=jhd o.ws[i] o.var 100;have hc:jyR o i=(jhO o.syms[i] && (!(o.syms.take i).contains o.syms[i] && inB o.var 100 o.ws[i])):=by simp[jyR,jcQ,hi,hi2]
  rw[jB3,jxj hi,jev,hc];cases h1:jhO o.syms[i]<;>rw[h1]at e1
  .simp only[evz,hlt,jfY hi,e1,Bool.false_and]
  .cases h2:(o.syms.take i).contains o.syms[i]<;>rw[h2]at e2
   .cases h3:inB o.var 100 o.ws[i]<;>rw[h3]at e3
    .simp only[evz,hlt,jfY hi,jiI hi2,e1,hsl,e2,e3,Bool.false_and,Bool.true_and]
    .simp only[evz,hlt,jfY hi,jiI hi2,e1,hsl,e2,e3,h5,ih,Bool.true_and]
   .simp only[evz,hlt,jfY hi,e1,hsl,e2,Bool.false_and,Bool.true_and]
theorem jzc(o:Ord')(hw:owf o):G 255 [od o]=some (vb (jhB o),[]):=by
 have e1:=jhd (o.syms.length:Nat) 1 12;have e2:=jhd o.var 1 100;rw[jKC,jhB];cases h1:inB 1 12 (o.syms.length:Nat)<;>rw[h1]at e1
 .simp only[evz,e1,Bool.false_and]
 .by_cases h2:o.ws.length=o.syms.length
  .have h2':((o.ws.length:Nat):Int)=((o.syms.length:Nat):Int):=by rw[h2]
   have key:=jvf o hw h2 0 (Nat.zero_le _);simp only[Int.natCast_zero,List.drop_zero]at key;cases h3:inB 1 100 o.var<;>rw[h3]at e2
   .simp only[evz,e1,h2',e2,Bool.false_and,Bool.and_false]
   .simp only[evz,e1,h2,e2,key,Bool.true_and]
  .have h2':¬((o.ws.length:Nat):Int)=((o.syms.length:Nat):Int):=by omega
   simp only[evz,e1,h2',h2,Bool.false_and,Bool.true_and]
mutual
def jja(l:Xa):T->Bool
 |.mk n us=>(jgk n || l.contains n) && jjU l us
def jjU(l:Xa):Xg->Bool
 | []=>true
 |t::ts=>jja l t && jjU l ts
end
theorem jiK(l:Xa)(t:T):jja l t=((jgk t.name || l.contains t.name) && jjU l t.args):=by cases t;rfl
theorem jkI(l:Xa):∀ts,jjU l ts=ts.all (jja l)
 | []=>rfl
 |t::ts=>by rw[jjU,jkI l ts,jev]
theorem jgQ{t:T}(h:okT t=true):∀u∈t.args,okT u=true:=by
 rw[jht]at h;intro u hu;split at h
 .rw [List.isEmpty_iff.1 h]at hu;cases hu
 .simp only[jbX]at h;rw[jiH]at h;exact jfn.1 h.2.2 u hu
theorem jvp{t:T}(h:okT t=true):∃c r,t.name=c::r/\jgk t.name=upc c/\(upc c=false->jhO t.name=true):=by
 rw[jht]at h;cases hn:t.name with
 |nil=>rw[hn]at h;simp[jgk,jhO]at h
 |cons c r=>
  refine⟨c,r,rfl,?_,?_⟩
  .rw [hn]at h;cases hu:upc c with
   |false=>simp[jgk,hu]
   |true=>
    cases hv:jgk (c::r)with
    |true=>rfl
    |false=>
     rw[hv]at h;have:jmQ c=false:=by
      simp only[upc,inB,jmQ,jbX,jfH]at hu⊢;have:¬(97<=(c.toNat:Int)):=by omega
      simp[this]
     simp[jhO,this]at h
  .intro hu;rw[hn]at h;have:jgk (c::r)=false:=by simp[jgk,hu]
   rw[this]at h;simp at h;exact h.1
theorem jjW(t:T)(h:okT t=true):G 197 [tm t]=some (vb (jgk t.name),[]):=by
 obtain⟨c,r,hn,hv,_⟩:=jvp h;have e1:=jng c;rw[<-hv]at e1;rw[jHN];have hx:Yk (sv t.name) (vi 0)=some (vy (c.toNat:Int)):=by rw[hn];exact jia
 simp only[evz,hx,e1]
theorem jve(o:Ord')(ho:o.syms.length<=9223372036854775807):∀t:T,twf t->G 287 [od o,tm t]=some (vb (jja o.syms t),[]):=by
 refine T.ind λt ih hw=>?_;obtain⟨w1,w2,w3⟩:=(jgK t).1 hw;have w3:=(jgF _).1 w3;have e1:=jg9 t.name w1;have e2:=jpM o t.name ho;have e2':=jyZ t.name o.syms;have key:=upto (P:=λi=>jtk (vi i) (strs o.syms) (ints o.ws) (vi o.var) (sv t.name) (tms t.args)=some (vb (jjU o.syms (t.args.drop i)),[])) (n:=t.args.length) ?_ ?_ 0 (Nat.zero_le _)
 .simp only[Int.natCast_zero,List.drop_zero]at key;rw[jKX,jiK];cases hv:jgk t.name<;>rw[hv]at e1
  .cases hc:o.syms.contains t.name<;>rw[hc]at e2'
   .simp only[evz,e1,e2,e2',Bool.false_or,Bool.false_and]
   .simp only[evz,e1,e2,e2',key,Bool.false_or,Bool.true_and]
  .simp only[evz,e1,key,Bool.true_or,Bool.true_and]
 .rw [jCa,List.drop_length];simp only[evz,jjU]
 .intro i hi ih';have hlt:(i:Int)<((t.args.length:Nat):Int):=by omega
  have h5:=jgj hi w2;have e3:=ih t.args[i] (jfL _) (w3 _ (jfL _));rw[jCa,jgg hi,jjU];cases hp:jja o.syms t.args[i]<;>rw[hp]at e3
  .simp only[evz,hlt,jfY hi,jga,e3,Bool.false_and]
  .simp only[evz,hlt,jfY hi,jga,e3,h5,ih',Bool.true_and]
def good(o:Ord')(t:T):Bool:=jgR t && jja o.syms t
theorem jr7(o:Ord')(t:T)(ho:o.syms.length<=9223372036854775807)(hw:twf t)(hs:tsz t<=1048576):G 256 [od o,tm t]=some (vb (good o t),[]):=by
 have e1:=jjf t hw hs;have e2:=jve o ho t hw;rw[jKD,good];cases h:jgR t<;>rw[h]at e1<;>simp only[evz,e1,e2,Bool.true_and,Bool.false_and]
def jps(o:Ord')(n:Xb):Int:=match jhV n o.syms with|some k=>o.ws.getD k 0|none=>0
mutual
def wt(o:Ord'):T->Int
 |.mk n us=>(if jgk n then o.var else jps o n)+wtL o us
def wtL(o:Ord'):Xg->Int
 | []=>0
 |t::ts=>wt o t+wtL o ts
end
theorem jwh(o:Ord')(t:T):wt o t=(if jgk t.name then o.var else jps o t.name)+wtL o t.args:=by cases t;rfl
theorem jkv{o:Ord'}(h:jhB o=true):o.ws.length=o.syms.length/\1<=o.var/\o.var<=100/\ ∀i,i<o.syms.length->o.var<=o.ws.getD i 0/\o.ws.getD i 0<=100:=by
 simp only[jhB,jbX,jfH,inB]at h;obtain⟨_,h2,⟨h3,h4⟩,h5⟩:=h;refine⟨h2,h3,h4,λi hi=>?_⟩;have:=jfn.1 h5 i (by simpa using hi);simp only[jyR,jbX,inB,jfH]at this;exact this.2.2
theorem jnQ{o:Ord'}{n:Xb}(h:o.syms.contains n=true):∃k,jhV n o.syms=some k/\k<o.syms.length:=by
 rw[<-jkl]at h;obtain⟨k,hk⟩:=Option.isSome_iff_exists.1 h;exact⟨k,hk,(jpH hk).1⟩
theorem jub{o:Ord'}(hv:jhB o=true){n:Xb}(h:o.syms.contains n=true):kL 1 (ints o.ws) (vi (jhk 0 (jhV n o.syms)))=some (.elt (ci (jps o n)) 0)/\1<=jps o n/\jps o n<=100:=by
 obtain⟨k,hk,hlt⟩:=jnQ h;obtain⟨h1,h2,h3,h4⟩:=jkv hv;have h5:=h4 k hlt;have hlt':k<o.ws.length:=by omega
 have e:jps o n=o.ws[k]:=by simp[jps,hk,jcQ,hlt']
 rw[hk];have e2:jhk 0 (some k)=((k:Nat):Int):=by simp[jhk]
 rw[e2,jiI hlt',e];have e3:o.ws.getD k 0=o.ws[k]:=by simp[jcQ,hlt']
 rw[e3]at h5;exact⟨rfl,by omega,by omega⟩
theorem jmr{o:Ord'}(hv:jhB o=true):∀t:T,jja o.syms t=true->1<=wt o t/\wt o t<=100*nodes t:=by
 refine T.ind λt ih hc=>?_;rw[jiK,jbX]at hc;obtain⟨h1,h2,h3,_⟩:=jkv hv;have hL:∀ts:Xg,(∀u∈ts,1<=wt o u/\wt o u<=100*nodes u)->0<=wtL o ts/\wtL o ts<=100*jgm ts:=by
  intro ts;induction ts with
  |nil=>intro _;simp[wtL,jgm]
  |cons u us ih=>
   intro h;have a:=h u (by simp);have b:=ih λv hv=>h v (by simp[hv]);simp only[wtL,jgm];omega
 have hb:=hL t.args λu hu=>ih u hu (by
  have:=hc.2;rw[jkI]at this;exact jfn.1 this u hu)
 rw[jwh,jgx];cases hn:jgk t.name with
 |true=>simp only[jer];omega
 |false=>
  have hcn:=hc.1;rw[hn,Bool.false_or]at hcn;have:=(jub hv hcn).2;simp only[jfB,if_false];omega
theorem jk0{o:Ord'}(hv:jhB o=true){ts:Xg}(hc:jjU o.syms ts=true):0<=wtL o ts/\wtL o ts<=100*jgm ts:=by
 induction ts with
 |nil=>simp[wtL,jgm]
 |cons u us ih=>
  simp only[jjU,jbX]at hc;have a:=jmr hv u hc.1;have b:=ih hc.2;simp only[wtL,jgm];omega
theorem jqs{l:Xa}{ts:Xg}(h:jjU l ts=true)(i:Nat):jjU l (ts.drop i)=true:=by
 rw[jkI]at h⊢;exact jfn.2 λu hu=>jfn.1 h u (List.mem_of_mem_drop hu)
theorem jiS{l:Xa}{ts:Xg}(h:jjU l ts=true){u:T}(hu:u∈ts):jja l u=true:=by
 rw[jkI]at h;exact jfn.1 h u hu
theorem jwf{o:Ord'}(hv:jhB o=true)(ts:Xg)(hl:ts.length<=9223372036854775807)(hn:jgm ts<=1048577)(hc:jjU o.syms ts=true)(ih:∀t∈ts,G 315 [od o,tm t]=some (vi (wt o t),[])) :
  ∀i,i<=ts.length-> ∀a:Int,0<=a->a+wtL o (ts.drop i)<=200000000->jto (vi a) (tms ts) (vi (ts.length:Nat)) (vi i) (strs o.syms) (ints o.ws) (vi o.var)=some (vi (a+wtL o (ts.drop i)),[]):=by
 refine upto ?_ ?_
 .intro a ha hb;rw[jCl,List.drop_length];simp only[evz,wtL,Int.add_zero]
 .intro i hi ih' a ha hb;have hlt:(i:Int)<((ts.length:Nat):Int):=by omega
  have h5:=jgj hi hl;have e1:=ih ts[i] (jfL _);have b1:=jmr hv ts[i] (jiS hc (jfL _));have b2:=jk0 hv (jqs hc (i+1));rw[jgg hi]at hb⊢;simp only[wtL]at hb⊢;have hk:ck (a+wt o ts[i])=some (vi (a+wt o ts[i])):=jgA (by omega) (by omega);have ih':=ih' (a+wt o ts[i]) (by omega) (by omega);rw[jCl];simp only[evz,hlt,jfY hi,jga,e1,hk,h5,ih',Int.add_assoc]
theorem jsz{o:Ord'}(hv:jhB o=true)(ho:o.syms.length<=9223372036854775807):∀t:T,twf t->tsz t<=1048576->okT t=true->jja o.syms t=true->G 315 [od o,tm t]=some (vi (wt o t),[]):=by
 refine T.ind λt ih hw hs hk hc=>?_;obtain⟨w1,w2,w3⟩:=(jgK t).1 hw;have w3:=(jgF _).1 w3;have e1:=jjW t hk;have hb:=jmr hv t hc;have hn:=jh5 t;rw[jgx]at hn;rw[jgx]at hb;have hks:=jgQ hk;rw[jht]at hk;rw[jiK,jbX]at hc;rw[jwh]at hb⊢;rw[jK9];cases hvn:jgk t.name<;>rw[hvn]at e1 hc hk hb
 .have hcn:=hc.1;rw[Bool.false_or]at hcn;obtain⟨e2,e3,e4⟩:=jub hv hcn;have e5:=jlh o.syms t.name ho;have hbl:=jk0 hv hc.2;have key:=jwf hv t.args w2 (by omega) hc.2 (λu hu=>ih u hu (w3 u hu) (by have:=jhr hu;rw[jgL]at hs;omega) (hks u hu) (jiS hc.2 hu)) 0 (Nat.zero_le _) (jps o t.name) (by omega) (by simp only[List.drop_zero];omega);simp only[Int.natCast_zero,List.drop_zero]at key;simp only[evz,e1,e5,e2,key]
 .simp only[jer]at hk;have:t.args=[]:=List.isEmpty_iff.1 hk;rw[this];simp only[evz,e1,wtL,Int.add_zero]
theorem jrA{o:Ord'}(hv:jhB o=true)(n:Xb)(ts:Xg)(hl:ts.length<=9223372036854775807)(hc:jjU o.syms ts=true)(ih:∀t∈ts,G 289 [od o,tm t]=some (vi (wt o t),[])) :
  ∀i,i<=ts.length-> ∀a:Int,0<=a->a+wtL o (ts.drop i)<=200000000->jqe (vi a) (vi i) (strs o.syms) (ints o.ws) (vi o.var) (sv n) (tms ts)=some (vi (a+wtL o (ts.drop i)),[]):=by
 refine upto ?_ ?_
 .intro a ha hb;rw[jCc,List.drop_length];simp only[evz,wtL,Int.add_zero]
 .intro i hi ih' a ha hb;have hlt:(i:Int)<((ts.length:Nat):Int):=by omega
  have h5:=jgj hi hl;have e1:=ih ts[i] (jfL _);have b1:=jmr hv ts[i] (jiS hc (jfL _));have b2:=jk0 hv (jqs hc (i+1));rw[jgg hi]at hb⊢;simp only[wtL]at hb⊢;have hk:ck (a+wt o ts[i])=some (vi (a+wt o ts[i])):=jgA (by omega) (by omega);have ih':=ih' (a+wt o ts[i]) (by omega) (by omega);rw[jCc];simp only[evz,hlt,jfY hi,jga,e1,hk,h5,ih',Int.add_assoc]
theorem jo7{o:Ord'}(hv:jhB o=true)(ho:o.syms.length<=9223372036854775807):∀t:T,twf t->tsz t<=1048576->jja o.syms t=true->G 289 [od o,tm t]=some (vi (wt o t),[]):=by
 refine T.ind λt ih hw hs hc=>?_;obtain⟨w1,w2,w3⟩:=(jgK t).1 hw;have w3:=(jgF _).1 w3;have e1:=jg9 t.name w1;have hb:=jmr hv t hc;have hn:=jh5 t;rw[jgx]at hn;rw[jgx]at hb;obtain⟨_,v2,v3,_⟩:=jkv hv;rw[jiK,jbX]at hc;rw[jwh]at hb⊢;rw[jKZ];have hbl:=jk0 hv hc.2;have key:=λa h1 h2=>jrA hv t.name t.args w2 hc.2 (λu hu=>ih u hu (w3 u hu) (by have:=jhr hu;rw[jgL]at hs;omega) (jiS hc.2 hu)) 0 (Nat.zero_le _) a h1 h2;simp only[Int.natCast_zero,List.drop_zero]at key;cases hvn:jgk t.name<;>rw[hvn]at e1 hc hb
 .have hcn:=hc.1;rw[Bool.false_or]at hcn;obtain⟨e2,e3,e4⟩:=jub hv hcn;have e5:=jpM o t.name ho;have key:=key (jps o t.name) (by omega) (by omega);simp only[evz,e1,e5,e2,key]
 .have key:=key o.var (by omega) (by omega);simp only[evz,e1,key]
theorem jr0{o:Ord'}{t:T}(h:good o t=true):okT t=true/\jja o.syms t=true/\nodes t<=30:=by
 simp only[good,jgR,jgr,jbX,jfH]at h;exact⟨h.1.2,h.2,h.1.1.1⟩
def jG3(o:Ord')(t:T):A:=if jhB o && good o t then .tup [vi (wt o t),vb true]else .tup [vi 0,vb false]
theorem jn4(a b:A):QN 2 (.elt [a,b] 0)=some (.agg [a,b]):=rfl
theorem jn5(a b c:A):QN 3 (.elt [a,b,c] 0)=some (.agg [a,b,c]):=rfl
noncomputable def dq{α:Type}(a b:α):Bool:=@decide (a=b) (Classical.propDecidable _)
theorem jhF{α:Type}{a b:α} :dq a b=true↔a=b:=by unfold dq;exact @decide_eq_true_iff _ (Classical.propDecidable _)
theorem jqt{α:Type}{a b:α} :dq a b=false↔ ¬a=b:=by unfold dq;exact @decide_eq_false_iff_not _ (Classical.propDecidable _)
theorem jmu{α:Type}(a:α):dq a a=true:=jhF.2 rfl
theorem jpG{α:Type}(a b:α)(l r:List α):dq (a::l) (b::r)=(dq a b && dq l r):=by
 rw[Bool.eq_iff_iff,jbX,jhF,jhF,jhF,jfk]
theorem jGk(s t:T):dq s t=(decide (s.name=t.name) && dq s.args t.args):=by
 cases s with
 |mk n us=>cases t with
  |mk m vs=>rw[Bool.eq_iff_iff,jbX,jhF,jhF,decide_eq_true_iff,T.mk.injEq];rfl
theorem jtC{α:Type}{a b:List α}(h:¬a.length=b.length):dq a b=false:=jqt.2 λe=>h (by rw[e])
theorem jpl(ts us:Xg)(hl:ts.length<=9223372036854775807)(hlen:ts.length=us.length)(ih:∀t∈ts,∀u∈us,G 164 [tm t,tm u]=some (vb (dq t u),[])) :
  ∀i,i<=ts.length->jsZ (tms us) (.fn 164 []) (tms ts) (vi (ts.length:Nat)) (vi i)=some (vb (dq (ts.drop i) (us.drop i)),[]):=by
 refine upto ?_ ?_
 .rw [jBH,List.drop_length,hlen,List.drop_length,jmu];simp only[evz]
 .intro i hi ih';have hlt:(i:Int)<((ts.length:Nat):Int):=by omega
  have hi2:i<us.length:=by omega
  have h5:=jgj hi hl;have e1:=ih ts[i] (jfL _) us[i] (jfL _);rw[jBH,jgg hi,jgg hi2,jpG];cases hp:dq ts[i] us[i]<;>rw[hp]at e1
  .simp only[evz,hlt,jfY hi,jfY hi2,jga,jhU (f:=164) rfl,jf4,e1,Bool.false_and]
  .simp only[evz,hlt,jfY hi,jfY hi2,jga,jhU (f:=164) rfl,jf4,e1,h5,ih',Bool.true_and]
theorem jhm:∀s:T,twf s-> ∀t:T,twf t->G 164 [tm s,tm t]=some (vb (dq s t),[]):=by
 refine T.ind λs ih hw t hw'=>?_;obtain⟨w1,w2,w3⟩:=(jgK s).1 hw;have w3:=(jgF _).1 w3;obtain⟨v1,v2,v3⟩:=(jgK t).1 hw';have v3:=(jgF _).1 v3;rw[jJw,jGk];by_cases hn:s.name=t.name
 .have e:G 208 [tms s.args,tms t.args,.fn 164 []]=some (vb (dq s.args t.args),[]):=by
   rw[jJ3];by_cases hlen:s.args.length=t.args.length
   .have key:=jpl s.args t.args w2 hlen (λa ha b hb=>ih a ha (w3 a ha) b (v3 b hb)) 0 (Nat.zero_le _);simp only[Int.natCast_zero,List.drop_zero]at key;rw[hlen]at key;simp only[evz,hlen,key]
   .have hlen':¬((s.args.length:Nat):Int)=((t.args.length:Nat):Int):=by omega
    simp only[evz,hlen',jtC hlen]
  simp only[evz,hn,e,Bool.true_and]
 .simp only[evz,hn,Bool.false_and]
theorem jvb(n m:Xb)(ts us:Xg)(hl:ts.length<=9223372036854775807)(hlen:ts.length=us.length)(ih:∀t∈ts,∀u∈us,G 121 [tm t,tm u]=some (vb (dq t u),[])) :
  ∀i,i<=ts.length->jsD (vi i) (sv n) (tms ts) (sv m) (tms us)=some (vb (dq (ts.drop i) (us.drop i)),[]):=by
 refine upto ?_ ?_
 .rw [jA9,List.drop_length,hlen,List.drop_length,jmu];simp only[evz,hlen]
 .intro i hi ih';have hlt:(i:Int)<((ts.length:Nat):Int):=by omega
  have hi2:i<us.length:=by omega
  have h5:=jgj hi hl;have e1:=ih ts[i] (jfL _) us[i] (jfL _);rw[jA9,jgg hi,jgg hi2,jpG];cases hp:dq ts[i] us[i]<;>rw[hp]at e1
  .simp only[evz,hlt,jfY hi,jfY hi2,jga,e1,Bool.false_and]
  .simp only[evz,hlt,jfY hi,jfY hi2,jga,e1,h5,ih',Bool.true_and]
theorem jiU:∀s:T,twf s-> ∀t:T,twf t->G 121 [tm s,tm t]=some (vb (dq s t),[]):=by
 refine T.ind λs ih hw t hw'=>?_;obtain⟨w1,w2,w3⟩:=(jgK s).1 hw;have w3:=(jgF _).1 w3;obtain⟨v1,v2,v3⟩:=(jgK t).1 hw';have v3:=(jgF _).1 v3;rw[jI3,jGk];by_cases hn:s.name=t.name
 .by_cases hlen:s.args.length=t.args.length
  .have key:=jvb t.name t.name s.args t.args w2 hlen (λa ha b hb=>ih a ha (w3 a ha) b (v3 b hb)) 0 (Nat.zero_le _);simp only[Int.natCast_zero,List.drop_zero]at key;simp only[evz,hn,hlen,key,Bool.true_and]
  .have hlen':¬((s.args.length:Nat):Int)=((t.args.length:Nat):Int):=by omega
   simp only[evz,hn,hlen',jtC hlen,Bool.and_false]
 .simp only[evz,hn,Bool.false_and]
def rk(o:Ord')(t:T):Int:=jhk 0 (jhV t.name o.syms)
def jlC(a b:Int):Int:=if a<b then -1 else if b<a then 1 else 0
def jhf(o:Ord')(s t:T):Int:=if rk o s=rk o t then jlC (s.args.length:Nat) (t.args.length:Nat)else jlC (rk o s) (rk o t)
theorem jEN(o:Ord')(s t:T)(ho:o.syms.length<=9223372036854775807):G 290 [od o,tm s,tm t]=some (vi (jhf o s t),[]):=by
 have e1:=jpM o s.name ho;have e2:=jpM o t.name ho;rw[jK0];by_cases h:rk o s=rk o t
 .have h':jhk 0 (jhV s.name o.syms)=jhk 0 (jhV t.name o.syms):=h;by_cases h1:((s.args.length:Nat):Int)<((t.args.length:Nat):Int)
  .simp only[evz,e1,e2,h',jhf,rk,jlC,h1]
  .by_cases h2:((t.args.length:Nat):Int)<((s.args.length:Nat):Int)
   .simp only[evz,e1,e2,h',jhf,rk,jlC,h1,h2]
   .simp only[evz,e1,e2,h',jhf,rk,jlC,h1,h2]
 .have h':¬jhk 0 (jhV s.name o.syms)=jhk 0 (jhV t.name o.syms):=h;by_cases h1:jhk 0 (jhV s.name o.syms)<jhk 0 (jhV t.name o.syms)
  .simp only[evz,e1,e2,h',jhf,rk,jlC,h1]
  .by_cases h2:jhk 0 (jhV t.name o.syms)<jhk 0 (jhV s.name o.syms)
   .simp only[evz,e1,e2,h',jhf,rk,jlC,h1,h2]
   .simp only[evz,e1,e2,h',jhf,rk,jlC,h1,h2]
theorem jvG(o:Ord')(s t:T)(ho:o.syms.length<=9223372036854775807):G 316 [od o,tm s,tm t]=some (vb (decide (jhf o s t<0)),[]):=by
 have e1:=jlh o.syms s.name ho;have e2:=jlh o.syms t.name ho;rw[jLa];by_cases h:rk o s=rk o t
 .have h':jhk 0 (jhV s.name o.syms)=jhk 0 (jhV t.name o.syms):=h;by_cases h1:((s.args.length:Nat):Int)<((t.args.length:Nat):Int)
  .simp only[evz,e1,e2,h',jhf,rk,jlC,h1]
  .by_cases h2:((t.args.length:Nat):Int)<((s.args.length:Nat):Int)
   .simp only[evz,e1,e2,h',jhf,rk,jlC,h1,h2];rfl
   .simp only[evz,e1,e2,h',jhf,rk,jlC,h1,h2]
 .have h':¬jhk 0 (jhV s.name o.syms)=jhk 0 (jhV t.name o.syms):=h;by_cases h1:jhk 0 (jhV s.name o.syms)<jhk 0 (jhV t.name o.syms)
  .simp only[evz,e1,e2,h',jhf,rk,jlC,h1]
  .have h2:jhk 0 (jhV t.name o.syms)<jhk 0 (jhV s.name o.syms):=by omega
   simp only[evz,e1,e2,h',jhf,rk,jlC,h1,h2];rfl
noncomputable def fd:Xg->Xg->Option (T×T)
 |a::l,b::r=>if dq a b=true then fd l r else some (a,b)
 |_,_=>none
theorem jtF:∀{l r:Xg}{a b:T},fd l r=some (a,b)->a∈l/\b∈r
 | [],_,_,_,h=>by simp[fd]at h
 |_::_,[],_,_,h=>by simp[fd]at h
 |x::l,y::r,a,b,h=>by
  simp only[fd]at h;split at h
  .have:=jtF h;exact⟨by simp[this.1],by simp[this.2]⟩
  .cases h;exact⟨by simp,by simp⟩
theorem jAY(s t:T)(hw:twf s)(hw':twf t)(hlen:s.args.length=t.args.length) :
  (fd s.args t.args=none/\G 291 [tm s,tm t]=some (vi (-1),[]))\/ ∃(k:Nat)(h1:k<s.args.length)(h2:k<t.args.length),fd s.args t.args=some (s.args[k],t.args[k])/\G 291 [tm s,tm t]=some (vi k,[]):=by
 obtain⟨w1,w2,w3⟩:=(jgK s).1 hw;have w3:=(jgF _).1 w3;obtain⟨v1,v2,v3⟩:=(jgK t).1 hw';have v3:=(jgF _).1 v3;have key:=upto (P:=λi=>(fd (s.args.drop i) (t.args.drop i)=none/\jqf (vi i) (sv s.name) (tms s.args) (sv t.name) (tms t.args)=some (vi (-1),[]))\/ ∃(k:Nat)(h1:k<s.args.length)(h2:k<t.args.length),fd (s.args.drop i) (t.args.drop i)=some (s.args[k],t.args[k])/\jqf (vi i) (sv s.name) (tms s.args) (sv t.name) (tms t.args)=some (vi k,[])) (n:=s.args.length) ?_ ?_ 0 (Nat.zero_le _)
 .simp only[Int.natCast_zero,List.drop_zero]at key;rw[jK1];rcases key with⟨h1,h2⟩|⟨k,h1,h2,h3,h4⟩
  .exact Or.inl ⟨h1,by simp only[evz,h2]⟩
  .exact Or.inr ⟨k,h1,h2,h3,by simp only[evz,h4]⟩
 .left;rw[jCd,List.drop_length];refine⟨by simp[fd],?_⟩;simp only[evz]
 .intro i hi ih;have hlt:(i:Int)<((s.args.length:Nat):Int):=by omega
  have hi2:i<t.args.length:=by omega
  have h5:=jgj hi w2;have e1:=jiU s.args[i] (w3 _ (jfL _)) t.args[i] (v3 _ (jfL _));rw[jCd,jgg hi,jgg hi2,fd];cases hp:dq s.args[i] t.args[i]<;>rw[hp]at e1
  .refine Or.inr ⟨i,hi,hi2,by simp,?_⟩;simp only[evz,hlt,jfY hi,jfY hi2,jga,e1]
  .simp only[evz,hlt,jfY hi,jfY hi2,jga,e1,h5];exact ih
def zT:A:= .agg [sv [],.sl 2 []]
noncomputable def fdR(s t:T):A:=match fd s.args t.args with|some (a,b)=>.tup [tm a,tm b,vb true]|none=>.tup [zT,zT,vb false]
theorem jnU(s t:T)(hw:twf s)(hw':twf t)(hn:s.name=t.name)(hlen:s.args.length=t.args.length):G 317 [tm s,tm t]=some (fdR s t,[]):=by
 obtain⟨w1,w2,w3⟩:=(jgK s).1 hw;have w3:=(jgF _).1 w3;obtain⟨v1,v2,v3⟩:=(jgK t).1 hw';have v3:=(jgF _).1 v3;have key:=upto (P:=λi=>jtp (tms s.args) (vi (s.args.length:Nat)) (vi i) (sv t.name) (tms t.args) (sv []) (sv []) [] []=some ((match fd (s.args.drop i) (t.args.drop i)with|some (a,b)=>.tup [tm a,tm b,vb true]|none=>.tup [zT,zT,vb false]),[])) (n:=s.args.length) ?_ ?_ 0 (Nat.zero_le _)
 .simp only[Int.natCast_zero,List.drop_zero]at key;rw[jHX,fdR];simp only[hlen]at key;simp only[evz,hn,hlen,key]
 .rw [jCm,List.drop_length];simp only[evz,fd,zT]
 .intro i hi ih;have hlt:(i:Int)<((s.args.length:Nat):Int):=by omega
  have hi2:i<t.args.length:=by omega
  have h5:=jgj hi w2;have e1:=jhm s.args[i] (w3 _ (jfL _)) t.args[i] (v3 _ (jfL _));rw[jCm,jgg hi,jgg hi2,fd];cases hp:dq s.args[i] t.args[i]<;>rw[hp]at e1
  .simp only[evz,hlt,jfY hi,jfY hi2,jga,e1]
  .simp only[evz,hlt,jfY hi,jfY hi2,jga,e1,h5,ih]
theorem jnV(s t:T)(h:¬(s.name=t.name/\s.args.length=t.args.length)):G 317 [tm s,tm t]=some (.tup [zT,zT,vb false],[]):=by
 rw[jHX];by_cases hn:s.name=t.name
 .have hlen':¬((s.args.length:Nat):Int)=((t.args.length:Nat):Int):=λe=>h ⟨hn,by omega⟩;simp only[evz,hn,hlen',zT]
 .simp only[evz,hn,zT]
noncomputable def jzg(o:Ord'):Nat->T->T->Bool
 |0,_,_=>false
 |n+1,s,t=>if jgk s.name then false else if(s.args.any λa=>dq a t || jzg o n a t)then true else if jgk t.name then false
   else if(t.args.any λb=> !jzg o n s b)then false else if 0<jhf o s t then true else if jhf o s t<0 then false
   else match fd s.args t.args with|some (a,b)=>jzg o n a b|none=>false
theorem jGZ{o:Ord'}{s t:T}(h1:o.syms.contains s.name=true)(h2:o.syms.contains t.name=true)(h:rk o s=rk o t):s.name=t.name:=by
 obtain⟨k,hk,_⟩:=jnQ h1;obtain⟨j,hj,_⟩:=jnQ h2;have a1:=(jpH hk).2;have a2:=(jpH hj).2;simp only[rk,hk,hj,jhk,je8]at h;have:k=j:=by omega
 subst this;rw[a1]at a2;exact jf2 a2
theorem jxt(o:Ord')(s t:T):jhf o t s = - jhf o s t:=by
 unfold jhf;by_cases h:rk o s=rk o t
 .rw [jbZ h,jbZ h.symm];unfold jlC;split<;>split<;>(try split)<;>omega
 .rw [ja0 h,ja0 (Ne.symm h)];unfold jlC;split<;>split<;>(try split)<;>omega
def jlW(e g l:Bool):Int:=if e then 1 else if g then 2 else if l then 3 else 0
theorem jzb(e g l:Bool):G 257 [vb e,vb g,vb l]=some (vi (jlW e g l),[]):=by
 rw[jKE];cases e<;>cases g<;>cases l<;>simp only[evz,jlW]
theorem jq3{f g:FuncId}{caps caps':Xd}(hf:K.pureF f=true)(hg:K.pureF g=true)(e gr le:Bool)(h1:G f caps=some (vb gr,[]))(h2:G g caps'=some (vb le,[])) :
  G 279 [vb e,.fn f caps,.fn g caps']=some (vi (jlW e gr le),[]):=by
 rw[jKU];cases e<;>cases gr<;>cases le<;>simp only[evz,jhU hf,jhU hg,jfw,h1,h2,jlW]
noncomputable def jGh(o:Ord')(s t:T):Int:=jlW (dq s t) (jzg o (nodes s+nodes t) s t) (jzg o (nodes s+nodes t) t s)
noncomputable def jGj(o:Ord')(s t:T):A:=if jhB o && (good o s && good o t)then .tup [vi (jGh o s t),vb true]else .tup [vi 0,vb false]
theorem jCq{left:Int}{n:Nat}(h0:0<=left)(h1:left<=1048576)(h:¬jgI left (n:Int)<0):0<=jgI left (n:Int)/\jgI left (n:Int)<=1048576/\n<=1048576:=by
 unfold jgI at h⊢;split at h
 .rename_i hc;rw[jbZ hc];omega
 .exact absurd jyt h
mutual
def jgN:T->Xa
 |.mk n us=>if jgk n then[n]else jhg us
def jhg:Xg->Xa
 | []=>[]
 |t::ts=>jgN t++jhg ts
end
theorem jjs(t:T):jgN t=if jgk t.name then[t.name]else jhg t.args:=by cases t;rfl
theorem jiN{n:Nat}(h:n<=4000000):jbB n 16=true:=by
 unfold jbB;simp;omega
def jnu(l:Xa)(vs:Xa)(k:Nat)(r:Xa):Prop:=(∀n,n∈r↔n∈l\/n∈vs)/\r.length<=l.length+k
theorem jrv(ts:Xg)(hl:ts.length<=9223372036854775807)(hn:jgm ts<=1048577)(ih:∀t∈ts,∀l:Xa,l.length+nodes t<=2100000-> ∃r,jlH (sv t.name) (tms t.args) (l.map cs)=some (.top,[strs r])/\jnu l (jgN t) (nodes t) r) :
  ∀i,i<=ts.length-> ∀l:Xa,l.length+jgm (ts.drop i)<=2100000-> ∃r,jlM (tms ts) (vi (ts.length:Nat)) (vi i) (l.map cs)=some (.top,[strs r])/\jnu l (jhg (ts.drop i)) (jgm (ts.drop i)) r:=by
 refine upto ?_ ?_
 .intro l hb;rw[jl7,List.drop_length];refine⟨l,?_,by simp[jhg],by omega⟩;simp only[evz]
 .intro i hi ih' l hb;have hlt:(i:Int)<((ts.length:Nat):Int):=by omega
  have h5:=jgj hi hl;rw[jgg hi]at hb⊢;simp only[jgm,jhg]at hb⊢;obtain⟨r1,e1,c1,c2⟩:=ih ts[i] (jfL _) l (by omega);obtain⟨r2,e2,d1,d2⟩:=ih' r1 (by omega);rw[jl7];refine⟨r2,?_,?_,by omega⟩
  .simp only[evz,hlt,jfY hi,jga,e1,h5,e2]
  .intro n;rw[d1,c1,jeO];exact or_assoc
theorem jwH:∀t:T,twf t->okT t=true->nodes t<=1048577-> ∀l:Xa,l.length+nodes t<=2100000-> ∃r,jlH (sv t.name) (tms t.args) (l.map cs)=some (.top,[strs r])/\jnu l (jgN t) (nodes t) r:=by
 refine T.ind λt ih hw hk hn l hb=>?_;obtain⟨w1,w2,w3⟩:=(jgK t).1 hw;have w3:=(jgF _).1 w3;have hks:=jgQ hk;have e1:=jjW t hk;rw[jAt,jjs];have hpos:=jhX t;rw[jgx]at hn hb⊢;cases hv:jgk t.name<;>rw[hv]at e1
 .
  have ih':∀u∈t.args,∀l:Xa,l.length+nodes u<=2100000-> ∃r,jlH (sv u.name) (tms u.args) (l.map cs)=some (.top,[strs r])/\jnu l (jgN u) (nodes u) r:=λu hu=>ih u hu (w3 u hu) (hks u hu) (by have:=jhN hu;omega)
  have loop:=jrv t.args w2 (by omega) ih';have start:∃r,jlL (tms t.args) (vi (t.args.length:Nat)) (vi 0) (l.map cs)=some (.top,[strs r])/\jnu l (jhg t.args) (jgm t.args) r:=by
   rw[ju0];by_cases h0:t.args.length=0
   .have ha:t.args=[]:=List.length_eq_zero_iff.1 h0;rw[ha];refine⟨l,?_,by simp[jhg],by simp[jgm]⟩;simp only[evz];rfl
   .have hi:0<t.args.length:=by omega
    have hlt:(0:Int)<((t.args.length:Nat):Int):=by omega
    have hix:kL 2 (tms t.args) (vi 0)=some (.elt (jgi t.args[0]) 0):=jfY (i:=0) hi;have h5:jdl .add false (vi 0) (vi 1)=some (vi ((1:Nat):Int)):=by rw[ji8,jgA (by decide) (by decide)];rfl
    have hd:t.args=t.args[0]::t.args.drop 1:=by have:=jgg hi;simpa using this
    have hns:jgm t.args=nodes t.args[0]+jgm (t.args.drop 1):=by conv=>lhs;rw[hd,jgm]
    have hvs:jhg t.args=jgN t.args[0]++jhg (t.args.drop 1):=by conv=>lhs;rw[hd,jhg]
    obtain⟨r1,e1,c1,c2⟩:=ih' t.args[0] (jfL _) l (by omega);obtain⟨r2,e2,d1,d2⟩:=loop 1 (by omega) r1 (by omega);refine⟨r2,?_,?_,by omega⟩
    .simp only[evz,hlt,hix,jga,e1,h5,e2]
    .intro n;rw[d1,c1,hvs,jeO];exact or_assoc
  obtain⟨r,e2,d1,d2⟩:=start;refine⟨r,?_,by simpa using d1,by omega⟩;cases h0:decide (((t.args.length:Nat):Int)=0)
  .simp only[evz,h0,e2]
  .simp only[evz,h0,e1,e2]
 .have ha:t.args=[]:=by
   rw[jht,hv]at hk;simpa using hk
  have h0:decide (((t.args.length:Nat):Int)=0)=true:=by rw[ha];rfl
  have e3:=jjj l t.name (by omega);cases hc:l.contains t.name<;>rw[hc]at e3
  .have hf:jbB (l.length+1) 16=true:=jiN (by omega);refine⟨l++[t.name],?_,by simp,by simp⟩;have happ:jeV (l.map cs) [[sv t.name]]=(l++[t.name]).map cs:=by simp[jeV]
   simp only[evz,h0,e1,e3,hf,happ]
  .refine ⟨l,?_,λn=>⟨λh=>Or.inl h,λh=>by
    rcases h with h|h
    .exact h
    .simp at h;subst h;simpa using hc⟩,by omega⟩
   simp only[evz,h0,e1,e3]
theorem joj(t:T)(hw:twf t)(hk:okT t=true)(hn:nodes t<=1048577):∃r,G 314 [tm t]=some (strs r,[])/\(∀n,n∈r↔n∈jgN t)/\r.length<=9223372036854775807:=by
 obtain⟨r,e1,c1,c2⟩:=jwH t hw hk hn [] (by simp;omega)
 have e2:jpO (r.map cs)=some (.top,[strs (ke r)]):=by
  rw[jAu];simp only[jbQ,QY];rw[jbZ (by simp at c2;omega)]
 refine⟨ke r,?_,λn=>?_,by simp[ke];simp at c2;omega⟩
 .rw [jK8];simp only[List.map_nil]at e1;simp only[evz,e1,e2]
 .unfold ke;rw[List.mem_mergeSort,c1];simp
mutual
def cnt(n:Xb):T->Nat
 |.mk m us=>(if m=n then 1 else 0)+jjJ n us
def jjJ(n:Xb):Xg->Nat
 | []=>0
 |t::ts=>cnt n t+jjJ n ts
end
theorem joD(n:Xb)(t:T):cnt n t=(if t.name=n then 1 else 0)+jjJ n t.args:=by cases t;rfl
theorem jGi(n:Xb):∀t:T,cnt n t<=nodes t:=by
 refine T.ind λt ih=>?_;have:∀ts:Xg,(∀u∈ts,cnt n u<=nodes u)->jjJ n ts<=jgm ts:=by
  intro ts;induction ts with
  |nil=>intro _;simp[jjJ]
  |cons u us ih=>
   intro h;have h1:=h u (by simp);have h2:=ih λv hv=>h v (by simp[hv]);simp only[jjJ,jgm];omega
 have h:=this t.args ih;rw[joD,jgx];split<;>omega
theorem jx3(n:Xb)(ts:Xg):jjJ n ts<=jgm ts:=by
 induction ts with
 |nil=>simp[jjJ]
 |cons u us ih=>have:=jGi n u;simp only[jjJ,jgm];omega
theorem jqr(n:Xb)(ts:Xg)(hl:ts.length<=9223372036854775807)(hn:jgm ts<=1048577)(ih:∀t∈ts,G 299 [tm t,sv n]=some (vi (cnt n t:Nat),[])) :
  ∀i,i<=ts.length-> ∀a:Nat,a+jjJ n (ts.drop i)<=1048579->jqg (sv n) (vi a) (tms ts) (vi (ts.length:Nat)) (vi i)=some (vi ((a+jjJ n (ts.drop i):Nat):Int),[]):=by
 refine upto ?_ ?_
 .intro a ha;rw[jCi,List.drop_length];simp only[evz,jjJ,jfg]
 .intro i hi ih' a ha;have hlt:(i:Int)<((ts.length:Nat):Int):=by omega
  have h5:=jgj hi hl;have e1:=ih ts[i] (jfL _);rw[jgg hi]at ha⊢;simp only[jjJ]at ha⊢;have hk:ck ((a:Int)+((cnt n ts[i]:Nat):Int))=some (vi ((a+cnt n ts[i]:Nat):Int)):=by rw[jgA (by omega) (by omega)];rfl
  have ih':=ih' (a+cnt n ts[i]) (by omega);rw[jCi];simp only[evz,hlt,jfY hi,jga,e1,hk,h5,ih',jf9]
theorem ji2(n:Xb):∀t:T,twf t->nodes t<=1048577->G 299 [tm t,sv n]=some (vi (cnt n t:Nat),[]):=by
 refine T.ind λt ih hw hn=>?_;obtain⟨w1,w2,w3⟩:=(jgK t).1 hw;have w3:=(jgF _).1 w3;rw[jgx]at hn;have hc:=jx3 n t.args;have key:=λa h=>jqr n t.args w2 (by omega) (λu hu=>ih u hu (w3 u hu) (by have:=jhN hu;omega)) 0 (Nat.zero_le _) a h;simp only[Int.natCast_zero,List.drop_zero]at key;rw[jK4,joD];by_cases h:t.name=n
 .have key:=key 1 (by omega);simp only[Int.natCast_one]at key;simp only[evz,h,key]
 .have key:=key 0 (by omega);simp only[Int.natCast_zero]at key;simp only[evz,h,key]
theorem jtP(m n:Xb)(ts:Xg)(hl:ts.length<=9223372036854775807)(hn:jgm ts<=1048577)(ih:∀t∈ts,G 320 [tm t,sv n]=some (vi (cnt n t:Nat),[])) :
  ∀i,i<=ts.length-> ∀a:Nat,a+jjJ n (ts.drop i)<=1048579->jqi (sv n) (vi a) (vi i) (sv m) (tms ts)=some (vi ((a+jjJ n (ts.drop i):Nat):Int),[]):=by
 refine upto ?_ ?_
 .intro a ha;rw[jCo,List.drop_length];simp only[evz,jjJ,jfg]
 .intro i hi ih' a ha;have hlt:(i:Int)<((ts.length:Nat):Int):=by omega
  have h5:=jgj hi hl;have e1:=ih ts[i] (jfL _);rw[jgg hi]at ha⊢;simp only[jjJ]at ha⊢;have hk:ck ((a:Int)+((cnt n ts[i]:Nat):Int))=some (vi ((a+cnt n ts[i]:Nat):Int)):=by rw[jgA (by omega) (by omega)];rfl
  have ih':=ih' (a+cnt n ts[i]) (by omega);rw[jCo];simp only[evz,hlt,jfY hi,jga,e1,hk,h5,ih',jf9]
theorem jqK(n:Xb):∀t:T,twf t->nodes t<=1048577->G 320 [tm t,sv n]=some (vi (cnt n t:Nat),[]):=by
 refine T.ind λt ih hw hn=>?_;obtain⟨w1,w2,w3⟩:=(jgK t).1 hw;have w3:=(jgF _).1 w3;rw[jgx]at hn;have hc:=jx3 n t.args;have key:=λa h=>jtP t.name n t.args w2 (by omega) (λu hu=>ih u hu (w3 u hu) (by have:=jhN hu;omega)) 0 (Nat.zero_le _) a h;simp only[Int.natCast_zero,List.drop_zero]at key;rw[jLc,joD];by_cases h:t.name=n
 .have key:=key 1 (by omega);simp only[Int.natCast_one]at key;rw[h]at key;simp only[evz,h,key]
 .have key:=key 0 (by omega);simp only[Int.natCast_zero]at key;simp only[evz,h,key]
theorem jCj(l:Xa)(s:Xb)(hl:l.length<=2100000):∃r,G 254 [strs l,sv s]=some (strs r,[])/\jnu l [s] 1 r:=by
 have key:=upto (P:=λi=>∃r,jqa (strs l) (sv s) (vi i)=some (strs r,[])/\jnu l [s] 1 r) (n:=l.length) ?_ ?_ 0 (Nat.zero_le _)
 .simp only[Int.natCast_zero]at key;rw[jHS];exact key
 .have hx:¬((l.length:Nat):Int)<((l.length:Nat):Int):=Int.lt_irrefl _;have s1:Jy 1 (strs l) none (some (vi (l.length:Nat)))=some (strs l):=by rw[jiW (by simp),jfU (by simp)]
  have s2:Jy 1 (strs l) (some (vi (l.length:Nat))) none=some (.sl 1 []):=by rw[jhJ (by simp),List.drop_of_length_le (by simp)]
  have f1:jbB l.length 16=true:=jiN (by omega);have f2:jbB (l.length+1) 16=true:=jiN (by omega);have happ:jeV (jeV (l.map cs) [[sv s]]) []=(l++[s]).map cs:=by simp[jeV]
  have hlen:(jeV (l.map cs) [[sv s]]).length=l.length+1:=by simp[jeV]
  refine⟨l++[s],?_,by intro n;simp,by simp⟩
  rw[jtM];simp only[evz,hx,s1,s2,f1,f2,hlen,happ,jfg]
 .intro i hi ih;have hlt:(i:Int)<((l.length:Nat):Int):=by omega
  have h5:=jgj hi (by omega);rw[jtM];cases h1:sLt l[i] s
  .by_cases h2:l[i]=s
   .refine ⟨l,?_,λn=>⟨λh=>Or.inl h,λh=>by
     rcases h with h|h
     .exact h
     .simp at h;rw[h,<-h2];exact jfL _⟩,by omega⟩
    rw[h2]at h1;simp only[evz,hlt,jfY hi,h2,h1]
   .have s1:Jy 1 (strs l) none (some (vi i))=some (strs (l.take i)):=by rw[jiW (by simp;omega),<-List.map_take]
    have s2:Jy 1 (strs l) (some (vi i)) none=some (strs (l.drop i)):=by rw[jhJ (by simp;omega),<-List.map_drop]
    have ht:(l.take i).length=i:=by rw[List.length_take];omega
    have f1:jbB i 16=true:=jiN (by omega);have f2:jbB (i+1) 16=true:=jiN (by omega);have f3:jbB (i+1+(l.drop i).length) 16=true:=jiN (by rw[List.length_drop];omega);have happ:jeV (jeV ((l.take i).map cs) [[sv s]]) ((l.drop i).map cs)=(l.take i++[s]++l.drop i).map cs:=by simp[jeV]
    have hlen:(jeV ((l.take i).map cs) [[sv s]]).length=i+1:=by simp[jeV];omega
    refine⟨l.take i++[s]++l.drop i,?_,λn=>?_,by simp;omega⟩
    .simp only[evz,hlt,jfY hi,h1,h2,s1,s2,ht,f1,f2,f3,hlen,happ]
    .have hm:n∈l↔n∈l.take i\/n∈l.drop i:=by rw[<-jeO,jfK]
     simp only[jeO,jdC,hm];exact⟨λh=>by rcases h with(h|h)|h<;>simp[h],λh=>by rcases h with(h|h)|h<;>simp[h]⟩
  .obtain ⟨r,e,c⟩:=ih;refine⟨r,?_,c⟩;simp only[evz,hlt,jfY hi,h1,h5,e]
theorem jy6:∀t:T,twf t-> ∀l:Xa,l.length+nodes t<=2100000-> ∃r,G 285 [strs l,tm t]=some (strs r,[])/\jnu l (jgN t) (nodes t) r:=by
 refine T.ind λt ih hw l hb=>?_;obtain⟨w1,w2,w3⟩:=(jgK t).1 hw;have w3:=(jgF _).1 w3;have e1:=jg9 t.name w1;rw[jKV,jjs];rw[jgx]at hb⊢;cases hv:jgk t.name<;>rw[hv]at e1
 .have key:=upto (P:=λi=>∀l:Xa,l.length+jgm (t.args.drop i)<=2100000-> ∃r,jti (strs l) (vi i) (sv t.name) (tms t.args)=some (strs r,[])/\jnu l (jhg (t.args.drop i)) (jgm (t.args.drop i)) r) (n:=t.args.length) ?_ ?_ 0 (Nat.zero_le _)
  .simp only[Int.natCast_zero,List.drop_zero]at key;obtain⟨r,e,c1,c2⟩:=key l (by omega);refine⟨r,?_,by simpa using c1,by omega⟩;simp only[evz,e1,e]
  .intro l hb;rw[jB7,List.drop_length];refine⟨l,?_,by simp[jhg],by omega⟩;simp only[evz]
  .intro i hi ih' l hb;have hlt:(i:Int)<((t.args.length:Nat):Int):=by omega
   have h5:=jgj hi w2;rw[jgg hi]at hb⊢;simp only[jgm,jhg]at hb⊢;obtain⟨r1,a1,c1,c2⟩:=ih t.args[i] (jfL _) (w3 _ (jfL _)) l (by omega);obtain⟨r2,a2,d1,d2⟩:=ih' r1 (by omega);rw[jB7];refine⟨r2,?_,?_,by omega⟩
   .simp only[evz,hlt,jfY hi,jga,a1,h5,a2]
   .intro n;rw[d1,c1,jeO];exact or_assoc
 .obtain ⟨r,e,c1,c2⟩:=jCj l t.name (by omega);refine⟨r,?_,by simpa using c1,by omega⟩;simp only[evz,e1,e]
theorem jr4(t:T)(hw:twf t)(hn:nodes t<=1048577):∃r,G 251 [tm t]=some (strs r,[])/\(∀n,n∈r↔n∈jgN t)/\r.length<=9223372036854775807:=by
 obtain⟨r,e,c1,c2⟩:=jy6 t hw [] (by simp;omega)
 have e:G 285 [.sl 1 [],tm t]=some (strs r,[]):=e;refine⟨r,?_,λn=>by rw[c1];simp,by simp at c2;omega⟩;rw[jKA];simp only[evz,e]
def bal(s t:T):Bool:=(jgN t).all λn=>decide (cnt n t<=cnt n s)
theorem jAr{r:Xa}{s t:T}(h:∀n,n∈r↔n∈jgN t):(r.all λn=>decide (cnt n t<=cnt n s))=bal s t:=by
 unfold bal;rw[Bool.eq_iff_iff,jfn,jfn];exact⟨λa n hn=>a n ((h n).2 hn),λa n hn=>a n ((h n).1 hn)⟩
theorem jut(s t:T)(hw:twf s)(hw':twf t)(hs:nodes s<=1048577)(ht:nodes t<=1048577):G 288 [tm s,tm t]=some (vb (bal s t),[]):=by
 obtain⟨r,e,c1,c2⟩:=jr4 t hw' ht;have key:=upto (P:=λi=>jtl (strs r) (vi i) (sv s.name) (tms s.args) (sv t.name) (tms t.args)=some (vb ((r.drop i).all λn=>decide (cnt n t<=cnt n s)),[])) (n:=r.length) ?_ ?_ 0 (Nat.zero_le _)
 .simp only[Int.natCast_zero,List.drop_zero]at key;rw[jAr c1]at key;rw[jKY];simp only[evz,e,key]
 .rw [jCb,List.drop_length];simp only[evz]
 .intro i hi ih;have hlt:(i:Int)<((r.length:Nat):Int):=by omega
  have h5:=jgj hi c2;have e1:=jqK r[i] s hw hs;have e2:=jqK r[i] t hw' ht;rw[jCb,jgg hi,jev];by_cases h:cnt r[i] t<=cnt r[i] s
  .have h':¬((cnt r[i] s:Nat):Int)<((cnt r[i] t:Nat):Int):=by omega
   simp only[evz,hlt,jfY hi,e1,e2,h',h,h5,ih,Bool.true_and]
  .have h':((cnt r[i] s:Nat):Int)<((cnt r[i] t:Nat):Int):=by omega
   simp only[evz,hlt,jfY hi,e1,e2,h',h,Bool.false_and]
noncomputable def jjy(o:Ord'):Nat->T->T->Bool
 |0,_,_=>false
 |n+1,s,t=>if bal s t then(if wt o s=wt o t then(if jgk s.name || jgk t.name then false else if jhf o s t=0 then(match fd s.args t.args with|some (a,b)=>jjy o n a b|none=>false)else decide (0<jhf o s t))else decide (wt o t<wt o s))else false
theorem juV{s t a b:T}{n:Nat}(ha:a∈s.args)(hb:b∈t.args)(h:nodes s+nodes t<=n+1):nodes a+nodes b<=n:=by
 have h1:=jhN ha;have h2:=jhN hb;rw[jgx s,jgx t]at h;omega
theorem jsl{o:Ord'}{s t:T}(h:jhf o s t=0):rk o s=rk o t/\s.args.length=t.args.length:=by
 unfold jhf jlC at h;split at h
 .rename_i h1;refine⟨h1,?_⟩;split at h
  .cases h
  .split at h
   .cases h
   .omega
 .split at h
  .cases h
  .split at h
   .cases h
   .omega
theorem jqM{o:Ord'}(hv:jhB o=true)(ho:o.syms.length<=9223372036854775807):∀(n:Nat)(s t:T),nodes s+nodes t<=n->twf s->twf t->tsz s<=1048576->tsz t<=1048576->jja o.syms s=true->jja o.syms t=true->G 258 [od o,tm s,tm t]=some (vb (jjy o n s t),[])
 |0,s,t,h,_,_,_,_,_,_=>by have:=jhX s;omega
 |n+1,s,t,h,hw,hw',hs,ht,hc,hc'=>by
  obtain⟨w1,w2,w3⟩:=(jgK s).1 hw;have w3:=(jgF _).1 w3;obtain⟨v1,v2,v3⟩:=(jgK t).1 hw';have v3:=(jgF _).1 v3;have hns:=jh5 s;have hnt:=jh5 t;have e1:=jut s t hw hw' (by omega) (by omega);have e2:=jo7 hv ho s hw hs hc;have e3:=jo7 hv ho t hw' ht hc';have e4:=jg9 s.name w1;have e5:=jg9 t.name v1;have e6:=jEN o s t ho;have cs1:∀a∈s.args,jja o.syms a=true:=λa ha=>by rw[jiK,jbX]at hc;exact jiS hc.2 ha
  have cs2:∀a∈t.args,jja o.syms a=true:=λa ha=>by rw[jiK,jbX]at hc';exact jiS hc'.2 ha
  rw[jKF,jjy];cases hb:bal s t<;>rw[hb]at e1
  .simp only[evz,e1]
  by_cases hwt:wt o s=wt o t;rotate_left
  .simp only[evz,e1,e2,e3,hwt]
  cases hv1:jgk s.name<;>rw[hv1]at e4
  rotate_left
  .simp only[evz,e1,e2,e3,hwt,e4,Bool.true_or]
  cases hv2:jgk t.name<;>rw[hv2]at e5
  rotate_left
  .simp only[evz,e1,e2,e3,hwt,e4,e5,Bool.false_or]
  by_cases hr:jhf o s t=0;rotate_left
  .simp only[evz,e1,e2,e3,hwt,e4,e5,e6,hr,Bool.false_or]
  obtain⟨_,hlen⟩:=jsl hr;rcases jAY s t hw hw' hlen with⟨f1,f2⟩|⟨k,k1,k2,f1,f2⟩
  .have:¬(0:Int)<= -1:=by decide
   simp only[evz,e1,e2,e3,hwt,e4,e5,e6,hr,Bool.false_or,f1,f2,this]
  .have m1:=jfL k1;have m2:=jfL k2;have e7:=jqM hv ho n s.args[k] t.args[k] (juV m1 m2 h) (w3 _ m1) (v3 _ m2) (by have:=jhr m1;rw[jgL]at hs;omega) (by have:=jhr m2;rw[jgL]at ht;omega) (cs1 _ m1) (cs2 _ m2);have:(0:Int)<=(k:Int):=by omega
   simp only[evz,e1,e2,e3,hwt,e4,e5,e6,hr,Bool.false_or,f1,f2,this,jfY k1,jfY k2,jga,e7]
theorem jwN{o:Ord'}(hv:jhB o=true)(ho:o.syms.length<=9223372036854775807):∀(n:Nat)(s t:T),nodes s+nodes t<=n->twf s->twf t->tsz s<=1048576->tsz t<=1048576->okT s=true->okT t=true->jja o.syms s=true->jja o.syms t=true->G 281 [od o,tm s,tm t]=some (vb (jjy o n s t),[])
 |0,s,t,h,_,_,_,_,_,_,_,_=>by have:=jhX s;omega
 |n+1,s,t,h,hw,hw',hs,ht,hk,hk',hc,hc'=>by
  obtain⟨w1,w2,w3⟩:=(jgK s).1 hw;have w3:=(jgF _).1 w3;obtain⟨v1,v2,v3⟩:=(jgK t).1 hw';have v3:=(jgF _).1 v3;have hns:=jh5 s;have hnt:=jh5 t;have ks:=jgQ hk;have ks':=jgQ hk';have e2:=jsz hv ho s hw hs hk hc;have e3:=jsz hv ho t hw' ht hk' hc';have e4:=jjW s hk;have e5:=jjW t hk';have e6:=jvG o t s ho;rw[jxt]at e6;have cs1:∀a∈s.args,jja o.syms a=true:=λa ha=>by rw[jiK,jbX]at hc;exact jiS hc.2 ha
  have cs2:∀a∈t.args,jja o.syms a=true:=λa ha=>by rw[jiK,jbX]at hc';exact jiS hc'.2 ha
  obtain⟨r,er,c1,c2⟩:=joj t hw' hk' (by omega);have tail:jqc (strs r) (vi (r.length:Nat)) (vi (r.length:Nat)) (strs o.syms) (ints o.ws) (vi o.var) (sv s.name) (tms s.args) (sv t.name) (tms t.args)=some (vb (if wt o s=wt o t then(if jgk s.name || jgk t.name then false else if jhf o s t=0 then(match fd s.args t.args with|some (a,b)=>jjy o n a b|none=>false)else decide (0<jhf o s t))else decide (wt o t<wt o s)),[]):=by
   rw[jw0];by_cases hwt:wt o s=wt o t;rotate_left
   .simp only[evz,e2,e3,hwt]
   have hnlt:¬wt o t<wt o s:=by omega
   cases hv1:jgk s.name<;>rw[hv1]at e4
   rotate_left
   .simp only[evz,e2,e3,hwt,e4,Bool.true_or]
   cases hv2:jgk t.name<;>rw[hv2]at e5
   rotate_left
   .simp only[evz,e2,e3,hwt,e4,e5,Bool.false_or]
   by_cases hr:jhf o s t=0
   .have hr':¬ -jhf o s t<0:=by omega
    obtain⟨hrk,hlen⟩:=jsl hr;have hcn:o.syms.contains s.name=true:=by rw[jiK,hv1,Bool.false_or,jbX]at hc;exact hc.1
    have hcn':o.syms.contains t.name=true:=by rw[jiK,hv2,Bool.false_or,jbX]at hc';exact hc'.1
    have e7:=jnU s t hw hw' (jGZ hcn hcn' hrk) hlen;cases hf:fd s.args t.args with
    |none=>
     have:fdR s t = .tup [zT,zT,vb false]:=by unfold fdR;rw[hf]
     rw[this]at e7;simp only[hr]at e6;simp only[evz,e2,e3,hwt,e4,e5,e6,hr,Bool.false_or,e7,zT,Int.neg_zero]
    |some p=>
     obtain⟨a,b⟩:=p;have:fdR s t = .tup [tm a,tm b,vb true]:=by unfold fdR;rw[hf]
     rw[this]at e7;obtain⟨ma,mb⟩:=jtF hf;have e8:=jwN hv ho n a b (juV ma mb h) (w3 a ma) (v3 b mb) (by have:=jhr ma;rw[jgL]at hs;omega) (by have:=jhr mb;rw[jgL]at ht;omega) (ks a ma) (ks' b mb) (cs1 a ma) (cs2 b mb);simp only[hr]at e6;simp only[evz,e2,e3,hwt,e4,e5,e6,hr,Bool.false_or,e7,e8,Int.neg_zero]
   .by_cases hg:0<jhf o s t
    .have hg': -jhf o s t<0:=by omega
     simp only[evz,e2,e3,hwt,e4,e5,e6,hr,hg,hg',Bool.false_or]
    .have hg':¬ -jhf o s t<0:=by omega
     have hno:¬(s.name=t.name/\s.args.length=t.args.length):=by
      rintro⟨q1,q2⟩;apply hr;have:rk o s=rk o t:=by unfold rk;rw[q1]
      unfold jhf jlC;rw[jbZ this,q2];simp
     have e7:=jnV s t hno;simp only[evz,e2,e3,hwt,e4,e5,e6,hr,hg,hg',Bool.false_or,e7,zT]
  have key:=upto (P:=λi=>jqc (strs r) (vi (r.length:Nat)) (vi i) (strs o.syms) (ints o.ws) (vi o.var) (sv s.name) (tms s.args) (sv t.name) (tms t.args)=some (vb (if((r.drop i).all λn=>decide (cnt n t<=cnt n s))then(if wt o s=wt o t then(if jgk s.name || jgk t.name then false else if jhf o s t=0 then(match fd s.args t.args with|some (a,b)=>jjy o n a b|none=>false)else decide (0<jhf o s t))else decide (wt o t<wt o s))else false),[])) (n:=r.length) ?_ ?_ 0 (Nat.zero_le _)
  .simp only[Int.natCast_zero,List.drop_zero]at key;rw[jAr c1]at key;rw[jHV,jjy];simp only[evz,er];exact key
  .rw [tail,List.drop_length];rfl
  .intro i hi ih;have hlt:(i:Int)<((r.length:Nat):Int):=by omega
   have h5:=jgj hi c2;have a1:=ji2 r[i] s hw (by omega);have a2:=ji2 r[i] t hw' (by omega);rw[jw0,jgg hi,jev];by_cases hcn:cnt r[i] t<=cnt r[i] s
   .have h':¬((cnt r[i] s:Nat):Int)<((cnt r[i] t:Nat):Int):=by omega
    simp only[evz,hlt,jfY hi,a1,a2,h',hcn,h5,ih,Bool.true_and]
   .have h':((cnt r[i] s:Nat):Int)<((cnt r[i] t:Nat):Int):=by omega
    simp only[evz,hlt,jfY hi,a1,a2,h',hcn,Bool.false_and]
noncomputable def jlc(o:Ord')(s t:T):Int:=jlW (dq s t) (jjy o (nodes s+nodes t) s t) (jjy o (nodes s+nodes t) t s)
noncomputable def jle(o:Ord')(s t:T):A:=if jhB o && (good o s && good o t)then .tup [vi (jlc o s t),vb true]else .tup [vi 0,vb false]
theorem jpq(o:Ord')(s t:T)(ho:owf o)(hw:twf s)(hs:tsz s<=1048576)(hw':twf t)(hs':tsz t<=1048576):G 217 [od o,tm s,tm t]=some (jle o s t,[]):=by
 have e1:=jzc o ho;have e2:=jr7 o s ho.1.2 hw hs;have e3:=jr7 o t ho.1.2 hw' hs';have e4:=jiU s hw t hw';have e7:=jzb (dq s t) (jjy o (nodes s+nodes t) s t) (jjy o (nodes s+nodes t) t s);rw[jKc,jle];cases h:jhB o<;>rw[h]at e1
 .simp only[evz,e1,Bool.false_and]
 .cases h2:good o s<;>rw[h2]at e2
  .simp only[evz,e1,e2,Bool.and_false,Bool.false_and]
  .cases h3:good o t<;>rw[h3]at e3
   .simp only[evz,e1,e2,e3,Bool.and_false]
   .have g2:=jr0 h2;have g3:=jr0 h3;have e5:=jqM h ho.1.2 (nodes s+nodes t) s t (jdB _) hw hw' hs hs' g2.2.1 g3.2.1;have e6:=jqM h ho.1.2 (nodes s+nodes t) t s (by omega) hw' hw hs' hs g3.2.1 g2.2.1;simp only[evz,e1,e2,e3,e4,e5,e6,e7,jlc]
theorem jpi{o:Ord'}(hv:jhB o=true)(s t:T)(ho:owf o)(hw:twf s)(hs:tsz s<=1048576)(hw':twf t)(hs':tsz t<=1048576)(hk:okT s=true)(hk':okT t=true)(hc:jja o.syms s=true)(hc':jja o.syms t=true):G 238 [od o,tm s,tm t]=some (vi (jlc o s t),[]):=by
 have e4:=jhm s hw t hw';have e5:=jwN hv ho.1.2 (nodes s+nodes t) s t (jdB _) hw hw' hs hs' hk hk' hc hc';have e6:=jwN hv ho.1.2 (nodes s+nodes t) t s (by omega) hw' hw hs' hs hk' hk hc' hc;have c1:G 280 [.elt (jtY o) 0,.elt [sv s.name,.sl 2 (s.args.map jgi)] 0,.elt [sv t.name,.sl 2 (t.args.map jgi)] 0]=some (vb (jjy o (nodes s+nodes t) s t),[]):=by
  rw[jHU];simp only[evz,jn4,jn5,e5]
 have c2:G 282 [.elt (jtY o) 0,.elt [sv t.name,.sl 2 (t.args.map jgi)] 0,.elt [sv s.name,.sl 2 (s.args.map jgi)] 0]=some (vb (jjy o (nodes s+nodes t) t s),[]):=by
  rw[jHW];simp only[evz,jn4,jn5,e6]
 have e7:=jq3 (f:=280) (g:=282) rfl rfl (dq s t) _ _ c1 c2;rw[jHR];simp only[evz,e4,e7,jlc]
def jjS(t:T):T:=t.args.getD 0 (.mk [] [])
def jkx(t:T):T:=t.args.getD 1 (.mk [] [])
def jl0(t:T):Bool:=decide (t.args.length=2) && (jgr t && (okT (jjS t) && okT (jkx t)))
theorem jjd{t:T}(hl:t.args.length=2):kL 2 (tms t.args) (vi 0)=some (.elt (jgi (jjS t)) 0)/\kL 2 (tms t.args) (vi 1)=some (.elt (jgi (jkx t)) 0)/\jjS t∈t.args/\jkx t∈t.args:=by
 have e0:jjS t=t.args[0]:=by unfold jjS;simp[jcQ,hl]
 have e1:jkx t=t.args[1]:=by unfold jkx;simp[jcQ,hl]
 rw[e0,e1];exact⟨jfY (i:=0) (by omega),jfY (i:=1) (by omega),jfL _,jfL _⟩
theorem jni(t:T)(hw:twf t)(hs:tsz t<=1048576)(he:t.name=[61]):G 112 [tm t]=some (vb (jl0 t),[]):=by
 obtain⟨w1,w2,w3⟩:=(jgK t).1 hw;have w3:=(jgF _).1 w3;have het:(t.name=[61])=True:=eq_true he;unfold jl0;rw[jGo];by_cases hl:t.args.length=2;rotate_left
 .have hl':¬((t.args.length:Nat):Int)=2:=by omega
  simp only[evz,het,hl',hl,Bool.false_and]
 have hl':((t.args.length:Nat):Int)=2:=by omega
 rw[decide_eq_true hl,Bool.true_and];obtain⟨i0,i1,ma,mb⟩:=jjd hl;have p1:=jr3 t hw hs;have p2:=jnj _ (w3 _ ma);have p3:=jnj _ (w3 _ mb);cases h1:jgr t<;>rw[h1]at p1
 .simp only[evz,het,hl',p1,Bool.false_and]
 .cases h2:okT (jjS t)<;>rw[h2]at p2
  .simp only[evz,het,hl',p1,i0,jga,p2,Bool.false_and,Bool.and_false]
  .simp only[evz,het,hl',p1,i0,i1,jga,p2,p3,Bool.true_and]
theorem jhL(t:T):G 195 [tm t]=some (vb (decide (t.name=[61])),[]):=by
 rw[jJT];simp only[evz]
theorem jlv(t:T)(hw:twf t)(hs:tsz t<=1048576)(he:t.name=[61]):G 183 [tm t]=some (vb (jl0 t),[]):=by
 obtain⟨w1,w2,w3⟩:=(jgK t).1 hw;have w3:=(jgF _).1 w3;have q0:=jhL t;rw[decide_eq_true he]at q0;unfold jl0;rw[jHM];by_cases hl:t.args.length=2;rotate_left
 .have hl':¬((t.args.length:Nat):Int)=2:=by omega
  simp only[evz,q0,hl',hl,Bool.false_and]
 have hl':((t.args.length:Nat):Int)=2:=by omega
 rw[decide_eq_true hl,Bool.true_and];obtain⟨i0,i1,ma,mb⟩:=jjd hl;have p1:=jli t hw hs;have p2:=jl3 _ (w3 _ ma);have p3:=jl3 _ (w3 _ mb);cases h1:jgr t<;>rw[h1]at p1
 .simp only[evz,q0,hl',p1,Bool.false_and]
 .cases h2:okT (jjS t)<;>rw[h2]at p2
  .simp only[evz,q0,hl',p1,i0,jga,p2,Bool.false_and,Bool.and_false]
  .simp only[evz,q0,hl',p1,i0,i1,jga,p2,p3,Bool.true_and]
def jLG(o:Ord')(t:T):Bool:=decide (t.name=[61]) && (jl0 t && (jja o.syms (jjS t) && jja o.syms (jkx t)))
theorem jG4:∀t:T,tsz t<=1048576->twf t:=by
 refine T.ind λt ih h=>?_;have h':=h;rw[jgL]at h';exact(jgK t).2 ⟨by omega,by omega,(jgF _).2 λu hu=>ih u hu (by have:=jhr hu;omega)⟩
theorem jvw{n:Nat}(h:n<=4194304):jbB n 40=true:=by
 unfold jbB;exact decide_eq_true ⟨by omega,by omega⟩
theorem jmh(t:T):tsz t<=1048576->G 83 [tm t]=some (tm t,[]):=by
 refine T.ind (p:=λt=>tsz t<=1048576->G 83 [tm t]=some (tm t,[])) ?_ t;intro t ih h;rw[jgL]at h;have key:=(upto (P:=λi=>jxT (vi i) (sv t.name) (tms t.args) (sv []) (sv t.name) [] ((t.args.take i).map jgi)=some (tm t,[])) (n:=t.args.length) ?_ ?_ 0 (Nat.zero_le _))
 .rw [g83];simp only[Int.natCast_zero,List.take_zero,List.map_nil]at key;simp only[evz,key]
 .rw [jFq,List.take_length];simp only[evz]
 .intro i hi ih';have hlt:(i:Int)<((t.args.length:Nat):Int):=by omega
  have h5:=jgj hi (by show t.args.length<=9223372036854775807;omega)
  have e1:=ih t.args[i] (jfL _) (by have:=jhr (jfL hi);omega)
  have hf:jbB (i+1) 40=true:=jvw (by omega);have hl:((t.args.take i).map jgi).length=i:=by rw[List.length_map,List.length_take];omega
  have ha:jeV ((t.args.take i).map jgi) [[sv t.args[i].name,tms t.args[i].args]]=(t.args.take (i+1)).map jgi:=by
   rw[show[sv t.args[i].name,tms t.args[i].args]=jgi t.args[i] from(jgT _).symm,List.take_add_one,jam hi,List.map_append];rfl
  rw[jFq];simp only[evz,hlt,jfY hi,jga,e1,hl,hf,ha,h5,ih']
theorem jEG(o:Ord')(s t:T):jhf o s t=0↔rk o s=rk o t/\s.args.length=t.args.length:=by
 unfold jhf jlC;constructor
 .intro h;split at h
  .rename_i h1;refine⟨h1,?_⟩;split at h
   .omega
   .split at h<;>omega
  .split at h
   .omega
   .split at h<;>omega
 .rintro ⟨h1,h2⟩;rw[jbZ h1,ja0 (by omega),ja0 (by omega)]
theorem jEF(o:Ord')(s:T):jhf o s s=0:=(jEG o s s).2 ⟨rfl,rfl⟩
theorem jx7:∀l:Xg,fd l l=none
 | []=>rfl
 |x::l=>by rw[fd,jbZ (jhF.2 rfl),jx7 l]
def Lp(o:Ord')(s t:T):Prop:=jzg o (nodes s+nodes t) s t=true
theorem jmt{s a:T}(h:a∈s.args):nodes a<nodes s:=by
 have:=jhN h;rw[jgx s];omega
def Kp(o:Ord')(s t:T):Prop:=jjy o (nodes s+nodes t) s t=true
theorem jnh(o:Ord'):∀(n m:Nat)(s t:T),nodes s+nodes t<=n->nodes s+nodes t<=m->jjy o n s t=jjy o m s t
 |0,_,s,t,h,_=>by have:=jhX s;omega
 |_+1,0,s,t,_,h=>by have:=jhX s;omega
 |n+1,m+1,s,t,h1,h2=>by
  rw[jjy,jjy];cases hf:fd s.args t.args with
  |none=>rfl
  |some p=>
   obtain⟨a,b⟩:=p;have hm:=jtF hf;have h3:=jmt hm.1;have h4:=jmt hm.2;simp only[jnh o n m a b (by omega) (by omega)]
theorem jAj(o:Ord')(s t:T):Kp o s t↔bal s t=true/\(wt o t<wt o s\/(wt o s=wt o t/\(jgk s.name=false/\jgk t.name=false)/\(0<jhf o s t\/(jhf o s t=0/\ ∃a b,fd s.args t.args=some (a,b)/\Kp o a b)))):=by
 unfold Kp;obtain⟨n,hn⟩:∃n,nodes s+nodes t=n+1:=⟨nodes s+nodes t-1,by have:=jhX s;omega⟩;rw[hn,jjy];have e3:(match fd s.args t.args with|some (a,b)=>jjy o n a b|none=>false)=true↔ ∃a b,fd s.args t.args=some (a,b)/\jjy o (nodes a+nodes b) a b=true:=by
  cases hf:fd s.args t.args with
  |none=>simp
  |some p=>
   obtain⟨a,b⟩:=p;have hm:=jtF hf;have h3:=jmt hm.1;have h4:=jmt hm.2;dsimp only;rw[jnh o n (nodes a+nodes b) a b (by omega) (jdB _)];constructor
   .intro h;exact⟨a,b,rfl,h⟩
   .rintro ⟨a',b',h,h'⟩;cases h;exact h'
 cases hb:bal s t
 .simp
 .rw [jbZ rfl];simp only[true_and];by_cases hw:wt o s=wt o t
  .rw [jbZ hw];have hw':¬wt o t<wt o s:=by omega
   cases hv:jgk s.name
   .cases hv2:jgk t.name
    .simp only[Bool.or_self,jfB,if_false,true_and,and_self];by_cases hr:jhf o s t=0
     .rw [jbZ hr];refine Iff.trans e3 ?_;constructor
      .intro h;exact Or.inr ⟨hw,Or.inr ⟨hr,h⟩⟩
      .rintro (h|⟨_,h|⟨_,h⟩⟩)
       .exact (hw' h).elim
       .omega
       .exact h
     .rw [ja0 hr,decide_eq_true_iff];constructor
      .intro h;exact Or.inr ⟨hw,Or.inl h⟩
      .rintro (h|⟨_,h|⟨h,_⟩⟩)
       .exact (hw' h).elim
       .exact h
       .exact (hr h).elim
    .simp [hw']
   .simp [hw']
  .rw [ja0 hw,decide_eq_true_iff];constructor
   .intro h;exact Or.inl h
   .rintro (h|⟨h,_⟩)
    .exact h
    .exact (hw h).elim
theorem jDu{n:Xb}(hn:jgk n=true):∀t:T,okT t=true->(n∈jgN t↔1<=cnt n t):=by
 refine T.ind λt ih hk=>?_;have hL:∀ts:Xg,(∀u∈ts,(n∈jgN u↔1<=cnt n u))->(n∈jhg ts↔1<=jjJ n ts):=by
  intro ts;induction ts with
  |nil=>intro _;simp[jhg,jjJ]
  |cons u us ih2=>
   intro h;have h1:=h u (by simp);have h2:=ih2 λv hv=>h v (by simp[hv]);simp only[jhg,jjJ,jeO,h1,h2];omega
 have hargs:=hL t.args λu hu=>ih u hu (jgQ hk u hu);rw[jjs,joD];rw[jht]at hk;cases hv:jgk t.name
 .have hne:t.name≠n:=λe=>by rw[e,hn]at hv;cases hv
  rw[ja0 Bool.false_ne_true,ja0 hne,hargs];omega
 .rw [hv,jbZ rfl]at hk;have ha:=List.isEmpty_iff.1 hk;rw[jbZ rfl,jdC,ha];by_cases e:t.name=n
  .rw [jbZ e];simp[jjJ,e]
  .rw [ja0 e];simp[jjJ];exact λh=>e h.symm
theorem jwd{n:Xb} :∀t:T,n∈jgN t->jgk n=true:=by
 refine T.ind λt ih h=>?_;rw[jjs]at h;cases hv:jgk t.name
 .rw [hv,ja0 Bool.false_ne_true]at h;have:∀ts:Xg,(∀u∈ts,n∈jgN u->jgk n=true)->n∈jhg ts->jgk n=true:=by
   intro ts;induction ts with
   |nil=>intro _ h;simp[jhg]at h
   |cons u us ih2=>
    intro h h2;simp only[jhg,jeO]at h2;rcases h2 with h2|h2
    .exact h u (by simp) h2
    .exact ih2 (λv hv=>h v (by simp[hv])) h2
  exact this t.args ih h
 .rw [hv,jbZ rfl,jdC]at h;rw[h];exact hv
theorem jFL(o:Ord')(x:T):¬Kp o x x:=by
 intro h;obtain⟨_,h|⟨_,_,h|⟨_,_,_,h,_⟩⟩⟩:=(jAj o x x).1 h
 .omega
 .rw [jEF]at h;omega
 .rw [jx7]at h;cases h
theorem jyS(o:Ord')(s t:T):jlc o s t=jlW (dq s t) (@decide (Kp o s t) (Classical.propDecidable _)) (@decide (Kp o t s) (Classical.propDecidable _)):=by
 have e1:jjy o (nodes s+nodes t) s t = @decide (Kp o s t) (Classical.propDecidable _):=by
  unfold Kp;cases jjy o (nodes s+nodes t) s t<;>simp
 have e2:jjy o (nodes s+nodes t) t s = @decide (Kp o t s) (Classical.propDecidable _):=by
  rw[jnh o (nodes s+nodes t) (nodes t+nodes s) t s (by omega) (jdB _)];unfold Kp;cases jjy o (nodes t+nodes s) t s<;>simp
 unfold jlc;rw[e1,e2]
def rbI(c:Int):Int:=if c=2 then 3 else if c=3 then 2 else c
open Classical in
open Classical in
theorem jAD{R:T->T->Prop}{s t:T}(hir:∀x,¬R x x):jlW (dq s t) (decide (R s t)) (decide (R t s))=2↔R s t:=by
 unfold jlW;cases hd:dq s t
 .by_cases h1:R s t
  .simp [h1]
  .by_cases h2:R t s<;>simp[h1,h2]
 .have:=jhF.1 hd;subst this;simp[hir s]
theorem jEr(o:Ord')(s t:T):jlc o s t=2↔Kp o s t:=by
 rw[jyS];exact jAD (R:=Kp o) (jFL o)
def look:List (Xb×T)->Xb->Option T
 | [],_=>none
 |p::u,n=>if p.1=n then some p.2 else look u n
def jid(u:List (Xb×T))(n:Xb):T:=(look u n).getD (.mk n [])
mutual
def sub(u:List (Xb×T)):T->T
 |.mk n us=>if jgk n then jid u n else .mk n (jzM u us)
def jzM(u:List (Xb×T)):Xg->Xg
 | []=>[]
 |t::ts=>sub u t::jzM u ts
end
theorem jvZ(u:List (Xb×T)):∀ts:Xg,jzM u ts=ts.map (sub u)
 | []=>rfl
 |t::ts=>by rw[jzM,jvZ u ts,jd1]
theorem jig{u:List (Xb×T)}{t:T}(h:jgk t.name=true):sub u t=jid u t.name:=by
 obtain⟨n,us⟩:=t;have h:jgk n=true:=h;show(if jgk n then jid u n else T.mk n (jzM u us))=_;rw[jbZ h];rfl
theorem jhK{u:List (Xb×T)}{t:T}(h:jgk t.name=false):sub u t = .mk t.name (t.args.map (sub u)):=by
 obtain⟨n,us⟩:=t;have h:jgk n=false:=h;show(if jgk n then jid u n else T.mk n (jzM u us))=_;rw[h,ja0 Bool.false_ne_true,jvZ];rfl
theorem job{u:List (Xb×T)}{t:T}(h:jgk t.name=false):(sub u t).name=t.name:=by rw[jhK h];rfl
theorem jmm{u:List (Xb×T)}{t:T}(h:jgk t.name=false):(sub u t).args=t.args.map (sub u):=by rw[jhK h];rfl
theorem jh7{t:T}(h:okT t=true)(hv:jgk t.name=true):t.args=[]:=by
 rw[jht,hv,jbZ rfl]at h;exact List.isEmpty_iff.1 h
def jLk(f:Xb->Int):Xa->Int
 | []=>0
 |x::l=>f x+jLk f l
theorem jDi{o:Ord'}(hv:jhB o=true){n:Xb}(h:o.syms.contains n=true):o.var<=jps o n:=by
 obtain⟨k,hk,hlt⟩:=jnQ h;obtain⟨h1,h2,h3,h4⟩:=jkv hv;have h5:=h4 k hlt;have hlt':k<o.ws.length:=by omega
 have e:jps o n=o.ws.getD k 0:=by simp[jps,hk]
 rw[e];exact h5.1
theorem jG8{o:Ord'}(hv:jhB o=true){t:T}(hc:jja o.syms t=true):o.var<=wt o t:=by
 have hc':=hc;rw[jiK,jbX]at hc';have hb:=(jk0 hv hc'.2).1;rw[jwh];cases hn:jgk t.name with
 |true=>simp only[jer];omega
 |false=>
  have hcn:=hc'.1;rw[hn,Bool.false_or]at hcn;have:=jDi hv hcn;simp only[jfB,if_false];omega
abbrev bc(p:Xb×T):Xd:=[sv p.1,sv p.2.name,.sl 2 (p.2.args.map jgi)]
abbrev sbs(u:List (Xb×T)):A:= .sl 3 (u.map bc)
abbrev sb(u:List (Xb×T)):A:= .agg [sbs u]
theorem jj4(p:Xb×T):QN 2 (.elt (bc p) 1)=some (tm p.2):=rfl
def Sz(z:Nat)(u:List (Xb×T)):Prop:=u.length<=z/\ ∀p∈u,p.1.length<=z/\tsz p.2<=z
theorem jr5(u:List (Xb×T))(hl:u.length<=1048576)(n:Xb):(look u n=none/\G 215 [sb u,sv n]=some (vi (-1),[]))\/ ∃k,∃h:k<u.length,look u n=some u[k].2/\G 215 [sb u,sv n]=some (vi (k:Nat),[]):=by
 have key:=upto (P:=λi=>(look (u.drop i) n=none/\jp3 (sv n) (vi i) (sbs u)=some (vi (-1),[]))\/ ∃k,∃h:k<u.length,look (u.drop i) n=some u[k].2/\jp3 (sv n) (vi i) (sbs u)=some (vi (k:Nat),[])) (n:=u.length) ?_ ?_ 0 (Nat.zero_le _)
 .rw [jKa];exact key
 .left;rw[List.drop_length,jBL];exact⟨rfl,by simp only[evz]⟩
 .intro i hi ih;have hlt:(i:Int)<((u.length:Nat):Int):=by omega
  have h5:=jgj hi (by show u.length<=9223372036854775807;omega)
  rw[jBL,jgg hi,look];by_cases he:u[i].1=n
  .right;rw[jbZ he];exact⟨i,hi,rfl,by simp only[evz,hlt,jfY hi,he]⟩
  .rw [ja0 he];rcases ih with⟨h1,h2⟩|⟨k,hk,h1,h2⟩
   .left;exact⟨h1,by simp only[evz,hlt,jfY hi,he,h5,h2]⟩
   .right;exact⟨k,hk,h1,by simp only[evz,hlt,jfY hi,he,h5,h2]⟩
theorem jjg(u:List (Xb×T))(hu:Sz 1048576 u)(t:T):tsz t<=1048576->G 178 [sb u,tm t]=some (tm (sub u t),[]):=by
 refine T.ind (p:=λt=>tsz t<=1048576->G 178 [sb u,tm t]=some (tm (sub u t),[])) ?_ t;intro t ih hs;have h:=hs;rw[jgL]at h;have e1:=jg9 t.name (by show t.name.length<=9223372036854775807;omega);rw[jJH];cases hv:jgk t.name<;>rw[hv]at e1
 .have key:=(upto (P:=λi=>jsP (vi i) (sbs u) (sv t.name) (tms t.args) (sv []) (sv t.name) [] (((t.args.map (sub u)).take i).map jgi)=some (tm (sub u t),[])) (n:=t.args.length) ?_ ?_ 0 (Nat.zero_le _))
  .simp only[Int.natCast_zero,List.take_zero,List.map_nil]at key;simp only[evz,e1,key]
  .rw [jBu,jfU (by rw[List.length_map];omega),jhK hv]
   simp only[evz];rfl
  .intro i hi ih';have hlt:(i:Int)<((t.args.length:Nat):Int):=by omega
   have h5:=jgj hi (by show t.args.length<=9223372036854775807;omega)
   have e2:=ih t.args[i] (jfL _) (by have:=jhr (jfL hi);omega)
   have hf:jbB (i+1) 40=true:=jvw (by omega);have hi2:i<(t.args.map (sub u)).length:=by rw[List.length_map];exact hi
   have hl:(((t.args.map (sub u)).take i).map jgi).length=i:=by rw[List.length_map,List.length_take,List.length_map];omega
   have ha:jeV (((t.args.map (sub u)).take i).map jgi) [[sv (sub u t.args[i]).name,tms (sub u t.args[i]).args]]=((t.args.map (sub u)).take (i+1)).map jgi:=by
    rw[show[sv (sub u t.args[i]).name,tms (sub u t.args[i]).args]=jgi (sub u t.args[i]) from(jgT _).symm,List.take_add_one,jam hi2,List.map_append,List.getElem_map];rfl
   generalize ((t.args.map (sub u)).take i).map jgi=R at *;rw[jBu];simp only[evz,hlt,jfY hi,jga,e2,hl,hf,ha,h5,ih']
 .rw [jig hv,jid];rcases jr5 u hu.1 t.name with⟨h1,h2⟩|⟨k,hk,h1,h2⟩
  .rw [h1];simp only[evz,e1,h2];rfl
  .rw [h1];have hm:=hu.2 _ (jfL hk);have e3:=jmh u[k].2 hm.2;have hk0:(0:Int)<=((k:Nat):Int):=by omega
   simp only[evz,e1,h2,hk0,jfY hk,jj4,e3,Option.getD_some]
end Go.Proofs.YthlhadhipnokfaaGreatDoor
