/- Pa -/
import Derived.Test.YthlhadhipnokfaaGreatDoorKt
import Derived.Test.YthlhadhipnokfaaGreatDoorPq
import Derived.Test.YthlhadhipnokfaaGreatDoorEd
import Derived.ChangeSame
namespace Go.Proofs.YthlhadhipnokfaaGreatDoor
open Go Go.RowKit Go.Proofs.YthlhadhipnokfaaGreatDoor.Abs
set_option linter.unusedSimpArgs false
set_option linter.unusedVariables false
abbrev ci(n:Int):Xd:=[vi n]
abbrev cs(s:Xb):Xd:=[sv s]
abbrev ints(l:Xi):A:= .sl 1 (l.map ci)
abbrev strs(l:Xa):A:= .sl 1 (l.map cs)
section
theorem jiB{α:Type}(x y:α):brn true x y=x:=rfl
theorem Z9{α:Type}(x y:α):brn false x y=y:=rfl
theorem jCh{α:Type}(b:Bool)(x y:α):brn b x y=if b=true then x else y:=rfl
theorem jvk:(-1:Int)<0:=by decide
theorem Yu(b:Bool):Ja (vb b)=some b:=rfl
theorem jjK(b:Bool)(x y:A):Zf (vb b) x y=some (if b=true then x else y):=rfl
theorem jAR(b w:Bool)(x:Xl):pG (vb b) w x=if b=w then x else some (.val undef):=rfl
theorem jq5(b w:Bool):ZL (vb b) w=some (decide (b=w)):=rfl
theorem jAQ(w:Bool)(x:Xl):pG (.val undef) w x=some (.val undef):=rfl
theorem jq4(w:Bool):ZL (.val undef) w=some false:=rfl
theorem jAS(k:Nat)(xs:Xc):kP (.sl k xs)=some (vi xs.length):=rfl
theorem je9(xs:Xc):yB xs=vi xs.length:=rfl
theorem jjT(xs:Xc):jv xs=xs.length:=rfl
theorem jbX(l:Xb):je3 (sv l)=some (vi l.length):=rfl
theorem jyN(a:A):fin false (a,[])=some a:=rfl
theorem jFU(b c:Bool):fin c (vb b,[])=some (vb b):=by cases c<;>rfl
theorem jFV(c:Bool)(n:Int):fin c (vi n,[])=some (vi n):=by cases c<;>rfl
theorem jDz(b:Bool):Jg .not (vb b)=some (vb (!b)):=rfl
theorem je1(b:Bool)(x y:Int):jy .lss b (vi x) (vi y)=some (vb (decide (x<y))):=rfl
theorem jAL(b:Bool)(x y:Int):jy .leq b (vi x) (vi y)=some (vb (decide (x<=y))):=rfl
theorem jAK(b:Bool)(x y:Int):jy .gtr b (vi x) (vi y)=some (vb (decide (y<x))):=rfl
theorem jAJ(b:Bool)(x y:Int):jy .geq b (vi x) (vi y)=some (vb (decide (y<=x))):=rfl
theorem jqX(b:Bool)(x y:Int):jy .eql b (vi x) (vi y)=some (vb (decide (x=y))):=rfl
theorem jAN(b:Bool)(x y:Int):jy .neq b (vi x) (vi y)=some (vb (!decide (x=y))):=rfl
theorem jwB(b:Bool)(x y:Int):jy .lss b (vy x) (vy y)=some (vb (decide (x<y))):=rfl
theorem jwA(b:Bool)(x y:Int):jy .leq b (vy x) (vy y)=some (vb (decide (x<=y))):=rfl
theorem jwz(b:Bool)(x y:Int):jy .gtr b (vy x) (vy y)=some (vb (decide (y<x))):=rfl
theorem jwy(b:Bool)(x y:Int):jy .geq b (vy x) (vy y)=some (vb (decide (y<=x))):=rfl
theorem jwx(b:Bool)(x y:Int):jy .eql b (vy x) (vy y)=some (vb (decide (x=y))):=rfl
theorem jwC(b:Bool)(x y:Int):jy .neq b (vy x) (vy y)=some (vb (!decide (x=y))):=rfl
theorem jwD(x y:Bool):jy .eql true (vb x) (vb y)=some (vb (decide (x=y))):=rfl
theorem jwE(x y:Bool):jy .neq true (vb x) (vb y)=some (vb (!decide (x=y))):=rfl
theorem Kz(b:Bool)(x y:Int):jy .add b (vi x) (vi y)=ck (x+y):=by cases b<;>rfl
theorem jqY(b:Bool)(x y:Int):jy .sub b (vi x) (vi y)=ck (x-y):=by cases b<;>rfl
theorem jAM(b:Bool)(x y:Int):jy .mul b (vi x) (vi y)=ck (x*y):=by cases b<;>rfl
theorem jV{n:Int}(h1: -9223372036854775808<=n)(h2:n<=9223372036854775807):ck n=some (vi n):=jg ⟨h1,h2⟩
theorem QN(b:Bool)(x y:Xb):jy .add b (sv x) (sv y)=if x.length+y.length<=9223372036854775807 then some (sv (x++y))else none:=by cases b<;>rfl
theorem jga(b:Bool)(x y:Xb):jy .eql b (sv x) (sv y)=some (vb (decide (x=y))):=rfl
theorem jwJ(b:Bool)(x y:Xb):jy .neq b (sv x) (sv y)=some (vb (!decide (x=y))):=rfl
theorem jwI(b:Bool)(x y:Xb):jy .lss b (sv x) (sv y)=some (vb (yK x y)):=rfl
theorem jAU(a:A)(l:Xd):j9 (.elt (a::l) 0)=some a:=rfl
theorem qA(cs:Xd)(off n:Nat):qe (.elt cs off) n=some (.elt cs (off+n)):=rfl
theorem jty(off:Nat)(cs:Xd):jjI off (.agg cs)=cs[off]? :=rfl
theorem jtx(n:Nat)(ds:Xd):jgc n (.agg ds)=if ds.length=n/\ds.all jU=true then some ds else none:=rfl
theorem jvX(a:A)(l:Xd):jb (a::l) 0=a:=rfl
theorem jyc(a b:A)(l:Xd):jb (a::b::l) 1=b:=rfl
theorem jyd(a b c:A)(l:Xd):jb (a::b::c::l) 2=c:=rfl
theorem jsK(a b c d:A)(l:Xd):jb (a::b::c::d::l) 3=d:=rfl
theorem jts(k:Nat)(xs:Xc):jU (.sl k xs)=true:=rfl
theorem jDq(cs:Xd)(o:Nat):jU (.elt cs o)=true:=rfl
theorem jGn(f:FuncId)(l:Xd):jU (.fn f l)=true:=rfl
theorem jGq(n:Int):jU (vi n)=true:=rfl
theorem jGp(b:Bool):jU (vb b)=true:=rfl
theorem jGo(l:Xb):jU (sv l)=true:=rfl
theorem jGt(n:Nat)(i:Int):Zt n (vi i)=if 0<=i/\i<(n:Int)then some i.toNat else none:=rfl
theorem zg{n i:Nat}(h:i<n):Zt n (vi i)=some i:=by
 rw[jGt,jg ⟨by omega,by omega⟩];simp
theorem jAW(k:Nat)(xs:Xc):je7 k (.sl k xs)=some xs:=jg rfl
theorem jGw(a:A)(l:Xd):jbY (.tup (a::l)) 0=some a:=rfl
theorem jGx(a b:A)(l:Xd):jbY (.tup (a::b::l)) 1=some b:=rfl
theorem jGy(a b c:A)(l:Xd):jbY (.tup (a::b::c::l)) 2=some c:=rfl
theorem jDx(x y:Int):jtz (vi x) (vi y)=some (vi (if x<y then y else x)):=by
 unfold jtz;simp
theorem jDy(x y:Int):jwL (vi x) (vi y)=some (vi (if y<x then y else x)):=by
 unfold jwL;simp
theorem jH3(a:A)(l:Xd)(i:Nat):hD (a,l) i=l[i]? :=rfl
theorem jLO(k:Nat)(a:A)(xs:Xc)(l:Xd):hR k (a,.sl k xs::l) 0=some xs:=by simp[hR]
theorem jLP(k:Nat)(a b:A)(xs:Xc)(l:Xd):hR k (a,b:: .sl k xs::l) 1=some xs:=by simp[hR]
theorem jLQ(k:Nat)(a b c:A)(xs:Xc)(l:Xd):hR k (a,b::c:: .sl k xs::l) 2=some xs:=by simp[hR]
theorem qx{f:FuncId}{caps args:Xd}{c:Bool}(h:K.pureF f=true):DX.run K (MM K) (.callc (.fn f caps) args c)=(G f (args++caps)).bind (fin c):=by
 simp only[DX.run,h,qi]
theorem ja{α:Type}{k:Nat}{f:α->Xd}{xs:List α}{i:Nat}(h:i<xs.length):jk k (.sl k (xs.map f)) (vi i)=some (.elt (f xs[i]) 0):=by
 simp only[jk,qi,List.length_map,zg h,qR];simp[zP,h]
theorem jo{i n:Nat}(h:i<n)(hn:n<=9223372036854775807):jy .add false (vi i) (vi 1)=some (vi ((i+1:Nat):Int)):=by
 rw[Kz,jV (by omega) (by omega)];rfl
theorem jfX{b:Int}{n:Nat}(h0:0<=b)(h1:b<=9223372036854775807)(hn:n<=9223372036854775807):ck (b-n)=some (vi (b-n)):=jV (by omega) (by omega)
theorem jIh(d top:Nat)(z:Int):pB d top (some (vi z))=if 0<=z/\z<=(top:Int)then some z.toNat else none:=rfl
theorem yW{d top n:Nat}(h:n<=top):pB d top (some (vi n))=some n:=by
 rw[jIh,jg ⟨by omega,by omega⟩];simp
theorem zn{d top:Nat}(h:d<=top):pB d top none=some d:=jg h
theorem joD(xs:Xc):zX xs=xs.length:=rfl
theorem yu(xs:Xc)(off:Nat):zj xs off=xs.length-off:=rfl
theorem jvu(ys:Xc)(n:Nat):jwQ ys n=vi (min ys.length n:Nat):=rfl
theorem jri(ys:Xc)(n:Nat):jlV ys n=ys.take n:=rfl
theorem Z2(xs:Xc)(off n:Nat):yI xs off n=(xs.drop off).take n:=rfl
theorem YE(xs:Xc)(off:Nat)(ys:Xc):yt xs off ys=xs.take off++ys++xs.drop (off+ys.length):=rfl
theorem yV(a b:Nat):kz a b=a-b:=rfl
theorem jAV(off n:Nat)(ys xs:Xc):jq2 off n ys xs=decide (off+n+ys.length<=xs.length):=rfl
theorem upto{P:Nat->Prop}{n:Nat}(h0:P n)(hs:∀i,i<n->P (i+1)->P i):∀i,i<=n->P i:=by
 intro i hi;obtain⟨k,hk⟩:∃k,n=i+k:=⟨n-i,by omega⟩;induction k generalizing i with
 |zero=>rw[show i=n by omega];exact h0
 |succ k ih=>exact hs i (by omega) (ih (i+1) (by omega) (by omega))
theorem ji{α:Type}{xs:List α}{i:Nat}(h:i<xs.length):xs.drop i=xs[i]::xs.drop (i+1):=List.drop_eq_getElem_cons h
theorem evs :
  ((-1:Int)<0)/\
  (∀{α:Type}(x y:α),brn true x y=x)/\
  (∀{α:Type}(x y:α),brn false x y=y)/\
  (∀{α:Type}(b:Bool)(x y:α),brn b x y=if b=true then x else y)/\
  (∀{α β:Type}(a:α)(f:α->Option β),(some a).bind f=f a)/\
  (∀{α β:Type}(f:α->Option β),none.bind f=none)/\
  (∀(b:Bool),Ja (vb b)=some b)/\
  (∀(b:Bool)(x y:A),Zf (vb b) x y=some (if b=true then x else y))/\
  (∀(b w:Bool)(x:Xl),pG (vb b) w x=if b=w then x else some (A.val undef))/\
  (∀(b w:Bool),ZL (vb b) w=some (decide (b=w)))/\
  (∀(w:Bool)(x:Xl),pG (A.val undef) w x=some (A.val undef))/\
  (∀(w:Bool),ZL (A.val undef) w=some false)/\
  (∀(k:Nat)(xs:Xc),kP (A.sl k xs)=some (vi ↑xs.length))/\
  (∀(xs:Xc),yB xs=vi ↑xs.length)/\
  (∀(xs:Xc),jv xs=xs.length)/\
  (∀(l:Xb),je3 (sv l)=some (vi ↑l.length))/\
  (∀(a:A),fin false (a,[])=some a)/\
  (∀(b c:Bool),fin c (vb b,[])=some (vb b))/\
  (∀(c:Bool)(n:Int),fin c (vi n,[])=some (vi n))/\
  (∀(b:Bool),Jg UnOp.not (vb b)=some (vb !b))/\
  (∀(b:Bool)(x y:Int),jy BinOp.lss b (vi x) (vi y)=some (vb (decide (x<y))))/\
  (∀(b:Bool)(x y:Int),jy BinOp.leq b (vi x) (vi y)=some (vb (decide (x<=y))))/\
  (∀(b:Bool)(x y:Int),jy BinOp.gtr b (vi x) (vi y)=some (vb (decide (y<x))))/\
  (∀(b:Bool)(x y:Int),jy BinOp.geq b (vi x) (vi y)=some (vb (decide (y<=x))))/\
  (∀(b:Bool)(x y:Int),jy BinOp.eql b (vi x) (vi y)=some (vb (decide (x=y))))/\
  (∀(b:Bool)(x y:Int),jy BinOp.neq b (vi x) (vi y)=some (vb !decide (x=y)))/\
  (∀(b:Bool)(x y:Int),jy BinOp.lss b (vy x) (vy y)=some (vb (decide (x<y))))/\
  (∀(b:Bool)(x y:Int),jy BinOp.leq b (vy x) (vy y)=some (vb (decide (x<=y))))/\
  (∀(b:Bool)(x y:Int),jy BinOp.gtr b (vy x) (vy y)=some (vb (decide (y<x))))/\
  (∀(b:Bool)(x y:Int),jy BinOp.geq b (vy x) (vy y)=some (vb (decide (y<=x))))/\
  (∀(b:Bool)(x y:Int),jy BinOp.eql b (vy x) (vy y)=some (vb (decide (x=y))))/\
  (∀(b:Bool)(x y:Int),jy BinOp.neq b (vy x) (vy y)=some (vb !decide (x=y)))/\
  (∀(x y:Bool),jy BinOp.eql true (vb x) (vb y)=some (vb (decide (x=y))))/\
  (∀(x y:Bool),jy BinOp.neq true (vb x) (vb y)=some (vb !decide (x=y)))/\
  (∀(b:Bool)(x y:Int),jy BinOp.add b (vi x) (vi y)=ck (x+y))/\
  (∀(b:Bool)(x y:Int),jy BinOp.sub b (vi x) (vi y)=ck (x-y))/\
  (∀(b:Bool)(x y:Int),jy BinOp.mul b (vi x) (vi y)=ck (x*y))/\
  (∀(b:Bool)(x y:Xb),jy BinOp.eql b (sv x) (sv y)=some (vb (decide (x=y))))/\
  (∀(b:Bool)(x y:Xb),jy BinOp.neq b (sv x) (sv y)=some (vb !decide (x=y)))/\
  (∀(b:Bool)(x y:Xb),jy BinOp.lss b (sv x) (sv y)=some (vb (yK x y)))/\
  (∀(a:A)(l:Xd),j9 (A.elt (a::l) 0)=some a)/\
  (∀(cs:Xd)(off n:Nat),qe (A.elt cs off) n=some (A.elt cs (off+n)))/\
  (∀(off:Nat)(cs:Xd),jjI off (A.agg cs)=cs[off]?)/\
  (∀(n:Nat)(ds:Xd),jgc n (A.agg ds)=if ds.length=n/\ds.all jU=true then some ds else none)/\
  (∀(a:A)(l:Xd),jb (a::l) 0=a)/\
  (∀(a b:A)(l:Xd),jb (a::b::l) 1=b)/\
  (∀(a b c:A)(l:Xd),jb (a::b::c::l) 2=c)/\
  (∀(a b c d:A)(l:Xd),jb (a::b::c::d::l) 3=d)/\
  (∀(k:Nat)(xs:Xc),jU (A.sl k xs)=true)/\
  (∀(cs:Xd)(o:Nat),jU (A.elt cs o)=true)/\
  (∀(f:FuncId)(l:Xd),jU (A.fn f l)=true)/\
  (∀(n:Int),jU (vi n)=true)/\
  (∀(b:Bool),jU (vb b)=true)/\
  (∀(l:Xb),jU (sv l)=true)/\
  (∀(k:Nat)(xs:Xc),je7 k (A.sl k xs)=some xs)/\
  (∀(a:A)(l:Xd),jbY (A.tup (a::l)) 0=some a)/\
  (∀(a b:A)(l:Xd),jbY (A.tup (a::b::l)) 1=some b)/\
  (∀(a b c:A)(l:Xd),jbY (A.tup (a::b::c::l)) 2=some c)/\
  (∀(x y:Int),jtz (vi x) (vi y)=some (vi (if x<y then y else x)))/\
  (∀(x y:Int),jwL (vi x) (vi y)=some (vi (if y<x then y else x)))/\
  (∀(a:A)(l:Xd)(i:Nat),hD (a,l) i=l[i]?)/\
  (∀(k:Nat)(a:A)(xs:Xc)(l:Xd),hR k (a,A.sl k xs::l) 0=some xs)/\
  (∀(k:Nat)(a b:A)(xs:Xc)(l:Xd),hR k (a,b::A.sl k xs::l) 1=some xs)/\
  (∀(k:Nat)(a b c:A)(xs:Xc)(l:Xd),hR k (a,b::c::A.sl k xs::l) 2=some xs)/\
  (∀{α:Type}{a:α}{l:List α}{f:α->Bool},(a::l).all f=(f a && l.all f))/\
  (∀{α:Type}{f:α->Bool},([]:List α).all f=true)/\
  (∀{α:Type}{a:α}{l:List α},(a::l).length=l.length+1)/\
  (∀{α:Type},([]:List α).length=0)/\
  (∀{α β:Type}{l:List α}(f:α->β),(List.map f l).length=l.length)/\
  (∀(n:Nat),0+n=n)/\
  (∀(b:Bool),(b && b)=b)/\
  (∀(b:Bool),(b && true)=b)/\
  (∀(p:Prop),(p/\p)=p)/\
  (∀{α:Type}{_x:Decidable True}(t e:α),(if True then t else e)=t)/\
  (∀{α:Type}{_x:Decidable False}(t e:α),(if False then t else e)=e)/\
  ((true=false)=False)/\
  ((false=true)=False)/\
  (∀(_h:Decidable True),decide True=true)/\
  (∀(_h:Decidable False),decide False=false)/\
  ((!true)=false)/\
  ((!false)=true)/\
  (∀(b:Bool),((!b)=true)=(b=false))/\
  (∀{p:Prop} [Decidable p],(decide p=true)=p)/\
  (∀{p:Prop}{x:Decidable p},decide p=false↔ ¬p)/\
  (∀(a:Int),¬a<a)/\
  ((¬True)=False)/\
  ((¬False)=True)/\
  (∀{α:Type}(a b:α),(if True then a else b)=a)/\
  (∀{α:Type}(a b:α),(if False then a else b)=b):=
 ⟨@jvk,@jiB,@Z9,@jCh,@Option.bind_some.{0,0},@Option.bind_none.{0,0},@Yu,@jjK,@jAR,@jq5,@jAQ,@jq4,@jAS,@je9,@jjT,@jbX,@jyN,@jFU,@jFV,@jDz,@je1,@jAL,@jAK,@jAJ,@jqX,@jAN,@jwB,@jwA,@jwz,@jwy,@jwx,@jwC,@jwD,@jwE,@Kz,@jqY,@jAM,@jga,@jwJ,@jwI,@jAU,@qA,@jty,@jtx,@jvX,@jyc,@jyd,@jsK,@jts,@jDq,@jGn,@jGq,@jGp,@jGo,@jAW,@jGw,@jGx,@jGy,@jDx,@jDy,@jH3,@jLO,@jLP,@jLQ,@zR.{0},@List.all_nil.{0},@j8.{0},@zO.{0},@List.length_map.{0,0},@yd,@Bool.and_self,@Bool.and_true,@and_self,@qi.{1},@if_false.{1},@Bool.true_eq_false,@KI,@decide_true,@decide_false,@Bool.not_true,@Bool.not_false,@QY,@ky,@decide_eq_false_iff_not,@Int.lt_irrefl,@not_true_eq_false,@not_false_eq_true,@ite_true.{1},@ite_false.{1}⟩
end
theorem jHG:(∀{α:Type}{h:Decidable True}(a b:α),@ite α True h a b=a)/\(∀{α:Type}{h:Decidable False}(a b:α),@ite α False h a b=b)/\(1+1=2/\1+2=3/\1+3=4/\1+4=5/\2+1=3/\2+2=4/\2+3=5/\2+4=6/\3+1=4/\3+2=5/\3+3=6/\3+4=7/\4+1=5/\4+2=6/\4+3=7/\4+4=8/\5+1=6/\5+2=7/\5+3=8/\5+4=9/\6+1=7/\6+2=8/\6+3=9/\6+4=10/\7+1=8/\7+2=9/\7+3=10/\7+4=11/\8+1=9/\8+2=10/\8+3=11/\8+4=12/\9+1=10/\9+2=11/\9+3=12/\9+4=13/\10+1=11/\10+2=12/\10+3=13/\10+4=14/\11+1=12/\11+2=13/\11+3=14/\11+4=15/\12+1=13/\12+2=14/\12+3=15/\12+4=16):=by refine⟨?_,?_,by decide⟩<;>intros<;>simp
theorem je:type_of% (And.intro evs (And.intro cev jHG)):=And.intro evs (And.intro cev jHG)
open Go Go.RowKit Go.ChangeShapes Go.Deep Go.Proofs.YthlhadhipnokfaaGreatDoor.Abs
section
variable{P:Program}{t:Nat}{H:Type}{enc:TypeId×Value->H}{w:World}{base:Nat}{spare:Nat->Bool}{held:Bool}{fuel:Nat}{cs:Xh}{x:DataW H×List MemPlace}
theorem jtX{α:Type}{g0:α->Xd}{p0:α->Prop}{f0:Field}{k0:Nat}(ht:P.underlying t=some (.struct #[f0]))
  (o0:f0.offset=0) (c0:P.cellsOf f0.type=k0) (c:P.cellsOf t=k0)
  (h0:∀n cs x,n<fuel->DataW.trod enc P w base spare held n f0.type cs=some x-> ∃a,p0 a/\jz w (λ_=>False) (g0 a) cs/\jx cs)
  (h:DataW.trod enc P w base spare held fuel t cs=some x):∃a,p0 a/\jz w (λ_=>False) (g0 a) cs/\jx cs:=by
 obtain⟨xs,n,hfn,rfl,hl,hlen,hf⟩:=DataW.trod_struct ht h;have e0:=hf 0 f0 rfl;rw[o0,c0]at e0;have hlen:xs.length=1:=hlen;have hx0:xs[0]? = some xs[0]:=j7 (by omega);rw[hx0]at e0;obtain⟨a,q1,q2,q3⟩:=h0 n _ _ (by omega) e0;rw[List.drop_zero,yN (by omega)]at q2 q3;exact⟨a,q1,q2,q3⟩
theorem jkd{α β:Type}{g0:α->Xd}{g1:β->Xd}{p0:α->Prop}{p1:β->Prop}{f0 f1:Field}{k0 k1:Nat}(ht:P.underlying t=some (.struct #[f0,f1]))
  (o0:f0.offset=0) (o1:f1.offset=k0) (c0:P.cellsOf f0.type=k0) (c1:P.cellsOf f1.type=k1) (c:P.cellsOf t=k0+k1)
  (h0:∀n cs x,n<fuel->DataW.trod enc P w base spare held n f0.type cs=some x-> ∃a,p0 a/\jz w (λ_=>False) (g0 a) cs/\jx cs)
  (h1:∀n cs x,n<fuel->DataW.trod enc P w base spare held n f1.type cs=some x-> ∃a,p1 a/\jz w (λ_=>False) (g1 a) cs/\jx cs)
  (h:DataW.trod enc P w base spare held fuel t cs=some x):∃a b,p0 a/\p1 b/\jz w (λ_=>False) (g0 a++g1 b) cs/\jx cs:=by
 obtain⟨xs,n,hfn,rfl,hl,hlen,hf⟩:=DataW.trod_struct ht h;have e0:=hf 0 f0 rfl;have e1:=hf 1 f1 rfl;rw[o0,c0]at e0;rw[o1,c1]at e1;have hlen:xs.length=2:=hlen;have hx0:xs[0]? = some xs[0]:=j7 (by omega);have hx1:xs[1]? = some xs[1]:=j7 (by omega);rw[hx0]at e0;rw[hx1]at e1;obtain⟨a,q1,q2,q3⟩:=h0 n _ _ (by omega) e0;obtain⟨b,r1,r2,r3⟩:=h1 n _ _ (by omega) e1;have e:cs=(cs.drop 0).take k0++(cs.drop k0).take k1:=by
  rw[yN (l:=cs.drop k0) (by simp;omega),List.drop_zero,Qj]
 rw[e];exact⟨a,b,q1,r1,zl q2 r2,jx.append q3 r3⟩
end
inductive T where
 |mk (name:Xb) (args:List T)
abbrev Xg:=List T
def T.name:T->Xb|.mk n _=>n
def T.args:T->Xg|.mk _ us=>us
theorem T.eta(t:T):T.mk t.name t.args=t:=by cases t;rfl
mutual
def jm:T->Xd
 |.mk n us=>[sv n,.sl 2 (jhT us)]
def jhT:Xg->Xc
 | []=>[]
 |t::ts=>jm t::jhT ts
end
theorem jce:∀ts:Xg,jhT ts=ts.map jm
 | []=>rfl
 |t::ts=>by simp[jhT,jce ts]
theorem kU(t:T):jm t=[sv t.name,.sl 2 (t.args.map jm)]:=by
 cases t;simp[jm,T.name,T.args,jce]
theorem jkY(t:T):(jm t).length=2:=by rw[kU];rfl
abbrev tm(t:T):A:= .agg [sv t.name,.sl 2 (t.args.map jm)]
abbrev jG(ts:Xg):A:= .sl 2 (ts.map jm)
theorem jd(t:T):kC 2 (.elt (jm t) 0)=some (.agg [sv t.name,.sl 2 (t.args.map jm)]):=by rw[kU];rfl
mutual
def tsz:T->Nat
 |.mk n us=>n.length+us.length+ZG us
def ZG:Xg->Nat
 | []=>0
 |t::ts=>tsz t+ZG ts
end
theorem kH(t:T):tsz t=t.name.length+t.args.length+ZG t.args:=by cases t;simp[tsz,T.name,T.args]
theorem yv:∀{ts:Xg}{t:T},t∈ts->tsz t<=ZG ts
 | [],_,h=>by cases h
 |u::us,t,h=>by
  simp only[ZG];rcases jK.1 h with rfl|h
  .omega
  .have:=yv h;omega
mutual
def Jv:T->Prop
 |.mk n us=>n.length<=9223372036854775807/\us.length<=9223372036854775807/\jxq us
def jxq:Xg->Prop
 | []=>True
 |t::ts=>Jv t/\jxq ts
end
theorem kE(t:T):Jv t↔t.name.length<=9223372036854775807/\t.args.length<=9223372036854775807/\jxq t.args:=by cases t;simp[Jv,T.name,T.args]
theorem ke:∀ts:Xg,jxq ts↔ ∀t∈ts,Jv t
 | []=>by simp[jxq]
 |t::ts=>by simp[jxq,ke ts]
theorem T.ind{p:T->Prop}(h:∀t,(∀u∈t.args,p u)->p t):∀t,p t:=by
 intro t;induction hn:SizeOf.sizeOf t using Nat.strongRecOn generalizing t with
 |ind n ih=>
  subst hn;refine h t λu hu=>ih (SizeOf.sizeOf u) ?_ u rfl;cases t with
  |mk nm us=>
   have:=List.sizeOf_lt_of_mem hu;simp only[T.args]at this;simp only[T.mk.sizeOf_spec];omega
section
variable{P:Program}{tT tS:Nat}
theorem jwS{H:Type}{enc:TypeId×Value->H}{w:World}{base:Nat}{spare:Nat->Bool}{held:Bool}{f0 f1:Field}(ht:P.underlying tT=some (.struct #[f0,f1]))(h0:P.underlying f0.type=some .string)(h1:P.underlying f1.type=some (.slice tT))
  (o0:f0.offset=0) (o1:f1.offset=1) (c0:P.cellsOf f0.type=1) (c1:P.cellsOf f1.type=1) (c2:P.cellsOf tT=2) :
  ∀(fuel:Nat)(cs:Xh)(x:DataW H×List MemPlace),DataW.trod enc P w base spare held fuel tT cs=some x-> ∃t,Jv t/\jz w (λ_=>False) (jm t) cs/\jx cs:=by
 intro fuel;induction fuel using Nat.strongRecOn with
 |ind fuel ih=>
  intro cs x h;obtain⟨xs,n,hfn,rfl,hl,hlen,hf⟩:=DataW.trod_struct ht h;have e0:=hf 0 f0 rfl;have e1:=hf 1 f1 rfl;rw[o0,c0]at e0;rw[o1,c1]at e1;rw[c2]at hl
  match cs,hl with
  | [u,v],_=>
   match xs,hlen with
   | [y0,y1],_=>
    simp only[List.drop_zero,jkz,List.take_zero,List.getElem?_cons_zero]at e0;simp only[List.drop_succ_cons,List.drop_zero,jkz,List.take_zero,List.getElem?_cons_succ,List.getElem?_cons_zero]at e1;obtain⟨s,hs,_,hsz⟩:=DataW.trod_string h0 e0;obtain⟨ts,⟨hts,htl⟩,hr,ho⟩:=jrH (P:=P) (t:=f1.type) (e:=tT) (f:=jm) (p:=Jv) jkY (by decide) h1 c2 (λm cs' x' hm hx'=>ih m (by omega) cs' x' hx') e1;have hbs:∀s:ByteArray,(⟨⟨bs s⟩⟩:ByteArray)=s:=λs=>rfl;refine⟨.mk (bs s) ts,by simp only[Jv];exact⟨by show(bs s).length<=_;rw[<-jcJ];simpa[maxLen]using hsz,htl,(ke ts).2 hts⟩,?_,?_⟩
    .simp only[jm,jce];simp only[KH,and_true]at hs;subst hs;simp only[jz,KH]at hr;obtain⟨v',r',⟨rfl,rfl⟩,h3,_⟩:=hr;simp only[jz];exact⟨_,_,rfl,by simp[rel,hbs],_,_,rfl,h3,rfl⟩
    .simp only[KH,and_true]at hs;subst hs;intro z hz;rcases jK.1 hz with rfl|hz
     .simp [Value.oneCell']
     .exact ho z hz
end
theorem jDG:Rdr Tryz.prog 117 jm Jv:=λ_ _ _ _ _ _ fuel cs x h=>
 jwS Tryz.underlying117 Tryz.underlying9 Tryz.underlying115 rfl rfl (by kernel_rfl) (by kernel_rfl) (by kernel_rfl) fuel cs x h
theorem jtE:Rdr Tryz.prog 3 ci I64:=Rdr.int Tryz.underlying3
theorem jDD:Rdr Tryz.prog 4 (λb=>[vb b]) (λ_=>True):=Rdr.bool Tryz.underlying4
theorem jvv:Rdr Tryz.prog 27 (λxs:Xi=>[ints xs]) (λxs=>(∀x∈xs,I64 x)/\xs.length<=9223372036854775807):=
 Rdr.slice Tryz.underlying27 (by kernel_rfl) (by decide) (λ_=>rfl) jtE
structure Ord' where
 syms:Xa
 ws:Xi
 var:Int
abbrev jox(o:Ord'):Xd:=[strs o.syms,ints o.ws,vi o.var]
abbrev od(o:Ord'):A:= .agg [strs o.syms,ints o.ws,vi o.var]
def owf(o:Ord'):Prop:=((∀s∈o.syms,s.length<=9223372036854775807)/\o.syms.length<=9223372036854775807)/\((∀x∈o.ws,I64 x)/\o.ws.length<=9223372036854775807)/\I64 o.var
set_option maxHeartbeats 1000000
def ko(left n:Int):Int:=if 0<=left-n then left-n else -1
theorem z8{left n:Int}(h:left<n):ko left n = -1:=jh (by omega)
theorem Ke{left n:Int}(h:n<=left):ko left n=left-n:=jg (by omega)
theorem jau{b:Int}(h:0<=b):ko b ((0:Nat):Int)=b:=by unfold ko;simp[h]
theorem Yb(b m n:Int):ko (b-m) n=ko b (m+n):=by unfold ko;rw[Int.sub_sub]
theorem jbN(b n:Int): -1<=ko b n:=by unfold ko;split<;>omega
theorem QK{b m n:Int}(h:m<=b):ko (ko b m) n=ko b (m+n):=by rw[Ke h,Yb]
def part{α:Type}(f:α->Xd)(z:Xd)(xs:List α)(i:Nat):Xc:=(xs.take i).map f++List.replicate (xs.length-i) z
section
variable{α:Type}{f:α->Xd}{z:Xd}{xs:List α}
theorem KT:yH xs.length z=part f z xs 0:=by simp[part,yH]
theorem Yz:part f z xs xs.length=xs.map f:=by simp[part]
theorem Jq{i:Nat}(h:i<=xs.length):(part f z xs i).length=xs.length:=by simp[part];omega
theorem YA{i:Nat}(h:i<xs.length):YD (part f z xs i) i=some z:=by
 unfold YD part;rw[JX (by simp;omega)];simp;rw[List.getElem?_replicate,jg (by omega)]
theorem YB{i:Nat}(h:i<xs.length):kX (part f z xs i) i (f xs[i])=part f z xs (i+1):=by
 unfold kX part;have e:xs.length-i=(xs.length-(i+1))+1:=by omega
 rw[List.set_append_right _ _ (by simp;omega),e,ZR]
 simp only[List.length_map,List.length_take,Nat.min_eq_left (Nat.le_of_lt h),Nat.sub_self,List.set_cons_zero];rw[<-List.take_append_getElem h,List.map_append];simp
end
theorem jCj(a b:A):jS [a] 0 [b]=[b]:=rfl
theorem jhB(a b c d:A):jS [a,b] 0 [c,d]=[c,d]:=rfl
theorem qV{b n:Nat}(hb:(b:Int)*(n:Int)<=281474976710656)(hn:n<=1048576):je6 b (vi n) (vi n)=some n:=by
 show(if _ then _ else _)=_;rw[jg (show jB4 b n n from⟨by omega,Int.le_refl _,hb,by omega⟩),Int.toNat_natCast]
theorem Kf{k:Nat}{xs:Xc}{i:Nat}(h:i<=xs.length):yb k (.sl k xs) none (some (vi i))=some (.sl k (xs.take i)):=by
 simp only[yb,KS,Option.bind_some];rw[jg ⟨trivial,Int.le_refl _,by omega,by omega⟩];simp
theorem qf{k:Nat}{xs:Xc}{i:Nat}(h:i<=xs.length):yb k (.sl k xs) (some (vi i)) none=some (.sl k (xs.drop i)):=by
 simp only[yb,KS,Option.bind_some];rw[jg ⟨trivial,by omega,by omega,by omega⟩];simp
def jdy(k:Int):Nat->Xi
 |0=>[]
 |n+1=>k::jdy (k+1) n
theorem jgH:∀(k:Int)(n:Nat),(jdy k n).length=n
 |_,0=>rfl
 |k,n+1=>by simp[jdy,jgH (k+1) n]
section
variable{α:Type}{f:α->Xd}(M r:List α)(x:α)
theorem jjr{k:Nat} :jk k (.sl k ((M++x::r).map f)) (vi (M.length:Nat))=some (.elt (f x) 0):=by
 rw[ja (by simp)];simp
theorem jdH:((M.length:Nat):Int)<(((M++x::r).length:Nat):Int):=by simp only[zv,j8];omega
end
section
variable(M R:Xc)(x y:Xd)
theorem J2:YD (M++x::R) M.length=some x:=by
 unfold YD;rw[JX (j4 _)];simp
theorem J3:kX (M++x::R) M.length y=M++y::R:=by
 unfold kX;rw[List.set_append_right _ _ (by simp)];simp
theorem ZD:Zt (M++x::R).length (vi (M.length:Nat))=some M.length:=zg (by simp)
end
def jBx:Xa->Nat
 | []=>0
 |s::l=>s.length+jBx l
theorem jvH(l:Xi)(hl:l.length<=9223372036854775807)(left:Int)(h0:0<=left)(h1:left<=1048576):G 64 [ints l,vi left]=some (vi (ko left ((l.length:Nat):Int)),[]):=by
 have hk:=jfX h0 (Int.le_trans h1 (by decide)) hl;rw[g64];simp only[je,hk];by_cases hc:left-l.length<0
 .simp only[je,hc];rw[z8 (by omega)]
 .simp only[je,hc];rw[Ke (by omega)]
def osz(o:Ord'):Nat:=o.syms.length+jBx o.syms+o.ws.length
theorem jBE(ts:Xg)(hl:ts.length<=9223372036854775807)(ih:∀t∈ts,∀left:Int,0<=left->left<=1048576->G 111 [tm t,vi left]=some (vi (ko left ((tsz t:Nat):Int)),[]))
  (left:Int) (h0:0<=left) (h1:left<=1048576):G 139 [jG ts,vi left]=some (vi (ko left ((ts.length+ZG ts:Nat):Int)),[]):=by
 have loop:∀(a:Int),0<=a->a<=1048576->jh4 (jG ts) (vi a) (vi 0)=some (vi (ko a (ZG ts)),[]):=by
  have key:=(upto (P:=λi=>∀a:Int,0<=a->a<=1048576->jh4 (jG ts) (vi a) (vi i)=some (vi (ko a (ZG (ts.drop i))),[])) (n:=ts.length) ?_ ?_ 0 (Nat.zero_le _))
  .simp only[List.drop_zero,Int.natCast_zero]at key;exact key
  .intro b hb hb';rw[jzg,List.drop_length];simp only[je,ZG];rw[jau hb]
  .intro i hi ih' b hb hb';have e1:=ih ts[i] (jr _) b hb hb';rw[jzg,ji hi];simp only[je,hi,Int.ofNat_lt,ja hi,jd,e1,jo hi hl,ZG];by_cases hc:b<(tsz ts[i]:Nat)
   .rw [z8 hc,z8 (by omega)];rfl
   .have hp:=Ke (Int.not_lt.1 hc);have ih':=ih' (ko b (tsz ts[i]:Nat)) (by omega) (by omega);have hn:¬ko b ((tsz ts[i]:Nat):Int)<0:=by omega
    simp only[je,hn,ih'];rw[QK (Int.not_lt.1 hc),<-Int.natCast_add]
 have hk:=jfX h0 (Int.le_trans h1 (by decide)) hl;rw[jJN];simp only[je,hk];by_cases hc:left-ts.length<0
 .simp only[je,hc];rw[z8 (by omega)]
 .have hl:=loop (left-ts.length) (by omega) (by omega);simp only[je,hc,hl];rw[Yb,<-Int.natCast_add]
theorem jD3(t:T):Jv t-> ∀left:Int,0<=left->left<=1048576->G 111 [tm t,vi left]=some (vi (ko left ((tsz t:Nat):Int)),[]):=by
 refine T.ind (p:=λt=>Jv t-> ∀left:Int,0<=left->left<=1048576->G 111 [tm t,vi left]=some (vi (ko left ((tsz t:Nat):Int)),[])) ?_ t;intro t ih hw left h0 h1;obtain⟨w1,w2,w3⟩:=(kE t).1 hw;have w3:=(ke _).1 w3;have hk:=jfX h0 (Int.le_trans h1 (by decide)) w1;rw[jJz,kH];simp only[je,hk];by_cases hc:left-t.name.length<0
 .simp only[je,hc];rw[z8 (by omega)]
 .have e2:=jBE t.args w2 (λu hu=>ih u hu (w3 u hu)) (left-t.name.length) (by omega) (by omega);simp only[je,hc,e2];rw[Yb,<-Int.natCast_add,<-jk1];by_cases h2:ko left ((t.name.length+t.args.length+ZG t.args:Nat):Int)<0
  .have:ko left ((t.name.length+t.args.length+ZG t.args:Nat):Int) = -1:=by have:=jbN left (t.name.length+t.args.length+ZG t.args:Nat);omega
   simp only[je,this]
  .simp only[je,h2]
theorem jnX(l:Xi)(hl:l.length<=9223372036854775807):G 10 [ints l,ints l]=some (vb true,[]):=by
 have key:=(upto (P:=λi=>jug (ints l) (ints l) (vi i)=some (vb true,[])) (n:=l.length) ?_ ?_ 0 (Nat.zero_le _))
 .rw [g10];simp only[Int.natCast_zero]at key;simp only[je,key]
 .rw [jEx];simp only[je]
 .intro i hi ih;have h5:=jo hi hl;rw[jEx];simp only[je,hi,Int.ofNat_lt,ja hi,h5,ih]
theorem jyJ(ts:Xg)(hl:ts.length<=9223372036854775807)(ih:∀t∈ts,G 123 [tm t,tm t]=some (vb true,[])):G 152 [jG ts,jG ts]=some (vb true,[]):=by
 have key:=(upto (P:=λi=>jmU (jG ts) (jG ts) (vi i)=some (vb true,[])) (n:=ts.length) ?_ ?_ 0 (Nat.zero_le _))
 .rw [jJW];simp only[Int.natCast_zero]at key;simp only[je,key]
 .rw [jzl];simp only[je]
 .intro i hi ih';have h5:=jo hi hl;have e1:=ih ts[i] (jr _);rw[jzl];simp only[je,hi,Int.ofNat_lt,ja hi,jd,e1,h5,ih']
theorem jC1(t:T):Jv t->G 123 [tm t,tm t]=some (vb true,[]):=by
 refine T.ind (p:=λt=>Jv t->G 123 [tm t,tm t]=some (vb true,[])) ?_ t;intro t ih h;obtain⟨w1,w2,w3⟩:=(kE t).1 h;have w3:=(ke _).1 w3;have e1:=jyJ t.args w2 λu hu=>ih u hu (w3 u hu);rw[jJE];simp only[je,e1]
theorem Yw{l:Xb}{i:Nat}(h:i<l.length):yr (sv l) (vi i)=some (vy (l[i].toNat:Int)):=by
 show(if _ then _ else _)=_;rw[jg ⟨by omega,by simpa using h⟩];simp[zP,h]
theorem qU{c:UInt8}{l:Xb} :yr (sv (c::l)) (vi 0)=some (vy (c.toNat:Int)):=Yw (i:=0) (l:=c::l) (by simp)
def y8(lo hi x:Int):Bool:=decide (lo<=x) && decide (x<=hi)
theorem yQ(x a b:Int):G 47 [vi x,vi a,vi b]=some (vb (y8 a b x),[]):=by
 rw[g47];by_cases h:a<=x<;>simp only[je,h,y8,Bool.true_and,Bool.false_and]
theorem zW(x a b:Int):G 22 [vi x,vi a,vi b]=some (vb (y8 a b x),[]):=by
 rw[g22];by_cases h:a<=x<;>simp only[je,h,y8,Bool.true_and,Bool.false_and]
def upc(c:UInt8):Bool:=y8 65 90 (c.toNat:Int)
def jcU(c:UInt8):Bool:=y8 97 122 (c.toNat:Int)
def jv2(c:UInt8):Bool:=y8 48 57 (c.toNat:Int)
def JM(c:UInt8):Bool:=jcU c || jv2 c
theorem jdA(c:UInt8):G 233 [vy (c.toNat:Int)]=some (vb (upc c),[]):=by
 rw[jKX];by_cases h:65<=(c.toNat:Int)<;>simp only[je,h,upc,y8,Bool.true_and,Bool.false_and]
theorem jdz(c:UInt8):G 262 [vy (c.toNat:Int)]=some (vb (jcU c),[]):=by
 rw[jLj];by_cases h:97<=(c.toNat:Int)<;>simp only[je,h,jcU,y8,Bool.true_and,Bool.false_and]
theorem ji2(c:UInt8):G 263 [vy (c.toNat:Int)]=some (vb (jv2 c),[]):=by
 rw[jLk];by_cases h:48<=(c.toNat:Int)<;>simp only[je,h,jv2,y8,Bool.true_and,Bool.false_and]
theorem jje(c:UInt8):G 169 [vy (c.toNat:Int)]=some (vb (JM c),[]):=by
 rw[jKa];by_cases h:97<=(c.toNat:Int)<;>by_cases h2:(c.toNat:Int)<=122<;>by_cases h3:48<=(c.toNat:Int)<;>simp only[je,h,h2,h3,JM,jcU,jv2,y8,Bool.true_and,Bool.false_and,Bool.or_false,Bool.true_or,Bool.false_or]
def js:Xb->Bool
 | []=>false
 |c::r=>upc c && (r.all JM && decide (r.length<=3))
theorem jhH(r:Xb)(k:Nat)(hk:k<=9):y8 1 (k+1:Nat) (((r.length+1:Nat)):Int)=decide (r.length<=k):=by
 unfold y8;have:decide ((1:Int)<=((r.length+1:Nat):Int))=true:=by simp;omega
 rw[this,Bool.true_and];by_cases h:r.length<=k<;>simp[h]<;>omega
theorem jhe(s:Xb)(hs:s.length<=9223372036854775807):∀i,i<=s.length->1<=i->jil (sv s) (vi (s.length:Nat)) (vi i)=some (vb ((s.drop i).all JM && y8 1 4 (s.length:Nat)),[]):=by
 refine upto (P:=λi=>1<=i->jil (sv s) (vi (s.length:Nat)) (vi i)=some (vb ((s.drop i).all JM && y8 1 4 (s.length:Nat)),[])) ?_ ?_
 .intro _;rw[joh,List.drop_length];have e:=yQ (s.length:Nat) 1 4;simp only[je,e,Bool.true_and]
 .intro i hi ih h1;have ih:=ih (by omega);have hn:¬((i:Int)=0):=by omega
  have hp:(0:Int)<(i:Int):=by omega
  have hlt:(i:Int)<((s.length:Nat):Int):=by omega
  have h5:=jo hi hs;have hx:=Yw hi;have e1:=jdz s[i];have e2:=ji2 s[i];rw[joh,ji hi];generalize s[i]=ch at *;rw[zR];cases h8:jcU ch<;>cases h9:jv2 ch<;>rw[h8]at e1<;>rw[h9]at e2<;>simp only[je,hn,hp,hlt,hx,e1,e2,h5,ih,JM,h8,h9,Bool.true_and,Bool.false_and,Bool.or_true,Bool.or_false]
theorem jda(s:Xb)(hs:s.length<=9223372036854775807):G 260 [sv s]=some (vb (js s),[]):=by
 rw[jLh];show(je3 (sv s)).bind _=_;rw[jbX,Option.bind_some];cases s with
 |nil=>
  rw[joh];have e:=yQ ((0:Nat):Int) 1 4;simp only[je,e];rfl
 |cons c r=>
  have key:=jhe (c::r) hs 1 (by simp) (j4 _);simp only[List.drop_succ_cons,List.drop_zero]at key;have e':y8 1 4 (((c::r).length:Nat):Int)=decide (r.length<=3):=jhH r 3 (by decide);rw[e']at key;rw[joh];have h5:jy .add false (vi 0) (vi 1)=some (vi ((1:Nat):Int)):=by rw[Kz,jV (by decide) (by decide)];rfl
  have h6:(0:Int)<(((c::r).length:Nat):Int):=Int.natCast_pos.2 (Nat.succ_pos _);have e1:=jdA c;generalize ((((c::r).length:Nat)):Int)=n at *;cases hu:upc c<;>rw[hu]at e1<;>simp only[je,h6,qU,e1,h5,key,js,hu,Bool.true_and,Bool.false_and]
theorem jtf(s:Xb)(hs:s.length<=9223372036854775807):∀i,i<=s.length->jfF (sv s) (vi i)=some (vb ((s.drop i).all JM),[]):=by
 refine upto (P:=λi=>jfF (sv s) (vi i)=some (vb ((s.drop i).all JM),[])) ?_ ?_
 .rw [jzo,List.drop_length];simp only[je]
 .intro i hi ih;have hlt:(i:Int)<((s.length:Nat):Int):=by omega
  have h5:=jo hi hs;have hx:=Yw hi;have e1:=jje s[i];rw[jzo,ji hi];generalize s[i]=ch at *;rw[zR];cases h8:JM ch<;>rw[h8]at e1<;>simp only[je,hlt,hx,e1,h5,ih,Bool.true_and,Bool.false_and]
theorem zL(s:Xb)(hs:s.length<=9223372036854775807):G 168 [sv s]=some (vb (js s),[]):=by
 rw[jJ9];show(je3 (sv s)).bind _=_;rw[jbX,Option.bind_some];cases s with
 |nil=>
  have e:=zW ((0:Nat):Int) 1 4;simp only[je,e];rfl
 |cons c r=>
  have e:=zW (((c::r).length:Nat):Int) 1 4;have e':y8 1 4 (((c::r).length:Nat):Int)=decide (r.length<=3):=jhH r 3 (by decide);rw[e']at e;have key:=jtf (c::r) hs 1 (by simp);simp only[List.drop_succ_cons,List.drop_zero]at key;have key:jfF (sv (c::r)) (vi 1)=some (vb (r.all JM),[]):=key;generalize ((((c::r).length:Nat)):Int)=n at *;by_cases h3:r.length<=3
  .rw [decide_eq_true h3]at e;by_cases ha:(c.toNat:Int)<65
   .have:¬(65<=(c.toNat:Int)):=by omega
    simp only[je,e,qU,ha,js,upc,y8,this,Bool.false_and]
   .have h65:65<=(c.toNat:Int):=by omega
    by_cases hb:90<(c.toNat:Int)
    .have:¬((c.toNat:Int)<=90):=by omega
     simp only[je,e,qU,ha,hb,js,upc,y8,this,Bool.false_and,Bool.and_false]
    .have:(c.toNat:Int)<=90:=by omega
     simp only[je,e,qU,ha,hb,js,upc,y8,this,h65,key,h3,Bool.true_and]
  .rw [decide_eq_false h3]at e;simp only[je,e,js,h3,Bool.and_false]
def qy(s:Xb):Xa->Option Nat
 | []=>none
 |x::l=>if s=x then some 0 else(qy s l).map (· + 1)
def yg(i:Nat):Option Nat->Int
 |none=> -1
 |some k=>((i+k:Nat):Int)
theorem Y4(s:Xb):∀l,(qy s l).isSome=l.contains s
 | []=>rfl
 |x::l=>by
  simp only[qy,List.contains_cons];by_cases h:s=x
  .simp [h]
  .have:=Y4 s l;simp[h,this]
theorem jhF{s:Xb} :∀{l:Xa}{k:Nat},qy s l=some k->k<l.length/\l[k]? = some s
 | [],_,h=>by cases h
 |x::l,k,h=>by
  simp only[qy]at h;split at h
  .rename_i e;cases h;exact⟨by simp,by simp[e]⟩
  .obtain ⟨j,h1,rfl⟩:=Jh.1 h;have:=jhF h1;exact⟨by simp;exact this.1,by simpa using this.2⟩
theorem jv7(s:Xb)(l:Xa):decide (yg 0 (qy s l)<0)=!l.contains s:=by
 rw[<-Y4];cases qy s l<;>simp[yg]
theorem jn2(s:Xb)(l:Xa):decide (0<=yg 0 (qy s l))=l.contains s:=by
 rw[<-Y4];cases qy s l<;>simp[yg]
theorem jiN{s x:Xb}{l:Xa}{i:Nat}(h:¬s=x):yg (i+1) (qy s l)=yg i (qy s (x::l)):=by
 simp only[qy,h,if_false];cases qy s l<;>simp[yg];omega
theorem jar(l:Xa)(s:Xb)(hl:l.length<=9223372036854775807):G 266 [strs l,sv s]=some (vi (yg 0 (qy s l)),[]):=by
 have key:=upto (P:=λi=>jnt (strs l) (sv s) (vi (l.length:Nat)) (vi i)=some (vi (yg i (qy s (l.drop i))),[])) (n:=l.length) ?_ ?_ 0 (Nat.zero_le _)
 .simp only[Int.natCast_zero,List.drop_zero]at key;rw[jLm];simp only[je,key]
 .rw [jz4,List.drop_length];simp only[je,qy,yg]
 .intro i hi ih;have hlt:(i:Int)<((l.length:Nat):Int):=by omega
  have h5:=jo hi hl;rw[jz4,ji hi];by_cases h:s=l[i]
  .simp only[je,hlt,ja hi,h,qy,yg,j6]
  .simp only[je,hlt,ja hi,h,h5,ih,jiN h]
theorem K1(l:Xa)(s:Xb)(hl:l.length<=9223372036854775807):G 225 [strs l,sv s]=some (vb (l.contains s),[]):=by
 have e:=jar l s hl;rw[jKT];simp only[je,e,jn2]
theorem jhO(o:Ord')(s:Xb)(hl:o.syms.length<=9223372036854775807):G 319 [od o,sv s]=some (vi (yg 0 (qy s o.syms)),[]):=by
 have key:=upto (P:=λi=>jnD (sv s) (vi i) (strs o.syms) (ints o.ws) (vi o.var)=some (vi (yg i (qy s (o.syms.drop i))),[])) (n:=o.syms.length) ?_ ?_ 0 (Nat.zero_le _)
 .simp only[Int.natCast_zero,List.drop_zero]at key;rw[jLL];simp only[je,key]
 .rw [jAm,List.drop_length];simp only[je,qy,yg]
 .intro i hi ih;have hlt:(i:Int)<((o.syms.length:Nat):Int):=by omega
  have h5:=jo hi hl;rw[jAm,ji hi];by_cases h:s=o.syms[i]
  .simp only[je,hlt,ja hi,h,qy,yg,j6]
  .have h':¬o.syms[i]=s:=λe=>h e.symm;simp only[je,hlt,ja hi,h',h5,ih,jiN h]
theorem jol(l:Xa)(s:Xb)(hl:l.length<=9223372036854775807):G 171 [strs l,sv s]=some (vb (l.contains s),[]):=by
 have key:=upto (P:=λi=>jmZ (strs l) (sv s) (vi i)=some (vb ((l.drop i).contains s),[])) (n:=l.length) ?_ ?_ 0 (Nat.zero_le _)
 .simp only[Int.natCast_zero,List.drop_zero]at key;rw[jKc];exact key
 .rw [jzp,List.drop_length];simp only[je,List.contains_nil]
 .intro i hi ih;have hlt:(i:Int)<((l.length:Nat):Int):=by omega
  have h5:=jo hi hl;rw[jzp,ji hi,List.contains_cons];by_cases h:l[i]=s
  .have:(s == l[i])=true:=by simp[h]
   simp only[je,hlt,ja hi,h];simp
  .have:(s == l[i])=false:=by simp;exact λe=>h e.symm
   simp only[je,hlt,ja hi,h,this,h5,ih,Bool.false_or]
def jrr:Xa:=[[116,114,117,101],[102,97,108,115,101],[116,114,117,116,104],[98,111,116,104],[101,105,116,104,101,114],[105,102],[97,108,108],[115,111,109,101]]
def joY(c:UInt8):Bool:=JM c || decide ((c.toNat:Int)=95)
def qo:Xb->Bool
 | []=>false
 |c::r=>jcU c && (r.all joY && (decide (r.length<=5) && !jrr.contains (c::r)))
theorem jCf(a b:Xb):(a == b)=decide (a=b):=by by_cases h:a=b<;>simp[h]
theorem jkL(s:Xb)(hs:s.length<=9223372036854775807):∀i,i<=s.length->1<=i->jig (sv s) (vi (s.length:Nat)) (vi i)=some (vb ((s.drop i).all joY && (y8 1 6 (s.length:Nat) && !jrr.contains s)),[]):=by
 refine upto (P:=λi=>1<=i->jig (sv s) (vi (s.length:Nat)) (vi i)=some (vb ((s.drop i).all joY && (y8 1 6 (s.length:Nat) && !jrr.contains s)),[])) ?_ ?_
 .intro _;rw[jof,List.drop_length];have e:=yQ (s.length:Nat) 1 6;have e2:=K1 jrr s (by decide);have e3:G 264 []=some (strs jrr,[]):=jLl;cases h:y8 1 6 (s.length:Nat)<;>rw[h]at e<;>simp only[je,e,e2,e3,Bool.true_and,Bool.false_and]
 .intro i hi ih h1;have ih:=ih (by omega);have hn:¬((i:Int)=0):=by omega
  have hlt:(i:Int)<((s.length:Nat):Int):=by omega
  have h5:=jo hi hs;have hx:=Yw hi;have e1:=jdz s[i];have e2:=ji2 s[i];rw[jof,ji hi];generalize s[i]=ch at *;rw[zR];cases h7:decide ((ch.toNat:Int)=95)<;>cases h8:jcU ch<;>cases h9:jv2 ch<;>rw[h8]at e1<;>rw[h9]at e2<;>
   simp only[je,hn,hlt,hx,e1,e2,h5,ih,joY,JM,h7,h8,h9,Bool.true_and,Bool.false_and,Bool.or_true,Bool.or_false]
theorem jbJ(s:Xb)(hs:s.length<=9223372036854775807):G 221 [sv s]=some (vb (qo s),[]):=by
 rw[jKP];show(je3 (sv s)).bind _=_;rw[jbX,Option.bind_some];cases s with
 |nil=>
  rw[jof];have e:G 47 [vi ((0:Nat):Int),vi 1,vi 6]=some (vb false,[]):=yQ ((0:Nat):Int) 1 6;simp only[je,e];rfl
 |cons c r=>
  have key:=jkL (c::r) hs 1 (by simp) (j4 _);simp only[List.drop_succ_cons,List.drop_zero]at key;have e':y8 1 6 (((c::r).length:Nat):Int)=decide (r.length<=5):=jhH r 5 (by decide);rw[e']at key;rw[jof];have h5:jy .add false (vi 0) (vi 1)=some (vi ((1:Nat):Int)):=by rw[Kz,jV (by decide) (by decide)];rfl
  have h6:(0:Int)<(((c::r).length:Nat):Int):=Int.natCast_pos.2 (Nat.succ_pos _);have e1:=jdz c;generalize ((((c::r).length:Nat)):Int)=n at *;cases hu:jcU c<;>rw[hu]at e1<;>simp only[je,h6,qU,e1,h5,key,qo,hu,Bool.true_and,Bool.false_and]
theorem jkO(s:Xb)(hs:s.length<=9223372036854775807):∀i,i<=s.length->KJ (sv s) (vi i)=some (vb ((s.drop i).all joY),[]):=by
 refine upto (P:=λi=>KJ (sv s) (vi i)=some (vb ((s.drop i).all joY),[])) ?_ ?_
 .rw [jzi,List.drop_length];simp only[je]
 .intro i hi ih;have hlt:(i:Int)<((s.length:Nat):Int):=by omega
  have h5:=jo hi hs;have hx:=Yw hi;have e1:=jje s[i];rw[jzi,ji hi];generalize s[i]=ch at *;rw[zR];cases h7:decide ((ch.toNat:Int)=95)<;>cases h8:JM ch<;>rw[h8]at e1<;>simp only[je,hlt,hx,e1,h5,ih,joY,h7,h8,Bool.true_and,Bool.false_and,Bool.or_true,Bool.or_false]
theorem Y8(s:Xb)(hs:s.length<=9223372036854775807):G 142 [sv s]=some (vb (qo s),[]):=by
 rw[jJQ];show(je3 (sv s)).bind _=_;rw[jbX,Option.bind_some];cases s with
 |nil=>
  have e:G 22 [vi ((0:Nat):Int),vi 1,vi 6]=some (vb false,[]):=zW ((0:Nat):Int) 1 6;simp only[je,e];rfl
 |cons c r=>
  have e:=zW (((c::r).length:Nat):Int) 1 6;have e':y8 1 6 (((c::r).length:Nat):Int)=decide (r.length<=5):=jhH r 5 (by decide);rw[e']at e;have key:=jkO (c::r) hs 1 (by simp);simp only[List.drop_succ_cons,List.drop_zero]at key;have key:KJ (sv (c::r)) (vi 1)=some (vb (r.all joY),[]):=key;generalize ((((c::r).length:Nat)):Int)=n at *;have hres:jrr.contains (c::r)=(decide (c::r=[116,114,117,101]) || (decide (c::r=[102,97,108,115,101]) || (decide (c::r=[116,114,117,116,104]) || (decide (c::r=[98,111,116,104]) || (decide (c::r=[101,105,116,104,101,114]) || (decide (c::r=[105,102]) || (decide (c::r=[97,108,108]) || decide (c::r=[115,111,109,101])))))))):=by
   simp only[jrr,List.contains_cons,List.contains_nil,Bool.or_false,jCf]
  by_cases h3:r.length<=5
  .rw [decide_eq_true h3]at e;by_cases ha:(c.toNat:Int)<97
   .have:¬(97<=(c.toNat:Int)):=by omega
    simp only[je,e,qU,ha,qo,jcU,y8,this,Bool.false_and]
   .have h65:97<=(c.toNat:Int):=by omega
    by_cases hb:122<(c.toNat:Int)
    .have:¬((c.toNat:Int)<=122):=by omega
     simp only[je,e,qU,ha,hb,qo,jcU,y8,this,Bool.false_and,Bool.and_false]
    .have h122:(c.toNat:Int)<=122:=by omega
     have e0:qo (c::r)=(r.all joY && !jrr.contains (c::r)):=by
      simp[qo,jcU,y8,h65,h122,h3]
     rw[e0,hres];have hx0:=qU (c:=c) (l:=r);clear hres e0;generalize c::r=s at *;cases q0:decide (s=[116,114,117,101]);rotate_left
     .simp only[je,e,hx0,ha,hb,q0,Bool.true_or,Bool.and_false]
     cases q1:decide (s=[102,97,108,115,101]);rotate_left
     .simp only[je,e,hx0,ha,hb,q0,q1,Bool.true_or,Bool.false_or,Bool.and_false]
     cases q2:decide (s=[116,114,117,116,104]);rotate_left
     .simp only[je,e,hx0,ha,hb,q0,q1,q2,Bool.true_or,Bool.false_or,Bool.and_false]
     cases q3:decide (s=[98,111,116,104]);rotate_left
     .simp only[je,e,hx0,ha,hb,q0,q1,q2,q3,Bool.true_or,Bool.false_or,Bool.and_false]
     cases q4:decide (s=[101,105,116,104,101,114]);rotate_left
     .simp only[je,e,hx0,ha,hb,q0,q1,q2,q3,q4,Bool.true_or,Bool.false_or,Bool.and_false]
     cases q5:decide (s=[105,102]);rotate_left
     .simp only[je,e,hx0,ha,hb,q0,q1,q2,q3,q4,q5,Bool.true_or,Bool.false_or,Bool.and_false]
     cases q6:decide (s=[97,108,108]);rotate_left
     .simp only[je,e,hx0,ha,hb,q0,q1,q2,q3,q4,q5,q6,Bool.true_or,Bool.false_or,Bool.and_false]
     cases q7:decide (s=[115,111,109,101]);rotate_left
     .simp only[je,e,hx0,ha,hb,q0,q1,q2,q3,q4,q5,q6,q7,Bool.false_or,Bool.and_false]
     simp only[je,e,hx0,ha,hb,q0,q1,q2,q3,q4,q5,q6,q7,Bool.or_false,key]
  .rw [decide_eq_false h3]at e;simp only[je,e,qo,h3,Bool.false_and,Bool.and_false]
mutual
def nodes:T->Nat
 |.mk _ us=>1+ju us
def ju:Xg->Nat
 | []=>0
 |t::ts=>nodes t+ju ts
end
theorem jO(t:T):nodes t=1+ju t.args:=by cases t;rfl
mutual
def YU:T->Nat
 |.mk _ us=>1+Qr us
def Qr:Xg->Nat
 | []=>0
 |t::ts=>max (YU t) (Qr ts)
end
theorem Zw(t:T):YU t=1+Qr t.args:=by cases t;rfl
mutual
def zy:T->Bool
 |.mk n us=>if js n then us.isEmpty else qo n && (decide (us.length<=4) && jjA us)
def jjA:Xg->Bool
 | []=>true
 |t::ts=>zy t && jjA ts
end
theorem yA(t:T):zy t=if js t.name then t.args.isEmpty else qo t.name && (decide (t.args.length<=4) && jjA t.args):=by cases t;rfl
theorem JS:∀ts,jjA ts=ts.all zy
 | []=>rfl
 |t::ts=>by rw[jjA,JS ts,zR]
theorem qN:∀t:T,nodes t<=1+tsz t:=by
 refine T.ind λt ih=>?_;have:∀ts:Xg,(∀u∈ts,nodes u<=1+tsz u)->ju ts<=ts.length+ZG ts:=by
  intro ts;induction ts with
  |nil=>intro _;simp[ju]
  |cons u us ih=>
   intro h;have h1:=h u (by simp);have h2:=ih λv hv=>h v (by simp[hv]);simp only[ju,ZG,j8];omega
 have h:=this t.args ih;rw[jO,kH];omega
theorem qz(t:T):1<=nodes t:=by rw[jO];omega
theorem ql{ts:Xg}{t:T}(h:t∈ts):nodes t<=ju ts:=by
 induction ts with
 |nil=>cases h
 |cons u us ih=>
  simp only[ju];rcases jK.1 h with rfl|h
  .omega
  .have:=ih h;omega
theorem jys:∀t:T,YU t<=nodes t:=by
 refine T.ind λt ih=>?_;have:∀ts:Xg,(∀u∈ts,YU u<=nodes u)->Qr ts<=ju ts:=by
  intro ts;induction ts with
  |nil=>intro _;simp[Qr]
  |cons u us ih=>
   intro h;have h1:=h u (by simp);have h2:=ih λv hv=>h v (by simp[hv]);simp only[ju,Qr];omega
 have h:=this t.args ih;rw[jO,Zw];omega
theorem jw3(ts:Xg)(hl:ts.length<=9223372036854775807)(hn:ju ts<=1048577)(ih:∀t∈ts,∃r:Nat,G 242 [tm t]=some (vi r,[])/\r<=nodes t/\(nodes t<=30->r=nodes t)/\(30<nodes t->30<r)) :
  ∀i,i<=ts.length-> ∀a:Nat,a+ju (ts.drop i)<=1048578-> ∃r:Nat,jnk (vi a) (jG ts) (vi (ts.length:Nat)) (vi i)=some (vi r,[])/\r<=a+ju (ts.drop i)/\(a+ju (ts.drop i)<=30->r=a+ju (ts.drop i))/\(30<a+ju (ts.drop i)->30<r):=by
 refine upto ?_ ?_
 .intro a ha;rw[jta,List.drop_length];simp only[je,ju,j6];exact⟨a,rfl,j4 _,λ_=>rfl,λh=>h⟩
 .intro i hi ih' a ha;have hlt:(i:Int)<((ts.length:Nat):Int):=by omega
  have h5:=jo hi hl;rw[ji hi]at ha⊢;simp only[ju]at ha⊢;obtain⟨r1,e1,b1,b2,b3⟩:=ih ts[i] (jr _);by_cases hc:(30:Int)<(a:Int)
  .refine ⟨a,?_,by omega,by omega,by omega⟩;rw[jta];simp only[je,hlt,ja hi,jd,hc]
  .have hk:ck ((a:Int)+(r1:Int))=some (vi ((a+r1:Nat):Int)):=by rw[jV (by omega) (by omega)];rfl
   obtain⟨r2,e2,c1,c2,c3⟩:=ih' (a+r1) (by omega);refine⟨r2,?_,by omega,by omega,by omega⟩;rw[jta];simp only[je,hlt,ja hi,jd,hc,e1,hk,h5,e2]
theorem size_eq:∀t:T,Jv t->tsz t<=1048576-> ∃r:Nat,G 242 [tm t]=some (vi r,[])/\r<=nodes t/\(nodes t<=30->r=nodes t)/\(30<nodes t->30<r):=by
 refine T.ind λt ih hw hs=>?_;obtain⟨w1,w2,w3⟩:=(kE t).1 hw;have w3:=(ke _).1 w3;have hn:=qN t;rw[jO]at hn;rw[kH]at hs;obtain⟨r,h1,h2,h3,h4⟩:=jw3 t.args w2 (by rw[kH]at hn;omega) (λu hu=>ih u hu (w3 u hu) (by have:=yv hu;omega)) 0 (Nat.zero_le _) 1 (by rw[kH]at hn;simp;omega);simp only[List.drop_zero,Int.natCast_zero,Int.natCast_one]at h1 h2 h3 h4;refine⟨r,?_,by rw[jO];exact h2,by rw[jO];exact h3,by rw[jO];exact h4⟩;rw[jK1];simp only[je,h1]
theorem jwq(n:Xb)(most:Int)(hm1: -1048600<=most)(hm:most<=1048576)(ts:Xg)(hl:ts.length<=9223372036854775807)(ih:∀t∈ts,∀m:Int,-1048600<=m->m<=1048576-> ∃r:Nat,G 166 [tm t,vi m]=some (vi r,[])/\1<=r/\r<=nodes t/\((nodes t:Int)<=m->r=nodes t)/\(m<nodes t->m<r)) :
  ∀i,i<=ts.length-> ∀a:Nat,1<=a->a+ju (ts.drop i)<=1048578-> ∃r:Nat,jmW (vi most) (vi a) (vi i) (sv n) (jG ts)=some (vi r,[])/\1<=r/\r<=a+ju (ts.drop i)/\(((a+ju (ts.drop i):Nat):Int)<=most->r=a+ju (ts.drop i))/\(most<((a+ju (ts.drop i):Nat):Int)->most<r):=by
 refine upto ?_ ?_
 .intro a h1 ha;rw[js1,List.drop_length];simp only[je,ju,j6];exact⟨a,rfl,h1,j4 _,λ_=>rfl,λh=>h⟩
 .intro i hi ih' a h1 ha;have hlt:(i:Int)<((ts.length:Nat):Int):=by omega
  have h5:=jo hi hl;rw[ji hi]at ha⊢;simp only[ju]at ha⊢;by_cases hc:(a:Int)<=most
  .obtain ⟨r1,e1,b0,b1,b2,b3⟩:=ih ts[i] (jr _) (most-a) (by omega) (by omega);have hk0:ck (most-(a:Int))=some (vi (most-a)):=jV (by omega) (by omega);have hk:ck ((a:Int)+(r1:Int))=some (vi ((a+r1:Nat):Int)):=by rw[jV (by omega) (by omega)];rfl
   obtain⟨r2,e2,c0,c1,c2,c3⟩:=ih' (a+r1) (by omega) (by omega);refine⟨r2,?_,by omega,by omega,by omega,by omega⟩;rw[js1];simp only[je,hlt,ja hi,jd,hc,hk0,e1,hk,h5,e2]
  .refine ⟨a,?_,h1,by omega,by omega,by omega⟩;rw[js1];simp only[je,hlt,hc]
theorem jDi:∀t:T,Jv t->tsz t<=1048576-> ∀m:Int,-1048600<=m->m<=1048576-> ∃r:Nat,G 166 [tm t,vi m]=some (vi r,[])/\1<=r/\r<=nodes t/\((nodes t:Int)<=m->r=nodes t)/\(m<nodes t->m<r):=by
 refine T.ind λt ih hw hs m hm1 hm=>?_;obtain⟨w1,w2,w3⟩:=(kE t).1 hw;have w3:=(ke _).1 w3;have hn:=qN t;rw[jO]at hn;obtain⟨r,h1,h0,h2,h3,h4⟩:=jwq t.name m hm1 hm t.args w2 (λu hu m h1 h2=>ih u hu (w3 u hu) (by have:=yv hu;rw[kH]at hs;omega) m h1 h2) 0 (Nat.zero_le _) 1 (j4 _) (by simp;omega);simp only[List.drop_zero,Int.natCast_zero,Int.natCast_one]at h1 h2 h3 h4;refine⟨r,?_,h0,by rw[jO];exact h2,by rw[jO];exact h3,by rw[jO];exact h4⟩;rw[jJ7];simp only[je,h1]
theorem jsQ(ts:Xg)(hl:ts.length<=9223372036854775807)(hn:ju ts<=1048577)(ih:∀t∈ts,G 243 [tm t]=some (vi (YU t:Nat),[])) :
  ∀i,i<=ts.length-> ∀a:Nat,a<=1048577->jnl (vi a) (jG ts) (vi (ts.length:Nat)) (vi i)=some (vi ((max a (Qr (ts.drop i))+1:Nat):Int),[]):=by
 refine upto ?_ ?_
 .intro a ha;have hk:ck ((a:Int)+1)=some (vi ((a+1:Nat):Int)):=by rw[jV (by omega) (by omega)];rfl
  rw[jzT,List.drop_length];simp only[je,Qr,hk,Nat.max_zero]
 .intro i hi ih' a ha;have hlt:(i:Int)<((ts.length:Nat):Int):=by omega
  have h5:=jo hi hl;have e1:=ih ts[i] (jr _);have hd:YU ts[i]<=1048577:=Zs (jys _) (Zs (ql (jr hi)) hn);have hmx:(if(a:Int)<((YU ts[i]:Nat):Int)then((YU ts[i]:Nat):Int)else(a:Int))=((max a (YU ts[i]):Nat):Int):=by split<;>omega
  have ih':=ih' (max a (YU ts[i])) (by omega);rw[jzT,ji hi];simp only[je,hlt,ja hi,jd,e1,hmx,h5,ih',Qr,Nat.max_assoc]
theorem jyt:∀t:T,Jv t->tsz t<=1048576->G 243 [tm t]=some (vi (YU t:Nat),[]):=by
 refine T.ind λt ih hw hs=>?_;obtain⟨w1,w2,w3⟩:=(kE t).1 hw;have w3:=(ke _).1 w3;have hn:=qN t;rw[jO]at hn;have h1:=jsQ t.args w2 (by omega) (λu hu=>ih u hu (w3 u hu) (by have:=yv hu;rw[kH]at hs;omega)) 0 (Nat.zero_le _) 0 (by omega);simp only[List.drop_zero,Int.natCast_zero,Nat.zero_max]at h1;rw[jK2,Zw,Nat.add_comm];simp only[je,h1]
theorem jDm(a b:Nat):G 209 [vi a,vi b]=some (vi ((max a b:Nat):Int),[]):=by
 rw[jKE];by_cases h:(b:Int)<(a:Int)
 .simp only[je,h];rw[Nat.max_eq_left (by omega)]
 .simp only[je,h];rw[Nat.max_eq_right (by omega)]
theorem jok(n:Xb)(ts:Xg)(hl:ts.length<=9223372036854775807)(hn:ju ts<=1048577)(ih:∀t∈ts,G 167 [tm t]=some (vi (YU t:Nat),[])) :
  ∀i,i<=ts.length-> ∀a:Nat,a<=1048577->jmX (vi a) (vi i) (sv n) (jG ts)=some (vi ((max a (Qr (ts.drop i))+1:Nat):Int),[]):=by
 refine upto ?_ ?_
 .intro a ha;have hk:ck ((a:Int)+1)=some (vi ((a+1:Nat):Int)):=by rw[jV (by omega) (by omega)];rfl
  rw[jzn,List.drop_length];simp only[je,Qr,hk,Nat.max_zero]
 .intro i hi ih' a ha;have hlt:(i:Int)<((ts.length:Nat):Int):=by omega
  have h5:=jo hi hl;have e1:=ih ts[i] (jr _);have e2:=jDm a (YU ts[i]);have hd:YU ts[i]<=1048577:=Zs (jys _) (Zs (ql (jr hi)) hn);have ih':=ih' (max a (YU ts[i])) (by omega);rw[jzn,ji hi];simp only[je,hlt,ja hi,jd,e1,e2,h5,ih',Qr,Nat.max_assoc]
theorem jte:∀t:T,Jv t->tsz t<=1048576->G 167 [tm t]=some (vi (YU t:Nat),[]):=by
 refine T.ind λt ih hw hs=>?_;obtain⟨w1,w2,w3⟩:=(kE t).1 hw;have w3:=(ke _).1 w3;have hn:=qN t;rw[jO]at hn;have h1:=jok t.name t.args w2 (by omega) (λu hu=>ih u hu (w3 u hu) (by have:=yv hu;rw[kH]at hs;omega)) 0 (Nat.zero_le _) 0 (by omega);simp only[List.drop_zero,Int.natCast_zero,Nat.zero_max]at h1;rw[jJ8,Zw,Nat.add_comm];simp only[je,h1]
def jF(t:T):Bool:=decide (nodes t<=30) && decide (YU t<=8)
def kQ(t:T):Bool:=jF t && zy t
theorem jas(t:T)(hw:Jv t)(hs:tsz t<=1048576):G 205 [tm t]=some (vb (jF t),[]):=by
 obtain⟨r,h1,h2,h3,h4⟩:=size_eq t hw hs;have hd:=jyt t hw hs;rw[jKA];by_cases h:nodes t<=30
 .have:(r:Int)<=30:=by have:=h3 h;omega
  have e:decide (((YU t:Nat):Int)<=8)=decide (YU t<=8):=by congr 1;exact propext (by omega)
  simp only[je,h1,hd,this,jF,h,e,Bool.true_and]
 .have:¬(r:Int)<=30:=by have:=h4 (by omega);omega
  simp only[je,h1,this,jF,h,Bool.false_and]
theorem jlz(t:T)(hw:Jv t)(hs:tsz t<=1048576):G 140 [tm t]=some (vb (jF t),[]):=by
 obtain⟨r,h1,h0,h2,h3,h4⟩:=jDi t hw hs 30 (by decide) (by decide);have hd:=jte t hw hs;rw[jJO];by_cases h:nodes t<=30
 .have:(r:Int)<=30:=by have:=h3 (by omega);omega
  have e:decide (((YU t:Nat):Int)<=8)=decide (YU t<=8):=by congr 1;exact propext (by omega)
  simp only[je,h1,hd,this,jF,h,e,Bool.true_and]
 .have:¬(r:Int)<=30:=by have:=h4 (by omega);omega
  simp only[je,h1,this,jF,h,Bool.false_and]
theorem jhd{f:FuncId}{caps:Xd}(hsig:K.pureF f=true)(p:T->Bool)(ts:Xg)(hl:ts.length<=9223372036854775807)(h:∀t∈ts,G f (tm t::caps)=some (vb (p t),[])) :
  ∃r:Int,G 239 [jG ts,.fn f caps]=some (vi r,[])/\decide (0<=r)=ts.any p:=by
 have key:=upto (P:=λi=>∃r:Int,jni (jG ts) (.fn f caps) (vi (ts.length:Nat)) (vi i)=some (vi r,[])/\decide (0<=r)=(ts.drop i).any p) (n:=ts.length) ?_ ?_ 0 (Nat.zero_le _)
 .obtain ⟨r,h1,h2⟩:=key;simp only[Int.natCast_zero,List.drop_zero]at h1 h2;refine⟨r,?_,h2⟩;rw[jKZ];simp only[je,h1]
 .refine ⟨-1,?_,by simp⟩;rw[jzS];simp only[je]
 .intro i hi ih;obtain⟨r,h1,h2⟩:=ih;have hlt:(i:Int)<((ts.length:Nat):Int):=by omega
  have h5:=jo hi hl;have e1:=h ts[i] (jr _);rw[jzS,ji hi,List.any_cons];cases hp:p ts[i]<;>rw[hp]at e1
  .refine ⟨r,?_,by rw[h2,Bool.false_or]⟩;simp only[je,hlt,ja hi,jd,qx hsig,Zp,yF,e1,h5,h1]
  .refine ⟨i,?_,by simp⟩;simp only[je,hlt,ja hi,jd,qx hsig,Zp,yF,e1]
theorem jby{f:FuncId}{caps:Xd}(hsig:K.pureF f=true)(p:T->Bool)(ts:Xg)(hl:ts.length<=9223372036854775807)(h:∀t∈ts,G f (tm t::caps)=some (vb (p t),[])) :
  G 201 [jG ts,.fn f caps]=some (vb (ts.any p),[]):=by
 obtain⟨r,h1,h2⟩:=jhd hsig p ts hl h;rw[jKx];simp only[je,h1,h2]
theorem jgw(p:T->Bool)(ts:Xg):(ts.any λt=> !p t)=!ts.all p:=by
 induction ts with
 |nil=>rfl
 |cons t ts ih=>rw[List.any_cons,zR,ih];cases p t<;>rfl
theorem jbG:∀t:T,Jv t->G 220 [tm t]=some (vb (zy t),[]):=by
 refine T.ind λt ih hw=>?_;obtain⟨w1,w2,w3⟩:=(kE t).1 hw;have w3:=(ke _).1 w3;have e1:=jda t.name w1;have e2:=jbJ t.name w1;have e3:=jby (f:=261) (caps:=[]) rfl (λu=> !zy u) t.args w2 (λu hu=>by
  have:=ih u hu (w3 u hu);rw[jLi];simp only[je,this])
 rw[jgw,<-JS]at e3;rw[jKO,yA];have e4:decide (((t.args.length:Nat):Int)=0)=t.args.isEmpty:=by cases t.args<;>simp;omega
 have e5:decide (((t.args.length:Nat):Int)<=4)=decide (t.args.length<=4):=by congr 1;exact propext (by omega)
 cases hv:js t.name<;>rw[hv]at e1
 .cases hy:qo t.name<;>rw[hy]at e2
  .simp only[je,e1,e2,Bool.false_and]
  .cases ha:decide (t.args.length<=4)<;>rw[ha]at e5
   .simp only[je,e1,e2,e5,Bool.false_and,Bool.true_and]
   .simp only[je,e1,e2,e5,e3,Bool.true_and,Bool.not_not]
 .simp only[je,e1,e4]
theorem jdD:∀t:T,Jv t->G 141 [tm t]=some (vb (zy t),[]):=by
 refine T.ind λt ih hw=>?_;obtain⟨w1,w2,w3⟩:=(kE t).1 hw;have w3:=(ke _).1 w3;have e1:=zL t.name w1;have e2:=Y8 t.name w1;have key:=upto (P:=λi=>jmT (vi i) (sv t.name) (jG t.args)=some (vb (jjA (t.args.drop i)),[])) (n:=t.args.length) ?_ ?_ 0 (Nat.zero_le _)
 .simp only[Int.natCast_zero,List.drop_zero]at key;rw[jJP,yA];have e4:decide (((t.args.length:Nat):Int)=0)=t.args.isEmpty:=by cases t.args<;>simp;omega
  cases hv:js t.name<;>rw[hv]at e1
  .cases hy:qo t.name<;>rw[hy]at e2
   .simp only[je,e1,e2,Bool.false_and]
   .by_cases ha:4<((t.args.length:Nat):Int)
    .have:¬t.args.length<=4:=by omega
     simp only[je,e1,e2,ha,this,Bool.false_and,Bool.and_false]
    .have:t.args.length<=4:=by omega
     simp only[je,e1,e2,ha,this,key,Bool.true_and]
  .simp only[je,e1,e4]
 .rw [jzh,List.drop_length];simp only[je,jjA]
 .intro i hi ih';have hlt:(i:Int)<((t.args.length:Nat):Int):=by omega
  have h5:=jo hi w2;have e3:=ih t.args[i] (jr _) (w3 _ (jr _));rw[jzh,ji hi,jjA];cases hp:zy t.args[i]<;>rw[hp]at e3
  .simp only[je,hlt,ja hi,jd,e3,Bool.false_and]
  .simp only[je,hlt,ja hi,jd,e3,h5,ih',Bool.true_and]
theorem jbK(t:T)(hw:Jv t)(hs:tsz t<=1048576):G 222 [tm t]=some (vb (kQ t),[]):=by
 have e1:=jas t hw hs;have e2:=jbG t hw;rw[jKQ,kQ];cases h:jF t<;>rw[h]at e1<;>simp only[je,e1,e2,Bool.true_and,Bool.false_and]
theorem KQ(t:T)(hw:Jv t)(hs:tsz t<=1048576):G 143 [tm t]=some (vb (kQ t),[]):=by
 have e1:=jlz t hw hs;have e2:=jdD t hw;rw[jJR,kQ];cases h:jF t<;>rw[h]at e1<;>simp only[je,e1,e2,Bool.true_and,Bool.false_and]
theorem JU{xs:Xi}{i:Nat}(h:i<xs.length):jk 1 (ints xs) (vi i)=some (.elt (ci xs[i]) 0):=ja h
def jvY(o:Ord')(i:Nat):Bool:=qo (o.syms.getD i []) && (!(o.syms.take i).contains (o.syms.getD i []) && y8 o.var 100 (o.ws.getD i 0))
def yT(o:Ord'):Bool:=y8 1 12 (o.syms.length:Nat) && (decide (o.ws.length=o.syms.length) && (y8 1 100 o.var && (List.range o.syms.length).all (jvY o)))
theorem jtB{n i:Nat}(h:i<n):(List.range n).drop i=i::(List.range n).drop (i+1):=by
 have h':i<(List.range n).length:=by simpa using h
 rw[List.drop_eq_getElem_cons h',List.getElem_range]
theorem jqB(o:Ord')(hw:owf o)(hl:o.ws.length=o.syms.length):∀i,i<=o.syms.length->jns (vi i) (strs o.syms) (ints o.ws) (vi o.var)=some (vb (((List.range o.syms.length).drop i).all (jvY o)),[]):=by
 refine upto ?_ ?_
 .rw [jz2,List.drop_of_length_le (by simp)];simp only[je]
 .intro i hi ih;have hlt:(i:Int)<((o.syms.length:Nat):Int):=by omega
  have hi2:i<o.ws.length:=by omega
  have h5:=jo hi hw.1.2;have hs:=hw.1.1 o.syms[i] (jr _);have e1:=Y8 o.syms[i] hs;have hsl:yb 1 (strs o.syms) none (some (vi i))=some (strs (o.syms.take i)):=by rw[Kf (by simp;omega),<-List.map_take]
  have e2:=jol (o.syms.take i) o.syms[i] (by rw[List.length_take];exact Zs (Nat.min_le_right _ _) hw.1.2)
  have e3:=zW o.ws[i] o.var 100;have hc:jvY o i=(qo o.syms[i] && (!(o.syms.take i).contains o.syms[i] && y8 o.var 100 o.ws[i])):=by simp[jvY,zP,hi,hi2]
  rw[jz2,jtB hi,zR,hc];cases h1:qo o.syms[i]<;>rw[h1]at e1
  .simp only[je,hlt,ja hi,e1,Bool.false_and]
  .cases h2:(o.syms.take i).contains o.syms[i]<;>rw[h2]at e2
   .cases h3:y8 o.var 100 o.ws[i]<;>rw[h3]at e3
    .simp only[je,hlt,ja hi,JU hi2,e1,hsl,e2,e3,Bool.false_and,Bool.true_and]
    .simp only[je,hlt,ja hi,JU hi2,e1,hsl,e2,e3,h5,ih,Bool.true_and]
   .simp only[je,hlt,ja hi,e1,hsl,e2,Bool.false_and,Bool.true_and]
theorem jwl(o:Ord')(hw:owf o):G 255 [od o]=some (vb (yT o),[]):=by
 have e1:=zW (o.syms.length:Nat) 1 12;have e2:=zW o.var 1 100;rw[jLc,yT];cases h1:y8 1 12 (o.syms.length:Nat)<;>rw[h1]at e1
 .simp only[je,e1,Bool.false_and]
 .by_cases h2:o.ws.length=o.syms.length
  .have h2':((o.ws.length:Nat):Int)=((o.syms.length:Nat):Int):=by rw[h2]
   have key:=jqB o hw h2 0 (Nat.zero_le _);simp only[Int.natCast_zero,List.drop_zero]at key;cases h3:y8 1 100 o.var<;>rw[h3]at e2
   .simp only[je,e1,h2',e2,Bool.false_and,Bool.and_false]
   .simp only[je,e1,h2,e2,key,Bool.true_and]
  .have h2':¬((o.ws.length:Nat):Int)=((o.syms.length:Nat):Int):=by omega
   simp only[je,e1,h2',h2,Bool.false_and,Bool.true_and]
mutual
def KB(l:Xa):T->Bool
 |.mk n us=>(js n || l.contains n) && Ym l us
def Ym(l:Xa):Xg->Bool
 | []=>true
 |t::ts=>KB l t && Ym l ts
end
theorem JY(l:Xa)(t:T):KB l t=((js t.name || l.contains t.name) && Ym l t.args):=by cases t;rfl
theorem QF(l:Xa):∀ts,Ym l ts=ts.all (KB l)
 | []=>rfl
 |t::ts=>by rw[Ym,QF l ts,zR]
theorem kO{t:T}(h:zy t=true):∀u∈t.args,zy u=true:=by
 rw[yA]at h;intro u hu;split at h
 .rw [List.isEmpty_iff.1 h]at hu;cases hu
 .simp only[jI]at h;rw[JS]at h;exact yx.1 h.2.2 u hu
theorem jqR{t:T}(h:zy t=true):∃c r,t.name=c::r/\js t.name=upc c/\(upc c=false->qo t.name=true):=by
 rw[yA]at h;cases hn:t.name with
 |nil=>rw[hn]at h;simp[js,qo]at h
 |cons c r=>
  refine⟨c,r,rfl,?_,?_⟩
  .rw [hn]at h;cases hu:upc c with
   |false=>simp[js,hu]
   |true=>
    cases hv:js (c::r)with
    |true=>rfl
    |false=>
     rw[hv]at h;have:jcU c=false:=by
      simp only[upc,y8,jcU,jI,ky]at hu⊢;have:¬(97<=(c.toNat:Int)):=by omega
      simp[this]
     simp[qo,this]at h
  .intro hu;rw[hn]at h;have:js (c::r)=false:=by simp[js,hu]
   rw[this]at h;simp at h;exact h.1
theorem Yp(t:T)(h:zy t=true):G 197 [tm t]=some (vb (js t.name),[]):=by
 obtain⟨c,r,hn,hv,_⟩:=jqR h;have e1:=jdA c;rw[<-hv]at e1;rw[jHR];have hx:yr (sv t.name) (vi 0)=some (vy (c.toNat:Int)):=by rw[hn];exact qU
 simp only[je,hx,e1]
theorem jqA(o:Ord')(ho:o.syms.length<=9223372036854775807):∀t:T,Jv t->G 287 [od o,tm t]=some (vb (KB o.syms t),[]):=by
 refine T.ind λt ih hw=>?_;obtain⟨w1,w2,w3⟩:=(kE t).1 hw;have w3:=(ke _).1 w3;have e1:=zL t.name w1;have e2:=jhO o t.name ho;have e2':=jv7 t.name o.syms;have key:=upto (P:=λi=>jnx (vi i) (strs o.syms) (ints o.ws) (vi o.var) (sv t.name) (jG t.args)=some (vb (Ym o.syms (t.args.drop i)),[])) (n:=t.args.length) ?_ ?_ 0 (Nat.zero_le _)
 .simp only[Int.natCast_zero,List.drop_zero]at key;rw[jLx,JY];cases hv:js t.name<;>rw[hv]at e1
  .cases hc:o.syms.contains t.name<;>rw[hc]at e2'
   .simp only[je,e1,e2,e2',Bool.false_or,Bool.false_and]
   .simp only[je,e1,e2,e2',key,Bool.false_or,Bool.true_and]
  .simp only[je,e1,key,Bool.true_or,Bool.true_and]
 .rw [jz9,List.drop_length];simp only[je,Ym]
 .intro i hi ih';have hlt:(i:Int)<((t.args.length:Nat):Int):=by omega
  have h5:=jo hi w2;have e3:=ih t.args[i] (jr _) (w3 _ (jr _));rw[jz9,ji hi,Ym];cases hp:KB o.syms t.args[i]<;>rw[hp]at e3
  .simp only[je,hlt,ja hi,jd,e3,Bool.false_and]
  .simp only[je,hlt,ja hi,jd,e3,h5,ih',Bool.true_and]
def good(o:Ord')(t:T):Bool:=kQ t && KB o.syms t
theorem jlD(o:Ord')(t:T)(ho:o.syms.length<=9223372036854775807)(hw:Jv t)(hs:tsz t<=1048576):G 256 [od o,tm t]=some (vb (good o t),[]):=by
 have e1:=KQ t hw hs;have e2:=jqA o ho t hw;rw[jLd,good];cases h:kQ t<;>rw[h]at e1<;>simp only[je,e1,e2,Bool.true_and,Bool.false_and]
def jhk(o:Ord')(n:Xb):Int:=match qy n o.syms with|some k=>o.ws.getD k 0|none=>0
mutual
def wt(o:Ord'):T->Int
 |.mk n us=>(if js n then o.var else jhk o n)+wtL o us
def wtL(o:Ord'):Xg->Int
 | []=>0
 |t::ts=>wt o t+wtL o ts
end
theorem jsc(o:Ord')(t:T):wt o t=(if js t.name then o.var else jhk o t.name)+wtL o t.args:=by cases t;rfl
theorem Qh{o:Ord'}(h:yT o=true):o.ws.length=o.syms.length/\1<=o.var/\o.var<=100/\ ∀i,i<o.syms.length->o.var<=o.ws.getD i 0/\o.ws.getD i 0<=100:=by
 simp only[yT,jI,ky,y8]at h;obtain⟨_,h2,⟨h3,h4⟩,h5⟩:=h;refine⟨h2,h3,h4,λi hi=>?_⟩;have:=yx.1 h5 i (by simpa using hi);simp only[jvY,jI,y8,ky]at this;exact this.2.2
theorem jeC{o:Ord'}{n:Xb}(h:o.syms.contains n=true):∃k,qy n o.syms=some k/\k<o.syms.length:=by
 rw[<-Y4]at h;obtain⟨k,hk⟩:=Option.isSome_iff_exists.1 h;exact⟨k,hk,(jhF hk).1⟩
theorem joX{o:Ord'}(hv:yT o=true){n:Xb}(h:o.syms.contains n=true):jk 1 (ints o.ws) (vi (yg 0 (qy n o.syms)))=some (.elt (ci (jhk o n)) 0)/\1<=jhk o n/\jhk o n<=100:=by
 obtain⟨k,hk,hlt⟩:=jeC h;obtain⟨h1,h2,h3,h4⟩:=Qh hv;have h5:=h4 k hlt;have hlt':k<o.ws.length:=by omega
 have e:jhk o n=o.ws[k]:=by simp[jhk,hk,zP,hlt']
 rw[hk];have e2:yg 0 (some k)=((k:Nat):Int):=by simp[yg]
 rw[e2,JU hlt',e];have e3:o.ws.getD k 0=o.ws[k]:=by simp[zP,hlt']
 rw[e3]at h5;exact⟨rfl,by omega,by omega⟩
theorem jcm{o:Ord'}(hv:yT o=true):∀t:T,KB o.syms t=true->1<=wt o t/\wt o t<=100*nodes t:=by
 refine T.ind λt ih hc=>?_;rw[JY,jI]at hc;obtain⟨h1,h2,h3,_⟩:=Qh hv;have hL:∀ts:Xg,(∀u∈ts,1<=wt o u/\wt o u<=100*nodes u)->0<=wtL o ts/\wtL o ts<=100*ju ts:=by
  intro ts;induction ts with
  |nil=>intro _;simp[wtL,ju]
  |cons u us ih=>
   intro h;have a:=h u (by simp);have b:=ih λv hv=>h v (by simp[hv]);simp only[wtL,ju];omega
 have hb:=hL t.args λu hu=>ih u hu (by
  have:=hc.2;rw[QF]at this;exact yx.1 this u hu)
 rw[jsc,jO];cases hn:js t.name with
 |true=>simp only[qi];omega
 |false=>
  have hcn:=hc.1;rw[hn,Bool.false_or]at hcn;have:=(joX hv hcn).2;simp only[KI,if_false];omega
theorem QW{o:Ord'}(hv:yT o=true){ts:Xg}(hc:Ym o.syms ts=true):0<=wtL o ts/\wtL o ts<=100*ju ts:=by
 induction ts with
 |nil=>simp[wtL,ju]
 |cons u us ih=>
  simp only[Ym,jI]at hc;have a:=jcm hv u hc.1;have b:=ih hc.2;simp only[wtL,ju];omega
theorem jiJ{l:Xa}{ts:Xg}(h:Ym l ts=true)(i:Nat):Ym l (ts.drop i)=true:=by
 rw[QF]at h⊢;exact yx.2 λu hu=>yx.1 h u (List.mem_of_mem_drop hu)
theorem Kb{l:Xa}{ts:Xg}(h:Ym l ts=true){u:T}(hu:u∈ts):KB l u=true:=by
 rw[QF]at h;exact yx.1 h u hu
theorem jsa{o:Ord'}(hv:yT o=true)(ts:Xg)(hl:ts.length<=9223372036854775807)(hn:ju ts<=1048577)(hc:Ym o.syms ts=true)(ih:∀t∈ts,G 315 [od o,tm t]=some (vi (wt o t),[])) :
  ∀i,i<=ts.length-> ∀a:Int,0<=a->a+wtL o (ts.drop i)<=200000000->jnB (vi a) (jG ts) (vi (ts.length:Nat)) (vi i) (strs o.syms) (ints o.ws) (vi o.var)=some (vi (a+wtL o (ts.drop i)),[]):=by
 refine upto ?_ ?_
 .intro a ha hb;rw[jAk,List.drop_length];simp only[je,wtL,Int.add_zero]
 .intro i hi ih' a ha hb;have hlt:(i:Int)<((ts.length:Nat):Int):=by omega
  have h5:=jo hi hl;have e1:=ih ts[i] (jr _);have b1:=jcm hv ts[i] (Kb hc (jr _));have b2:=QW hv (jiJ hc (i+1));rw[ji hi]at hb⊢;simp only[wtL]at hb⊢;have hk:ck (a+wt o ts[i])=some (vi (a+wt o ts[i])):=jV (by omega) (by omega);have ih':=ih' (a+wt o ts[i]) (by omega) (by omega);rw[jAk];simp only[je,hlt,ja hi,jd,e1,hk,h5,ih',Int.add_assoc]
theorem jmE{o:Ord'}(hv:yT o=true)(ho:o.syms.length<=9223372036854775807):∀t:T,Jv t->tsz t<=1048576->zy t=true->KB o.syms t=true->G 315 [od o,tm t]=some (vi (wt o t),[]):=by
 refine T.ind λt ih hw hs hk hc=>?_;obtain⟨w1,w2,w3⟩:=(kE t).1 hw;have w3:=(ke _).1 w3;have e1:=Yp t hk;have hb:=jcm hv t hc;have hn:=qN t;rw[jO]at hn;rw[jO]at hb;have hks:=kO hk;rw[yA]at hk;rw[JY,jI]at hc;rw[jsc]at hb⊢;rw[jLJ];cases hvn:js t.name<;>rw[hvn]at e1 hc hk hb
 .have hcn:=hc.1;rw[Bool.false_or]at hcn;obtain⟨e2,e3,e4⟩:=joX hv hcn;have e5:=jar o.syms t.name ho;have hbl:=QW hv hc.2;have key:=jsa hv t.args w2 (by omega) hc.2 (λu hu=>ih u hu (w3 u hu) (by have:=yv hu;rw[kH]at hs;omega) (hks u hu) (Kb hc.2 hu)) 0 (Nat.zero_le _) (jhk o t.name) (by omega) (by simp only[List.drop_zero];omega);simp only[Int.natCast_zero,List.drop_zero]at key;simp only[je,e1,e5,e2,key]
 .simp only[qi]at hk;have:t.args=[]:=List.isEmpty_iff.1 hk;rw[this];simp only[je,e1,wtL,Int.add_zero]
theorem jkP{o:Ord'}(hv:yT o=true)(n:Xb)(ts:Xg)(hl:ts.length<=9223372036854775807)(hc:Ym o.syms ts=true)(ih:∀t∈ts,G 289 [od o,tm t]=some (vi (wt o t),[])) :
  ∀i,i<=ts.length-> ∀a:Int,0<=a->a+wtL o (ts.drop i)<=200000000->jio (vi a) (vi i) (strs o.syms) (ints o.ws) (vi o.var) (sv n) (jG ts)=some (vi (a+wtL o (ts.drop i)),[]):=by
 refine upto ?_ ?_
 .intro a ha hb;rw[jAb,List.drop_length];simp only[je,wtL,Int.add_zero]
 .intro i hi ih' a ha hb;have hlt:(i:Int)<((ts.length:Nat):Int):=by omega
  have h5:=jo hi hl;have e1:=ih ts[i] (jr _);have b1:=jcm hv ts[i] (Kb hc (jr _));have b2:=QW hv (jiJ hc (i+1));rw[ji hi]at hb⊢;simp only[wtL]at hb⊢;have hk:ck (a+wt o ts[i])=some (vi (a+wt o ts[i])):=jV (by omega) (by omega);have ih':=ih' (a+wt o ts[i]) (by omega) (by omega);rw[jAb];simp only[je,hlt,ja hi,jd,e1,hk,h5,ih',Int.add_assoc]
theorem jgM{o:Ord'}(hv:yT o=true)(ho:o.syms.length<=9223372036854775807):∀t:T,Jv t->tsz t<=1048576->KB o.syms t=true->G 289 [od o,tm t]=some (vi (wt o t),[]):=by
 refine T.ind λt ih hw hs hc=>?_;obtain⟨w1,w2,w3⟩:=(kE t).1 hw;have w3:=(ke _).1 w3;have e1:=zL t.name w1;have hb:=jcm hv t hc;have hn:=qN t;rw[jO]at hn;rw[jO]at hb;obtain⟨_,v2,v3,_⟩:=Qh hv;rw[JY,jI]at hc;rw[jsc]at hb⊢;rw[jLz];have hbl:=QW hv hc.2;have key:=λa h1 h2=>jkP hv t.name t.args w2 hc.2 (λu hu=>ih u hu (w3 u hu) (by have:=yv hu;rw[kH]at hs;omega) (Kb hc.2 hu)) 0 (Nat.zero_le _) a h1 h2;simp only[Int.natCast_zero,List.drop_zero]at key;cases hvn:js t.name<;>rw[hvn]at e1 hc hb
 .have hcn:=hc.1;rw[Bool.false_or]at hcn;obtain⟨e2,e3,e4⟩:=joX hv hcn;have e5:=jhO o t.name ho;have key:=key (jhk o t.name) (by omega) (by omega);simp only[je,e1,e5,e2,key]
 .have key:=key o.var (by omega) (by omega);simp only[je,e1,key]
theorem jlq{o:Ord'}{t:T}(h:good o t=true):zy t=true/\KB o.syms t=true/\nodes t<=30:=by
 simp only[good,kQ,jF,jI,ky]at h;exact⟨h.1.2,h.2,h.1.1.1⟩
def jGI(o:Ord')(t:T):A:=if yT o && good o t then .tup [vi (wt o t),vb true]else .tup [vi 0,vb false]
theorem je4(a b:A):kC 2 (.elt [a,b] 0)=some (.agg [a,b]):=rfl
theorem je5(a b c:A):kC 3 (.elt [a,b,c] 0)=some (.agg [a,b,c]):=rfl
noncomputable def dq{α:Type}(a b:α):Bool:=@decide (a=b) (Classical.propDecidable _)
theorem y7{α:Type}{a b:α} :dq a b=true↔a=b:=by unfold dq;exact @decide_eq_true_iff _ (Classical.propDecidable _)
theorem jiK{α:Type}{a b:α} :dq a b=false↔ ¬a=b:=by unfold dq;exact @decide_eq_false_iff_not _ (Classical.propDecidable _)
theorem jct{α:Type}(a:α):dq a a=true:=y7.2 rfl
theorem jhE{α:Type}(a b:α)(l r:List α):dq (a::l) (b::r)=(dq a b && dq l r):=by
 rw[Bool.eq_iff_iff,jI,y7,y7,y7,KH]
theorem jFQ(s t:T):dq s t=(decide (s.name=t.name) && dq s.args t.args):=by
 cases s with
 |mk n us=>cases t with
  |mk m vs=>rw[Bool.eq_iff_iff,jI,y7,y7,decide_eq_true_iff,T.mk.injEq];rfl
theorem jnW{α:Type}{a b:List α}(h:¬a.length=b.length):dq a b=false:=jiK.2 λe=>h (by rw[e])
theorem jhc(ts us:Xg)(hl:ts.length<=9223372036854775807)(hlen:ts.length=us.length)(ih:∀t∈ts,∀u∈us,G 164 [tm t,tm u]=some (vb (dq t u),[])) :
  ∀i,i<=ts.length->jnc (jG us) (.fn 164 []) (jG ts) (vi (ts.length:Nat)) (vi i)=some (vb (dq (ts.drop i) (us.drop i)),[]):=by
 refine upto ?_ ?_
 .rw [jzG,List.drop_length,hlen,List.drop_length,jct];simp only[je]
 .intro i hi ih';have hlt:(i:Int)<((ts.length:Nat):Int):=by omega
  have hi2:i<us.length:=by omega
  have h5:=jo hi hl;have e1:=ih ts[i] (jr _) us[i] (jr _);rw[jzG,ji hi,ji hi2,jhE];cases hp:dq ts[i] us[i]<;>rw[hp]at e1
  .simp only[je,hlt,ja hi,ja hi2,jd,qx (f:=164) rfl,zm,e1,Bool.false_and]
  .simp only[je,hlt,ja hi,ja hi2,jd,qx (f:=164) rfl,zm,e1,h5,ih',Bool.true_and]
theorem yi:∀s:T,Jv s-> ∀t:T,Jv t->G 164 [tm s,tm t]=some (vb (dq s t),[]):=by
 refine T.ind λs ih hw t hw'=>?_;obtain⟨w1,w2,w3⟩:=(kE s).1 hw;have w3:=(ke _).1 w3;obtain⟨v1,v2,v3⟩:=(kE t).1 hw';have v3:=(ke _).1 v3;rw[jJ6,jFQ];by_cases hn:s.name=t.name
 .have e:G 208 [jG s.args,jG t.args,.fn 164 []]=some (vb (dq s.args t.args),[]):=by
   rw[jKD];by_cases hlen:s.args.length=t.args.length
   .have key:=jhc s.args t.args w2 hlen (λa ha b hb=>ih a ha (w3 a ha) b (v3 b hb)) 0 (Nat.zero_le _);simp only[Int.natCast_zero,List.drop_zero]at key;rw[hlen]at key;simp only[je,hlen,key]
   .have hlen':¬((s.args.length:Nat):Int)=((t.args.length:Nat):Int):=by omega
    simp only[je,hlen',jnW hlen]
  simp only[je,hn,e,Bool.true_and]
 .simp only[je,hn,Bool.false_and]
theorem jqx(n m:Xb)(ts us:Xg)(hl:ts.length<=9223372036854775807)(hlen:ts.length=us.length)(ih:∀t∈ts,∀u∈us,G 121 [tm t,tm u]=some (vb (dq t u),[])) :
  ∀i,i<=ts.length->jmO (vi i) (sv n) (jG ts) (sv m) (jG us)=some (vb (dq (ts.drop i) (us.drop i)),[]):=by
 refine upto ?_ ?_
 .rw [jy8,List.drop_length,hlen,List.drop_length,jct];simp only[je,hlen]
 .intro i hi ih';have hlt:(i:Int)<((ts.length:Nat):Int):=by omega
  have hi2:i<us.length:=by omega
  have h5:=jo hi hl;have e1:=ih ts[i] (jr _) us[i] (jr _);rw[jy8,ji hi,ji hi2,jhE];cases hp:dq ts[i] us[i]<;>rw[hp]at e1
  .simp only[je,hlt,ja hi,ja hi2,jd,e1,Bool.false_and]
  .simp only[je,hlt,ja hi,ja hi2,jd,e1,h5,ih',Bool.true_and]
theorem Kd:∀s:T,Jv s-> ∀t:T,Jv t->G 121 [tm s,tm t]=some (vb (dq s t),[]):=by
 refine T.ind λs ih hw t hw'=>?_;obtain⟨w1,w2,w3⟩:=(kE s).1 hw;have w3:=(ke _).1 w3;obtain⟨v1,v2,v3⟩:=(kE t).1 hw';have v3:=(ke _).1 v3;rw[jJD,jFQ];by_cases hn:s.name=t.name
 .by_cases hlen:s.args.length=t.args.length
  .have key:=jqx t.name t.name s.args t.args w2 hlen (λa ha b hb=>ih a ha (w3 a ha) b (v3 b hb)) 0 (Nat.zero_le _);simp only[Int.natCast_zero,List.drop_zero]at key;simp only[je,hn,hlen,key,Bool.true_and]
  .have hlen':¬((s.args.length:Nat):Int)=((t.args.length:Nat):Int):=by omega
   simp only[je,hn,hlen',jnW hlen,Bool.and_false]
 .simp only[je,hn,Bool.false_and]
def rk(o:Ord')(t:T):Int:=yg 0 (qy t.name o.syms)
def ja5(a b:Int):Int:=if a<b then -1 else if b<a then 1 else 0
def z6(o:Ord')(s t:T):Int:=if rk o s=rk o t then ja5 (s.args.length:Nat) (t.args.length:Nat)else ja5 (rk o s) (rk o t)
theorem jDL(o:Ord')(s t:T)(ho:o.syms.length<=9223372036854775807):G 290 [od o,tm s,tm t]=some (vi (z6 o s t),[]):=by
 have e1:=jhO o s.name ho;have e2:=jhO o t.name ho;rw[jLA];by_cases h:rk o s=rk o t
 .have h':yg 0 (qy s.name o.syms)=yg 0 (qy t.name o.syms):=h;by_cases h1:((s.args.length:Nat):Int)<((t.args.length:Nat):Int)
  .simp only[je,e1,e2,h',z6,rk,ja5,h1]
  .by_cases h2:((t.args.length:Nat):Int)<((s.args.length:Nat):Int)
   .simp only[je,e1,e2,h',z6,rk,ja5,h1,h2]
   .simp only[je,e1,e2,h',z6,rk,ja5,h1,h2]
 .have h':¬yg 0 (qy s.name o.syms)=yg 0 (qy t.name o.syms):=h;by_cases h1:yg 0 (qy s.name o.syms)<yg 0 (qy t.name o.syms)
  .simp only[je,e1,e2,h',z6,rk,ja5,h1]
  .by_cases h2:yg 0 (qy t.name o.syms)<yg 0 (qy s.name o.syms)
   .simp only[je,e1,e2,h',z6,rk,ja5,h1,h2]
   .simp only[je,e1,e2,h',z6,rk,ja5,h1,h2]
theorem jrc(o:Ord')(s t:T)(ho:o.syms.length<=9223372036854775807):G 316 [od o,tm s,tm t]=some (vb (decide (z6 o s t<0)),[]):=by
 have e1:=jar o.syms s.name ho;have e2:=jar o.syms t.name ho;rw[jLK];by_cases h:rk o s=rk o t
 .have h':yg 0 (qy s.name o.syms)=yg 0 (qy t.name o.syms):=h;by_cases h1:((s.args.length:Nat):Int)<((t.args.length:Nat):Int)
  .simp only[je,e1,e2,h',z6,rk,ja5,h1]
  .by_cases h2:((t.args.length:Nat):Int)<((s.args.length:Nat):Int)
   .simp only[je,e1,e2,h',z6,rk,ja5,h1,h2];rfl
   .simp only[je,e1,e2,h',z6,rk,ja5,h1,h2]
 .have h':¬yg 0 (qy s.name o.syms)=yg 0 (qy t.name o.syms):=h;by_cases h1:yg 0 (qy s.name o.syms)<yg 0 (qy t.name o.syms)
  .simp only[je,e1,e2,h',z6,rk,ja5,h1]
  .have h2:yg 0 (qy t.name o.syms)<yg 0 (qy s.name o.syms):=by omega
   simp only[je,e1,e2,h',z6,rk,ja5,h1,h2];rfl
noncomputable def fd:Xg->Xg->Option (T×T)
 |a::l,b::r=>if dq a b=true then fd l r else some (a,b)
 |_,_=>none
theorem jn1:∀{l r:Xg}{a b:T},fd l r=some (a,b)->a∈l/\b∈r
 | [],_,_,_,h=>by simp[fd]at h
 |_::_,[],_,_,h=>by simp[fd]at h
 |x::l,y::r,a,b,h=>by
  simp only[fd]at h;split at h
  .have:=jn1 h;exact⟨by simp[this.1],by simp[this.2]⟩
  .cases h;exact⟨by simp,by simp⟩
theorem jyO(s t:T)(hw:Jv s)(hw':Jv t)(hlen:s.args.length=t.args.length) :
  (fd s.args t.args=none/\G 291 [tm s,tm t]=some (vi (-1),[]))\/ ∃(k:Nat)(h1:k<s.args.length)(h2:k<t.args.length),fd s.args t.args=some (s.args[k],t.args[k])/\G 291 [tm s,tm t]=some (vi k,[]):=by
 obtain⟨w1,w2,w3⟩:=(kE s).1 hw;have w3:=(ke _).1 w3;obtain⟨v1,v2,v3⟩:=(kE t).1 hw';have v3:=(ke _).1 v3;have key:=upto (P:=λi=>(fd (s.args.drop i) (t.args.drop i)=none/\jip (vi i) (sv s.name) (jG s.args) (sv t.name) (jG t.args)=some (vi (-1),[]))\/ ∃(k:Nat)(h1:k<s.args.length)(h2:k<t.args.length),fd (s.args.drop i) (t.args.drop i)=some (s.args[k],t.args[k])/\jip (vi i) (sv s.name) (jG s.args) (sv t.name) (jG t.args)=some (vi k,[])) (n:=s.args.length) ?_ ?_ 0 (Nat.zero_le _)
 .simp only[Int.natCast_zero,List.drop_zero]at key;rw[jLB];rcases key with⟨h1,h2⟩|⟨k,h1,h2,h3,h4⟩
  .exact Or.inl ⟨h1,by simp only[je,h2]⟩
  .exact Or.inr ⟨k,h1,h2,h3,by simp only[je,h4]⟩
 .left;rw[jAc,List.drop_length];refine⟨by simp[fd],?_⟩;simp only[je]
 .intro i hi ih;have hlt:(i:Int)<((s.args.length:Nat):Int):=by omega
  have hi2:i<t.args.length:=by omega
  have h5:=jo hi w2;have e1:=Kd s.args[i] (w3 _ (jr _)) t.args[i] (v3 _ (jr _));rw[jAc,ji hi,ji hi2,fd];cases hp:dq s.args[i] t.args[i]<;>rw[hp]at e1
  .refine Or.inr ⟨i,hi,hi2,by simp,?_⟩;simp only[je,hlt,ja hi,ja hi2,jd,e1]
  .simp only[je,hlt,ja hi,ja hi2,jd,e1,h5];exact ih
def zT:A:= .agg [sv [],.sl 2 []]
noncomputable def fdR(s t:T):A:=match fd s.args t.args with|some (a,b)=>.tup [tm a,tm b,vb true]|none=>.tup [zT,zT,vb false]
theorem jeG(s t:T)(hw:Jv s)(hw':Jv t)(hn:s.name=t.name)(hlen:s.args.length=t.args.length):G 317 [tm s,tm t]=some (fdR s t,[]):=by
 obtain⟨w1,w2,w3⟩:=(kE s).1 hw;have w3:=(ke _).1 w3;obtain⟨v1,v2,v3⟩:=(kE t).1 hw';have v3:=(ke _).1 v3;have key:=upto (P:=λi=>jnC (jG s.args) (vi (s.args.length:Nat)) (vi i) (sv t.name) (jG t.args) (sv []) (sv []) [] []=some ((match fd (s.args.drop i) (t.args.drop i)with|some (a,b)=>.tup [tm a,tm b,vb true]|none=>.tup [zT,zT,vb false]),[])) (n:=s.args.length) ?_ ?_ 0 (Nat.zero_le _)
 .simp only[Int.natCast_zero,List.drop_zero]at key;rw[jH1,fdR];simp only[hlen]at key;simp only[je,hn,hlen,key]
 .rw [jAl,List.drop_length];simp only[je,fd,zT]
 .intro i hi ih;have hlt:(i:Int)<((s.args.length:Nat):Int):=by omega
  have hi2:i<t.args.length:=by omega
  have h5:=jo hi w2;have e1:=yi s.args[i] (w3 _ (jr _)) t.args[i] (v3 _ (jr _));rw[jAl,ji hi,ji hi2,fd];cases hp:dq s.args[i] t.args[i]<;>rw[hp]at e1
  .simp only[je,hlt,ja hi,ja hi2,jd,e1]
  .simp only[je,hlt,ja hi,ja hi2,jd,e1,h5,ih]
theorem jeH(s t:T)(h:¬(s.name=t.name/\s.args.length=t.args.length)):G 317 [tm s,tm t]=some (.tup [zT,zT,vb false],[]):=by
 rw[jH1];by_cases hn:s.name=t.name
 .have hlen':¬((s.args.length:Nat):Int)=((t.args.length:Nat):Int):=λe=>h ⟨hn,by omega⟩;simp only[je,hn,hlen',zT]
 .simp only[je,hn,zT]
noncomputable def jwp(o:Ord'):Nat->T->T->Bool
 |0,_,_=>false
 |n+1,s,t=>if js s.name then false else if(s.args.any λa=>dq a t || jwp o n a t)then true else if js t.name then false
   else if(t.args.any λb=> !jwp o n s b)then false else if 0<z6 o s t then true else if z6 o s t<0 then false
   else match fd s.args t.args with|some (a,b)=>jwp o n a b|none=>false
theorem jGC{o:Ord'}{s t:T}(h1:o.syms.contains s.name=true)(h2:o.syms.contains t.name=true)(h:rk o s=rk o t):s.name=t.name:=by
 obtain⟨k,hk,_⟩:=jeC h1;obtain⟨j,hj,_⟩:=jeC h2;have a1:=(jhF hk).2;have a2:=(jhF hj).2;simp only[rk,hk,hj,yg,yd]at h;have:k=j:=by omega
 subst this;rw[a1]at a2;exact jaZ a2
theorem jtO(o:Ord')(s t:T):z6 o t s = - z6 o s t:=by
 unfold z6;by_cases h:rk o s=rk o t
 .rw [jg h,jg h.symm];unfold ja5;split<;>split<;>(try split)<;>omega
 .rw [jh h,jh (Ne.symm h)];unfold ja5;split<;>split<;>(try split)<;>omega
def jbw(e g l:Bool):Int:=if e then 1 else if g then 2 else if l then 3 else 0
theorem jwk(e g l:Bool):G 257 [vb e,vb g,vb l]=some (vi (jbw e g l),[]):=by
 rw[jLe];cases e<;>cases g<;>cases l<;>simp only[je,jbw]
theorem jjE{f g:FuncId}{caps caps':Xd}(hf:K.pureF f=true)(hg:K.pureF g=true)(e gr le:Bool)(h1:G f caps=some (vb gr,[]))(h2:G g caps'=some (vb le,[])) :
  G 279 [vb e,.fn f caps,.fn g caps']=some (vi (jbw e gr le),[]):=by
 rw[jLu];cases e<;>cases gr<;>cases le<;>simp only[je,qx hf,qx hg,yF,h1,h2,jbw]
noncomputable def jFN(o:Ord')(s t:T):Int:=jbw (dq s t) (jwp o (nodes s+nodes t) s t) (jwp o (nodes s+nodes t) t s)
noncomputable def jFP(o:Ord')(s t:T):A:=if yT o && (good o s && good o t)then .tup [vi (jFN o s t),vb true]else .tup [vi 0,vb false]
theorem jAo{left:Int}{n:Nat}(h0:0<=left)(h1:left<=1048576)(h:¬ko left (n:Int)<0):0<=ko left (n:Int)/\ko left (n:Int)<=1048576/\n<=1048576:=by
 unfold ko at h⊢;split at h
 .rename_i hc;rw[jg hc];omega
 .exact absurd jvk h
mutual
def kL:T->Xa
 |.mk n us=>if js n then[n]else z7 us
def z7:Xg->Xa
 | []=>[]
 |t::ts=>kL t++z7 ts
end
theorem Zm(t:T):kL t=if js t.name then[t.name]else z7 t.args:=by cases t;rfl
theorem JZ{n:Nat}(h:n<=4000000):jM n 16=true:=by
 unfold jM;simp;omega
def jd4(l:Xa)(vs:Xa)(k:Nat)(r:Xa):Prop:=(∀n,n∈r↔n∈l\/n∈vs)/\r.length<=l.length+k
theorem jkH(ts:Xg)(hl:ts.length<=9223372036854775807)(hn:ju ts<=1048577)(ih:∀t∈ts,∀l:Xa,l.length+nodes t<=2100000-> ∃r,jbb (sv t.name) (jG t.args) (l.map cs)=some (.top,[strs r])/\jd4 l (kL t) (nodes t) r) :
  ∀i,i<=ts.length-> ∀l:Xa,l.length+ju (ts.drop i)<=2100000-> ∃r,jbk (jG ts) (vi (ts.length:Nat)) (vi i) (l.map cs)=some (.top,[strs r])/\jd4 l (z7 (ts.drop i)) (ju (ts.drop i)) r:=by
 refine upto ?_ ?_
 .intro l hb;rw[jbL,List.drop_length];refine⟨l,?_,by simp[z7],by omega⟩;simp only[je]
 .intro i hi ih' l hb;have hlt:(i:Int)<((ts.length:Nat):Int):=by omega
  have h5:=jo hi hl;rw[ji hi]at hb⊢;simp only[ju,z7]at hb⊢;obtain⟨r1,e1,c1,c2⟩:=ih ts[i] (jr _) l (by omega);obtain⟨r2,e2,d1,d2⟩:=ih' r1 (by omega);rw[jbL];refine⟨r2,?_,?_,by omega⟩
  .simp only[je,hlt,ja hi,jd,e1,h5,e2]
  .intro n;rw[d1,c1,kW];exact or_assoc
theorem jsO:∀t:T,Jv t->zy t=true->nodes t<=1048577-> ∀l:Xa,l.length+nodes t<=2100000-> ∃r,jbb (sv t.name) (jG t.args) (l.map cs)=some (.top,[strs r])/\jd4 l (kL t) (nodes t) r:=by
 refine T.ind λt ih hw hk hn l hb=>?_;obtain⟨w1,w2,w3⟩:=(kE t).1 hw;have w3:=(ke _).1 w3;have hks:=kO hk;have e1:=Yp t hk;rw[jya,Zm];have hpos:=qz t;rw[jO]at hn hb⊢;cases hv:js t.name<;>rw[hv]at e1
 .
  have ih':∀u∈t.args,∀l:Xa,l.length+nodes u<=2100000-> ∃r,jbb (sv u.name) (jG u.args) (l.map cs)=some (.top,[strs r])/\jd4 l (kL u) (nodes u) r:=λu hu=>ih u hu (w3 u hu) (hks u hu) (by have:=ql hu;omega)
  have loop:=jkH t.args w2 (by omega) ih';have start:∃r,jbj (jG t.args) (vi (t.args.length:Nat)) (vi 0) (l.map cs)=some (.top,[strs r])/\jd4 l (z7 t.args) (ju t.args) r:=by
   rw[jqm];by_cases h0:t.args.length=0
   .have ha:t.args=[]:=List.length_eq_zero_iff.1 h0;rw[ha];refine⟨l,?_,by simp[z7],by simp[ju]⟩;simp only[je];rfl
   .have hi:0<t.args.length:=by omega
    have hlt:(0:Int)<((t.args.length:Nat):Int):=by omega
    have hix:jk 2 (jG t.args) (vi 0)=some (.elt (jm t.args[0]) 0):=ja (i:=0) hi;have h5:jy .add false (vi 0) (vi 1)=some (vi ((1:Nat):Int)):=by rw[Kz,jV (by decide) (by decide)];rfl
    have hd:t.args=t.args[0]::t.args.drop 1:=by have:=ji hi;simpa using this
    have hns:ju t.args=nodes t.args[0]+ju (t.args.drop 1):=by conv=>lhs;rw[hd,ju]
    have hvs:z7 t.args=kL t.args[0]++z7 (t.args.drop 1):=by conv=>lhs;rw[hd,z7]
    obtain⟨r1,e1,c1,c2⟩:=ih' t.args[0] (jr _) l (by omega);obtain⟨r2,e2,d1,d2⟩:=loop 1 (by omega) r1 (by omega);refine⟨r2,?_,?_,by omega⟩
    .simp only[je,hlt,hix,jd,e1,h5,e2]
    .intro n;rw[d1,c1,hvs,kW];exact or_assoc
  obtain⟨r,e2,d1,d2⟩:=start;refine⟨r,?_,by simpa using d1,by omega⟩;cases h0:decide (((t.args.length:Nat):Int)=0)
  .simp only[je,h0,e2]
  .simp only[je,h0,e1,e2]
 .have ha:t.args=[]:=by
   rw[yA,hv]at hk;simpa using hk
  have h0:decide (((t.args.length:Nat):Int)=0)=true:=by rw[ha];rfl
  have e3:=K1 l t.name (by omega);cases hc:l.contains t.name<;>rw[hc]at e3
  .have hf:jM (l.length+1) 16=true:=JZ (by omega);refine⟨l++[t.name],?_,by simp,by simp⟩;have happ:jR (l.map cs) [[sv t.name]]=(l++[t.name]).map cs:=by simp[jR]
   simp only[je,h0,e1,e3,hf,happ]
  .refine ⟨l,?_,λn=>⟨λh=>Or.inl h,λh=>by
    rcases h with h|h
    .exact h
    .simp at h;subst h;simpa using hc⟩,by omega⟩
   simp only[je,h0,e1,e3]
theorem jfu(t:T)(hw:Jv t)(hk:zy t=true)(hn:nodes t<=1048577):∃r,G 314 [tm t]=some (strs r,[])/\(∀n,n∈r↔n∈kL t)/\r.length<=9223372036854775807:=by
 obtain⟨r,e1,c1,c2⟩:=jsO t hw hk hn [] (by simp;omega)
 have e2:jhX (r.map cs)=some (.top,[strs (yL r)]):=by
  rw[jyb];simp only[jmf,jdY];rw[jg (by simp at c2;omega)]
 refine⟨yL r,?_,λn=>?_,by simp[yL];simp at c2;omega⟩
 .rw [jLI];simp only[List.map_nil]at e1;simp only[je,e1,e2]
 .unfold yL;rw[List.mem_mergeSort,c1];simp
mutual
def cnt(n:Xb):T->Nat
 |.mk m us=>(if m=n then 1 else 0)+ZT n us
def ZT(n:Xb):Xg->Nat
 | []=>0
 |t::ts=>cnt n t+ZT n ts
end
theorem jfY(n:Xb)(t:T):cnt n t=(if t.name=n then 1 else 0)+ZT n t.args:=by cases t;rfl
theorem jFO(n:Xb):∀t:T,cnt n t<=nodes t:=by
 refine T.ind λt ih=>?_;have:∀ts:Xg,(∀u∈ts,cnt n u<=nodes u)->ZT n ts<=ju ts:=by
  intro ts;induction ts with
  |nil=>intro _;simp[ZT]
  |cons u us ih=>
   intro h;have h1:=h u (by simp);have h2:=ih λv hv=>h v (by simp[hv]);simp only[ZT,ju];omega
 have h:=this t.args ih;rw[jfY,jO];split<;>omega
theorem juG(n:Xb)(ts:Xg):ZT n ts<=ju ts:=by
 induction ts with
 |nil=>simp[ZT]
 |cons u us ih=>have:=jFO n u;simp only[ZT,ju];omega
theorem jiI(n:Xb)(ts:Xg)(hl:ts.length<=9223372036854775807)(hn:ju ts<=1048577)(ih:∀t∈ts,G 299 [tm t,sv n]=some (vi (cnt n t:Nat),[])) :
  ∀i,i<=ts.length-> ∀a:Nat,a+ZT n (ts.drop i)<=1048579->jiq (sv n) (vi a) (jG ts) (vi (ts.length:Nat)) (vi i)=some (vi ((a+ZT n (ts.drop i):Nat):Int),[]):=by
 refine upto ?_ ?_
 .intro a ha;rw[jAh,List.drop_length];simp only[je,ZT,j6]
 .intro i hi ih' a ha;have hlt:(i:Int)<((ts.length:Nat):Int):=by omega
  have h5:=jo hi hl;have e1:=ih ts[i] (jr _);rw[ji hi]at ha⊢;simp only[ZT]at ha⊢;have hk:ck ((a:Int)+((cnt n ts[i]:Nat):Int))=some (vi ((a+cnt n ts[i]:Nat):Int)):=by rw[jV (by omega) (by omega)];rfl
  have ih':=ih' (a+cnt n ts[i]) (by omega);rw[jAh];simp only[je,hlt,ja hi,jd,e1,hk,h5,ih',jk1]
theorem Ks(n:Xb):∀t:T,Jv t->nodes t<=1048577->G 299 [tm t,sv n]=some (vi (cnt n t:Nat),[]):=by
 refine T.ind λt ih hw hn=>?_;obtain⟨w1,w2,w3⟩:=(kE t).1 hw;have w3:=(ke _).1 w3;rw[jO]at hn;have hc:=juG n t.args;have key:=λa h=>jiI n t.args w2 (by omega) (λu hu=>ih u hu (w3 u hu) (by have:=ql hu;omega)) 0 (Nat.zero_le _) a h;simp only[Int.natCast_zero,List.drop_zero]at key;rw[jLE,jfY];by_cases h:t.name=n
 .have key:=key 1 (by omega);simp only[Int.natCast_one]at key;simp only[je,h,key]
 .have key:=key 0 (by omega);simp only[Int.natCast_zero]at key;simp only[je,h,key]
theorem joj(m n:Xb)(ts:Xg)(hl:ts.length<=9223372036854775807)(hn:ju ts<=1048577)(ih:∀t∈ts,G 320 [tm t,sv n]=some (vi (cnt n t:Nat),[])) :
  ∀i,i<=ts.length-> ∀a:Nat,a+ZT n (ts.drop i)<=1048579->jis (sv n) (vi a) (vi i) (sv m) (jG ts)=some (vi ((a+ZT n (ts.drop i):Nat):Int),[]):=by
 refine upto ?_ ?_
 .intro a ha;rw[jAn,List.drop_length];simp only[je,ZT,j6]
 .intro i hi ih' a ha;have hlt:(i:Int)<((ts.length:Nat):Int):=by omega
  have h5:=jo hi hl;have e1:=ih ts[i] (jr _);rw[ji hi]at ha⊢;simp only[ZT]at ha⊢;have hk:ck ((a:Int)+((cnt n ts[i]:Nat):Int))=some (vi ((a+cnt n ts[i]:Nat):Int)):=by rw[jV (by omega) (by omega)];rfl
  have ih':=ih' (a+cnt n ts[i]) (by omega);rw[jAn];simp only[je,hlt,ja hi,jd,e1,hk,h5,ih',jk1]
theorem jjd(n:Xb):∀t:T,Jv t->nodes t<=1048577->G 320 [tm t,sv n]=some (vi (cnt n t:Nat),[]):=by
 refine T.ind λt ih hw hn=>?_;obtain⟨w1,w2,w3⟩:=(kE t).1 hw;have w3:=(ke _).1 w3;rw[jO]at hn;have hc:=juG n t.args;have key:=λa h=>joj t.name n t.args w2 (by omega) (λu hu=>ih u hu (w3 u hu) (by have:=ql hu;omega)) 0 (Nat.zero_le _) a h;simp only[Int.natCast_zero,List.drop_zero]at key;rw[jLM,jfY];by_cases h:t.name=n
 .have key:=key 1 (by omega);simp only[Int.natCast_one]at key;rw[h]at key;simp only[je,h,key]
 .have key:=key 0 (by omega);simp only[Int.natCast_zero]at key;simp only[je,h,key]
theorem jAi(l:Xa)(s:Xb)(hl:l.length<=2100000):∃r,G 254 [strs l,sv s]=some (strs r,[])/\jd4 l [s] 1 r:=by
 have key:=upto (P:=λi=>∃r,jik (strs l) (sv s) (vi i)=some (strs r,[])/\jd4 l [s] 1 r) (n:=l.length) ?_ ?_ 0 (Nat.zero_le _)
 .simp only[Int.natCast_zero]at key;rw[jHW];exact key
 .have hx:¬((l.length:Nat):Int)<((l.length:Nat):Int):=Int.lt_irrefl _;have s1:yb 1 (strs l) none (some (vi (l.length:Nat)))=some (strs l):=by rw[Kf (by simp),yN (by simp)]
  have s2:yb 1 (strs l) (some (vi (l.length:Nat))) none=some (.sl 1 []):=by rw[qf (by simp),List.drop_of_length_le (by simp)]
  have f1:jM l.length 16=true:=JZ (by omega);have f2:jM (l.length+1) 16=true:=JZ (by omega);have happ:jR (jR (l.map cs) [[sv s]]) []=(l++[s]).map cs:=by simp[jR]
  have hlen:(jR (l.map cs) [[sv s]]).length=l.length+1:=by simp[jR]
  refine⟨l++[s],?_,by intro n;simp,by simp⟩
  rw[jog];simp only[je,hx,s1,s2,f1,f2,hlen,happ,j6]
 .intro i hi ih;have hlt:(i:Int)<((l.length:Nat):Int):=by omega
  have h5:=jo hi (by omega);rw[jog];cases h1:yK l[i] s
  .by_cases h2:l[i]=s
   .refine ⟨l,?_,λn=>⟨λh=>Or.inl h,λh=>by
     rcases h with h|h
     .exact h
     .simp at h;rw[h,<-h2];exact jr _⟩,by omega⟩
    rw[h2]at h1;simp only[je,hlt,ja hi,h2,h1]
   .have s1:yb 1 (strs l) none (some (vi i))=some (strs (l.take i)):=by rw[Kf (by simp;omega),<-List.map_take]
    have s2:yb 1 (strs l) (some (vi i)) none=some (strs (l.drop i)):=by rw[qf (by simp;omega),<-List.map_drop]
    have ht:(l.take i).length=i:=by rw[List.length_take];omega
    have f1:jM i 16=true:=JZ (by omega);have f2:jM (i+1) 16=true:=JZ (by omega);have f3:jM (i+1+(l.drop i).length) 16=true:=JZ (by rw[List.length_drop];omega);have happ:jR (jR ((l.take i).map cs) [[sv s]]) ((l.drop i).map cs)=(l.take i++[s]++l.drop i).map cs:=by simp[jR]
    have hlen:(jR ((l.take i).map cs) [[sv s]]).length=i+1:=by simp[jR];omega
    refine⟨l.take i++[s]++l.drop i,?_,λn=>?_,by simp;omega⟩
    .simp only[je,hlt,ja hi,h1,h2,s1,s2,ht,f1,f2,f3,hlen,happ]
    .have hm:n∈l↔n∈l.take i\/n∈l.drop i:=by rw[<-kW,Qj]
     simp only[kW,zx,hm];exact⟨λh=>by rcases h with(h|h)|h<;>simp[h],λh=>by rcases h with(h|h)|h<;>simp[h]⟩
  .obtain ⟨r,e,c⟩:=ih;refine⟨r,?_,c⟩;simp only[je,hlt,ja hi,h1,h5,e]
theorem jwf:∀t:T,Jv t-> ∀l:Xa,l.length+nodes t<=2100000-> ∃r,G 285 [strs l,tm t]=some (strs r,[])/\jd4 l (kL t) (nodes t) r:=by
 refine T.ind λt ih hw l hb=>?_;obtain⟨w1,w2,w3⟩:=(kE t).1 hw;have w3:=(ke _).1 w3;have e1:=zL t.name w1;rw[jLv,Zm];rw[jO]at hb⊢;cases hv:js t.name<;>rw[hv]at e1
 .have key:=upto (P:=λi=>∀l:Xa,l.length+ju (t.args.drop i)<=2100000-> ∃r,jnv (strs l) (vi i) (sv t.name) (jG t.args)=some (strs r,[])/\jd4 l (z7 (t.args.drop i)) (ju (t.args.drop i)) r) (n:=t.args.length) ?_ ?_ 0 (Nat.zero_le _)
  .simp only[Int.natCast_zero,List.drop_zero]at key;obtain⟨r,e,c1,c2⟩:=key l (by omega);refine⟨r,?_,by simpa using c1,by omega⟩;simp only[je,e1,e]
  .intro l hb;rw[jz6,List.drop_length];refine⟨l,?_,by simp[z7],by omega⟩;simp only[je]
  .intro i hi ih' l hb;have hlt:(i:Int)<((t.args.length:Nat):Int):=by omega
   have h5:=jo hi w2;rw[ji hi]at hb⊢;simp only[ju,z7]at hb⊢;obtain⟨r1,a1,c1,c2⟩:=ih t.args[i] (jr _) (w3 _ (jr _)) l (by omega);obtain⟨r2,a2,d1,d2⟩:=ih' r1 (by omega);rw[jz6];refine⟨r2,?_,?_,by omega⟩
   .simp only[je,hlt,ja hi,jd,a1,h5,a2]
   .intro n;rw[d1,c1,kW];exact or_assoc
 .obtain ⟨r,e,c1,c2⟩:=jAi l t.name (by omega);refine⟨r,?_,by simpa using c1,by omega⟩;simp only[je,e1,e]
theorem jlA(t:T)(hw:Jv t)(hn:nodes t<=1048577):∃r,G 251 [tm t]=some (strs r,[])/\(∀n,n∈r↔n∈kL t)/\r.length<=9223372036854775807:=by
 obtain⟨r,e,c1,c2⟩:=jwf t hw [] (by simp;omega)
 have e:G 285 [.sl 1 [],tm t]=some (strs r,[]):=e;refine⟨r,?_,λn=>by rw[c1];simp,by simp at c2;omega⟩;rw[jLa];simp only[je,e]
def bal(s t:T):Bool:=(kL t).all λn=>decide (cnt n t<=cnt n s)
theorem jx6{r:Xa}{s t:T}(h:∀n,n∈r↔n∈kL t):(r.all λn=>decide (cnt n t<=cnt n s))=bal s t:=by
 unfold bal;rw[Bool.eq_iff_iff,yx,yx];exact⟨λa n hn=>a n ((h n).2 hn),λa n hn=>a n ((h n).1 hn)⟩
theorem jpr(s t:T)(hw:Jv s)(hw':Jv t)(hs:nodes s<=1048577)(ht:nodes t<=1048577):G 288 [tm s,tm t]=some (vb (bal s t),[]):=by
 obtain⟨r,e,c1,c2⟩:=jlA t hw' ht;have key:=upto (P:=λi=>jny (strs r) (vi i) (sv s.name) (jG s.args) (sv t.name) (jG t.args)=some (vb ((r.drop i).all λn=>decide (cnt n t<=cnt n s)),[])) (n:=r.length) ?_ ?_ 0 (Nat.zero_le _)
 .simp only[Int.natCast_zero,List.drop_zero]at key;rw[jx6 c1]at key;rw[jLy];simp only[je,e,key]
 .rw [jAa,List.drop_length];simp only[je]
 .intro i hi ih;have hlt:(i:Int)<((r.length:Nat):Int):=by omega
  have h5:=jo hi c2;have e1:=jjd r[i] s hw hs;have e2:=jjd r[i] t hw' ht;rw[jAa,ji hi,zR];by_cases h:cnt r[i] t<=cnt r[i] s
  .have h':¬((cnt r[i] s:Nat):Int)<((cnt r[i] t:Nat):Int):=by omega
   simp only[je,hlt,ja hi,e1,e2,h',h,h5,ih,Bool.true_and]
  .have h':((cnt r[i] s:Nat):Int)<((cnt r[i] t:Nat):Int):=by omega
   simp only[je,hlt,ja hi,e1,e2,h',h,Bool.false_and]
noncomputable def Zz(o:Ord'):Nat->T->T->Bool
 |0,_,_=>false
 |n+1,s,t=>if bal s t then(if wt o s=wt o t then(if js s.name || js t.name then false else if z6 o s t=0 then(match fd s.args t.args with|some (a,b)=>Zz o n a b|none=>false)else decide (0<z6 o s t))else decide (wt o t<wt o s))else false
theorem jqe{s t a b:T}{n:Nat}(ha:a∈s.args)(hb:b∈t.args)(h:nodes s+nodes t<=n+1):nodes a+nodes b<=n:=by
 have h1:=ql ha;have h2:=ql hb;rw[jO s,jO t]at h;omega
theorem jl3{o:Ord'}{s t:T}(h:z6 o s t=0):rk o s=rk o t/\s.args.length=t.args.length:=by
 unfold z6 ja5 at h;split at h
 .rename_i h1;refine⟨h1,?_⟩;split at h
  .cases h
  .split at h
   .cases h
   .omega
 .split at h
  .cases h
  .split at h
   .cases h
   .omega
theorem jjf{o:Ord'}(hv:yT o=true)(ho:o.syms.length<=9223372036854775807):∀(n:Nat)(s t:T),nodes s+nodes t<=n->Jv s->Jv t->tsz s<=1048576->tsz t<=1048576->KB o.syms s=true->KB o.syms t=true->G 258 [od o,tm s,tm t]=some (vb (Zz o n s t),[])
 |0,s,t,h,_,_,_,_,_,_=>by have:=qz s;omega
 |n+1,s,t,h,hw,hw',hs,ht,hc,hc'=>by
  obtain⟨w1,w2,w3⟩:=(kE s).1 hw;have w3:=(ke _).1 w3;obtain⟨v1,v2,v3⟩:=(kE t).1 hw';have v3:=(ke _).1 v3;have hns:=qN s;have hnt:=qN t;have e1:=jpr s t hw hw' (by omega) (by omega);have e2:=jgM hv ho s hw hs hc;have e3:=jgM hv ho t hw' ht hc';have e4:=zL s.name w1;have e5:=zL t.name v1;have e6:=jDL o s t ho;have cs1:∀a∈s.args,KB o.syms a=true:=λa ha=>by rw[JY,jI]at hc;exact Kb hc.2 ha
  have cs2:∀a∈t.args,KB o.syms a=true:=λa ha=>by rw[JY,jI]at hc';exact Kb hc'.2 ha
  rw[jLf,Zz];cases hb:bal s t<;>rw[hb]at e1
  .simp only[je,e1]
  by_cases hwt:wt o s=wt o t;rotate_left
  .simp only[je,e1,e2,e3,hwt]
  cases hv1:js s.name<;>rw[hv1]at e4
  rotate_left
  .simp only[je,e1,e2,e3,hwt,e4,Bool.true_or]
  cases hv2:js t.name<;>rw[hv2]at e5
  rotate_left
  .simp only[je,e1,e2,e3,hwt,e4,e5,Bool.false_or]
  by_cases hr:z6 o s t=0;rotate_left
  .simp only[je,e1,e2,e3,hwt,e4,e5,e6,hr,Bool.false_or]
  obtain⟨_,hlen⟩:=jl3 hr;rcases jyO s t hw hw' hlen with⟨f1,f2⟩|⟨k,k1,k2,f1,f2⟩
  .have:¬(0:Int)<= -1:=by decide
   simp only[je,e1,e2,e3,hwt,e4,e5,e6,hr,Bool.false_or,f1,f2,this]
  .have m1:=jr k1;have m2:=jr k2;have e7:=jjf hv ho n s.args[k] t.args[k] (jqe m1 m2 h) (w3 _ m1) (v3 _ m2) (by have:=yv m1;rw[kH]at hs;omega) (by have:=yv m2;rw[kH]at ht;omega) (cs1 _ m1) (cs2 _ m2);have:(0:Int)<=(k:Int):=by omega
   simp only[je,e1,e2,e3,hwt,e4,e5,e6,hr,Bool.false_or,f1,f2,this,ja k1,ja k2,jd,e7]
theorem js0{o:Ord'}(hv:yT o=true)(ho:o.syms.length<=9223372036854775807):∀(n:Nat)(s t:T),nodes s+nodes t<=n->Jv s->Jv t->tsz s<=1048576->tsz t<=1048576->zy s=true->zy t=true->KB o.syms s=true->KB o.syms t=true->G 281 [od o,tm s,tm t]=some (vb (Zz o n s t),[])
 |0,s,t,h,_,_,_,_,_,_,_,_=>by have:=qz s;omega
 |n+1,s,t,h,hw,hw',hs,ht,hk,hk',hc,hc'=>by
  obtain⟨w1,w2,w3⟩:=(kE s).1 hw;have w3:=(ke _).1 w3;obtain⟨v1,v2,v3⟩:=(kE t).1 hw';have v3:=(ke _).1 v3;have hns:=qN s;have hnt:=qN t;have ks:=kO hk;have ks':=kO hk';have e2:=jmE hv ho s hw hs hk hc;have e3:=jmE hv ho t hw' ht hk' hc';have e4:=Yp s hk;have e5:=Yp t hk';have e6:=jrc o t s ho;rw[jtO]at e6;have cs1:∀a∈s.args,KB o.syms a=true:=λa ha=>by rw[JY,jI]at hc;exact Kb hc.2 ha
  have cs2:∀a∈t.args,KB o.syms a=true:=λa ha=>by rw[JY,jI]at hc';exact Kb hc'.2 ha
  obtain⟨r,er,c1,c2⟩:=jfu t hw' hk' (by omega);have tail:jim (strs r) (vi (r.length:Nat)) (vi (r.length:Nat)) (strs o.syms) (ints o.ws) (vi o.var) (sv s.name) (jG s.args) (sv t.name) (jG t.args)=some (vb (if wt o s=wt o t then(if js s.name || js t.name then false else if z6 o s t=0 then(match fd s.args t.args with|some (a,b)=>Zz o n a b|none=>false)else decide (0<z6 o s t))else decide (wt o t<wt o s)),[]):=by
   rw[jtd];by_cases hwt:wt o s=wt o t;rotate_left
   .simp only[je,e2,e3,hwt]
   have hnlt:¬wt o t<wt o s:=by omega
   cases hv1:js s.name<;>rw[hv1]at e4
   rotate_left
   .simp only[je,e2,e3,hwt,e4,Bool.true_or]
   cases hv2:js t.name<;>rw[hv2]at e5
   rotate_left
   .simp only[je,e2,e3,hwt,e4,e5,Bool.false_or]
   by_cases hr:z6 o s t=0
   .have hr':¬ -z6 o s t<0:=by omega
    obtain⟨hrk,hlen⟩:=jl3 hr;have hcn:o.syms.contains s.name=true:=by rw[JY,hv1,Bool.false_or,jI]at hc;exact hc.1
    have hcn':o.syms.contains t.name=true:=by rw[JY,hv2,Bool.false_or,jI]at hc';exact hc'.1
    have e7:=jeG s t hw hw' (jGC hcn hcn' hrk) hlen;cases hf:fd s.args t.args with
    |none=>
     have:fdR s t = .tup [zT,zT,vb false]:=by unfold fdR;rw[hf]
     rw[this]at e7;simp only[hr]at e6;simp only[je,e2,e3,hwt,e4,e5,e6,hr,Bool.false_or,e7,zT,Int.neg_zero]
    |some p=>
     obtain⟨a,b⟩:=p;have:fdR s t = .tup [tm a,tm b,vb true]:=by unfold fdR;rw[hf]
     rw[this]at e7;obtain⟨ma,mb⟩:=jn1 hf;have e8:=js0 hv ho n a b (jqe ma mb h) (w3 a ma) (v3 b mb) (by have:=yv ma;rw[kH]at hs;omega) (by have:=yv mb;rw[kH]at ht;omega) (ks a ma) (ks' b mb) (cs1 a ma) (cs2 b mb);simp only[hr]at e6;simp only[je,e2,e3,hwt,e4,e5,e6,hr,Bool.false_or,e7,e8,Int.neg_zero]
   .by_cases hg:0<z6 o s t
    .have hg': -z6 o s t<0:=by omega
     simp only[je,e2,e3,hwt,e4,e5,e6,hr,hg,hg',Bool.false_or]
    .have hg':¬ -z6 o s t<0:=by omega
     have hno:¬(s.name=t.name/\s.args.length=t.args.length):=by
      rintro⟨q1,q2⟩;apply hr;have:rk o s=rk o t:=by unfold rk;rw[q1]
      unfold z6 ja5;rw[jg this,q2];simp
     have e7:=jeH s t hno;simp only[je,e2,e3,hwt,e4,e5,e6,hr,hg,hg',Bool.false_or,e7,zT]
  have key:=upto (P:=λi=>jim (strs r) (vi (r.length:Nat)) (vi i) (strs o.syms) (ints o.ws) (vi o.var) (sv s.name) (jG s.args) (sv t.name) (jG t.args)=some (vb (if((r.drop i).all λn=>decide (cnt n t<=cnt n s))then(if wt o s=wt o t then(if js s.name || js t.name then false else if z6 o s t=0 then(match fd s.args t.args with|some (a,b)=>Zz o n a b|none=>false)else decide (0<z6 o s t))else decide (wt o t<wt o s))else false),[])) (n:=r.length) ?_ ?_ 0 (Nat.zero_le _)
  .simp only[Int.natCast_zero,List.drop_zero]at key;rw[jx6 c1]at key;rw[jHZ,Zz];simp only[je,er];exact key
  .rw [tail,List.drop_length];rfl
  .intro i hi ih;have hlt:(i:Int)<((r.length:Nat):Int):=by omega
   have h5:=jo hi c2;have a1:=Ks r[i] s hw (by omega);have a2:=Ks r[i] t hw' (by omega);rw[jtd,ji hi,zR];by_cases hcn:cnt r[i] t<=cnt r[i] s
   .have h':¬((cnt r[i] s:Nat):Int)<((cnt r[i] t:Nat):Int):=by omega
    simp only[je,hlt,ja hi,a1,a2,h',hcn,h5,ih,Bool.true_and]
   .have h':((cnt r[i] s:Nat):Int)<((cnt r[i] t:Nat):Int):=by omega
    simp only[je,hlt,ja hi,a1,a2,h',hcn,Bool.false_and]
noncomputable def jai(o:Ord')(s t:T):Int:=jbw (dq s t) (Zz o (nodes s+nodes t) s t) (Zz o (nodes s+nodes t) t s)
noncomputable def jak(o:Ord')(s t:T):A:=if yT o && (good o s && good o t)then .tup [vi (jai o s t),vb true]else .tup [vi 0,vb false]
theorem jhi(o:Ord')(s t:T)(ho:owf o)(hw:Jv s)(hs:tsz s<=1048576)(hw':Jv t)(hs':tsz t<=1048576):G 217 [od o,tm s,tm t]=some (jak o s t,[]):=by
 have e1:=jwl o ho;have e2:=jlD o s ho.1.2 hw hs;have e3:=jlD o t ho.1.2 hw' hs';have e4:=Kd s hw t hw';have e7:=jwk (dq s t) (Zz o (nodes s+nodes t) s t) (Zz o (nodes s+nodes t) t s);rw[jKM,jak];cases h:yT o<;>rw[h]at e1
 .simp only[je,e1,Bool.false_and]
 .cases h2:good o s<;>rw[h2]at e2
  .simp only[je,e1,e2,Bool.and_false,Bool.false_and]
  .cases h3:good o t<;>rw[h3]at e3
   .simp only[je,e1,e2,e3,Bool.and_false]
   .have g2:=jlq h2;have g3:=jlq h3;have e5:=jjf h ho.1.2 (nodes s+nodes t) s t (j4 _) hw hw' hs hs' g2.2.1 g3.2.1;have e6:=jjf h ho.1.2 (nodes s+nodes t) t s (by omega) hw' hw hs' hs g3.2.1 g2.2.1;simp only[je,e1,e2,e3,e4,e5,e6,e7,jai]
theorem jg8{o:Ord'}(hv:yT o=true)(s t:T)(ho:owf o)(hw:Jv s)(hs:tsz s<=1048576)(hw':Jv t)(hs':tsz t<=1048576)(hk:zy s=true)(hk':zy t=true)(hc:KB o.syms s=true)(hc':KB o.syms t=true):G 238 [od o,tm s,tm t]=some (vi (jai o s t),[]):=by
 have e4:=yi s hw t hw';have e5:=js0 hv ho.1.2 (nodes s+nodes t) s t (j4 _) hw hw' hs hs' hk hk' hc hc';have e6:=js0 hv ho.1.2 (nodes s+nodes t) t s (by omega) hw' hw hs' hs hk' hk hc' hc;have c1:G 280 [.elt (jox o) 0,.elt [sv s.name,.sl 2 (s.args.map jm)] 0,.elt [sv t.name,.sl 2 (t.args.map jm)] 0]=some (vb (Zz o (nodes s+nodes t) s t),[]):=by
  rw[jHY];simp only[je,je4,je5,e5]
 have c2:G 282 [.elt (jox o) 0,.elt [sv t.name,.sl 2 (t.args.map jm)] 0,.elt [sv s.name,.sl 2 (s.args.map jm)] 0]=some (vb (Zz o (nodes s+nodes t) t s),[]):=by
  rw[jH0];simp only[je,je4,je5,e6]
 have e7:=jjE (f:=280) (g:=282) rfl rfl (dq s t) _ _ c1 c2;rw[jHV];simp only[je,e4,e7,jai]
def Yh(t:T):T:=t.args.getD 0 (.mk [] [])
def Qp(t:T):T:=t.args.getD 1 (.mk [] [])
def jbB(t:T):Bool:=decide (t.args.length=2) && (jF t && (zy (Yh t) && zy (Qp t)))
theorem KM{t:T}(hl:t.args.length=2):jk 2 (jG t.args) (vi 0)=some (.elt (jm (Yh t)) 0)/\jk 2 (jG t.args) (vi 1)=some (.elt (jm (Qp t)) 0)/\Yh t∈t.args/\Qp t∈t.args:=by
 have e0:Yh t=t.args[0]:=by unfold Yh;simp[zP,hl]
 have e1:Qp t=t.args[1]:=by unfold Qp;simp[zP,hl]
 rw[e0,e1];exact⟨ja (i:=0) (by omega),ja (i:=1) (by omega),jr _,jr _⟩
theorem jdC(t:T)(hw:Jv t)(hs:tsz t<=1048576)(he:t.name=[61]):G 112 [tm t]=some (vb (jbB t),[]):=by
 obtain⟨w1,w2,w3⟩:=(kE t).1 hw;have w3:=(ke _).1 w3;have het:(t.name=[61])=True:=eq_true he;unfold jbB;rw[jFW];by_cases hl:t.args.length=2;rotate_left
 .have hl':¬((t.args.length:Nat):Int)=2:=by omega
  simp only[je,het,hl',hl,Bool.false_and]
 have hl':((t.args.length:Nat):Int)=2:=by omega
 rw[decide_eq_true hl,Bool.true_and];obtain⟨i0,i1,ma,mb⟩:=KM hl;have p1:=jlz t hw hs;have p2:=jdD _ (w3 _ ma);have p3:=jdD _ (w3 _ mb);cases h1:jF t<;>rw[h1]at p1
 .simp only[je,het,hl',p1,Bool.false_and]
 .cases h2:zy (Yh t)<;>rw[h2]at p2
  .simp only[je,het,hl',p1,i0,jd,p2,Bool.false_and,Bool.and_false]
  .simp only[je,het,hl',p1,i0,i1,jd,p2,p3,Bool.true_and]
theorem qj(t:T):G 195 [tm t]=some (vb (decide (t.name=[61])),[]):=by
 rw[jKt];simp only[je]
theorem jaQ(t:T)(hw:Jv t)(hs:tsz t<=1048576)(he:t.name=[61]):G 183 [tm t]=some (vb (jbB t),[]):=by
 obtain⟨w1,w2,w3⟩:=(kE t).1 hw;have w3:=(ke _).1 w3;have q0:=qj t;rw[decide_eq_true he]at q0;unfold jbB;rw[jHQ];by_cases hl:t.args.length=2;rotate_left
 .have hl':¬((t.args.length:Nat):Int)=2:=by omega
  simp only[je,q0,hl',hl,Bool.false_and]
 have hl':((t.args.length:Nat):Int)=2:=by omega
 rw[decide_eq_true hl,Bool.true_and];obtain⟨i0,i1,ma,mb⟩:=KM hl;have p1:=jas t hw hs;have p2:=jbG _ (w3 _ ma);have p3:=jbG _ (w3 _ mb);cases h1:jF t<;>rw[h1]at p1
 .simp only[je,q0,hl',p1,Bool.false_and]
 .cases h2:zy (Yh t)<;>rw[h2]at p2
  .simp only[je,q0,hl',p1,i0,jd,p2,Bool.false_and,Bool.and_false]
  .simp only[je,q0,hl',p1,i0,i1,jd,p2,p3,Bool.true_and]
def jMp(o:Ord')(t:T):Bool:=decide (t.name=[61]) && (jbB t && (KB o.syms (Yh t) && KB o.syms (Qp t)))
theorem jGK:∀t:T,tsz t<=1048576->Jv t:=by
 refine T.ind λt ih h=>?_;have h':=h;rw[kH]at h';exact(kE t).2 ⟨by omega,by omega,(ke _).2 λu hu=>ih u hu (by have:=yv hu;omega)⟩
theorem jq0{n:Nat}(h:n<=4194304):jM n 40=true:=by
 unfold jM;exact decide_eq_true ⟨by omega,by omega⟩
theorem jbW(t:T):tsz t<=1048576->G 83 [tm t]=some (tm t,[]):=by
 refine T.ind (p:=λt=>tsz t<=1048576->G 83 [tm t]=some (tm t,[])) ?_ t;intro t ih h;rw[kH]at h;have key:=(upto (P:=λi=>jup (vi i) (sv t.name) (jG t.args) (sv []) (sv t.name) [] ((t.args.take i).map jm)=some (tm t,[])) (n:=t.args.length) ?_ ?_ 0 (Nat.zero_le _))
 .rw [g83];simp only[Int.natCast_zero,List.take_zero,List.map_nil]at key;simp only[je,key]
 .rw [jEJ,List.take_length];simp only[je]
 .intro i hi ih';have hlt:(i:Int)<((t.args.length:Nat):Int):=by omega
  have h5:=jo hi (by show t.args.length<=9223372036854775807;omega)
  have e1:=ih t.args[i] (jr _) (by have:=yv (jr hi);omega)
  have hf:jM (i+1) 40=true:=jq0 (by omega);have hl:((t.args.take i).map jm).length=i:=by rw[List.length_map,List.length_take];omega
  have ha:jR ((t.args.take i).map jm) [[sv t.args[i].name,jG t.args[i].args]]=(t.args.take (i+1)).map jm:=by
   rw[show[sv t.args[i].name,jG t.args[i].args]=jm t.args[i] from(kU _).symm,List.take_add_one,j7 hi,List.map_append];rfl
  rw[jEJ];simp only[je,hlt,ja hi,jd,e1,hl,hf,ha,h5,ih']
theorem jDC(o:Ord')(s t:T):z6 o s t=0↔rk o s=rk o t/\s.args.length=t.args.length:=by
 unfold z6 ja5;constructor
 .intro h;split at h
  .rename_i h1;refine⟨h1,?_⟩;split at h
   .omega
   .split at h<;>omega
  .split at h
   .omega
   .split at h<;>omega
 .rintro ⟨h1,h2⟩;rw[jg h1,jh (by omega),jh (by omega)]
theorem jDB(o:Ord')(s:T):z6 o s s=0:=(jDC o s s).2 ⟨rfl,rfl⟩
theorem juN:∀l:Xg,fd l l=none
 | []=>rfl
 |x::l=>by rw[fd,jg (y7.2 rfl),juN l]
def Lp(o:Ord')(s t:T):Prop:=jwp o (nodes s+nodes t) s t=true
theorem jcr{s a:T}(h:a∈s.args):nodes a<nodes s:=by
 have:=ql h;rw[jO s];omega
def Kp(o:Ord')(s t:T):Prop:=Zz o (nodes s+nodes t) s t=true
theorem jdB(o:Ord'):∀(n m:Nat)(s t:T),nodes s+nodes t<=n->nodes s+nodes t<=m->Zz o n s t=Zz o m s t
 |0,_,s,t,h,_=>by have:=qz s;omega
 |_+1,0,s,t,_,h=>by have:=qz s;omega
 |n+1,m+1,s,t,h1,h2=>by
  rw[Zz,Zz];cases hf:fd s.args t.args with
  |none=>rfl
  |some p=>
   obtain⟨a,b⟩:=p;have hm:=jn1 hf;have h3:=jcr hm.1;have h4:=jcr hm.2;simp only[jdB o n m a b (by omega) (by omega)]
theorem jxQ(o:Ord')(s t:T):Kp o s t↔bal s t=true/\(wt o t<wt o s\/(wt o s=wt o t/\(js s.name=false/\js t.name=false)/\(0<z6 o s t\/(z6 o s t=0/\ ∃a b,fd s.args t.args=some (a,b)/\Kp o a b)))):=by
 unfold Kp;obtain⟨n,hn⟩:∃n,nodes s+nodes t=n+1:=⟨nodes s+nodes t-1,by have:=qz s;omega⟩;rw[hn,Zz];have e3:(match fd s.args t.args with|some (a,b)=>Zz o n a b|none=>false)=true↔ ∃a b,fd s.args t.args=some (a,b)/\Zz o (nodes a+nodes b) a b=true:=by
  cases hf:fd s.args t.args with
  |none=>simp
  |some p=>
   obtain⟨a,b⟩:=p;have hm:=jn1 hf;have h3:=jcr hm.1;have h4:=jcr hm.2;dsimp only;rw[jdB o n (nodes a+nodes b) a b (by omega) (j4 _)];constructor
   .intro h;exact⟨a,b,rfl,h⟩
   .rintro ⟨a',b',h,h'⟩;cases h;exact h'
 cases hb:bal s t
 .simp
 .rw [jg rfl];simp only[true_and];by_cases hw:wt o s=wt o t
  .rw [jg hw];have hw':¬wt o t<wt o s:=by omega
   cases hv:js s.name
   .cases hv2:js t.name
    .simp only[Bool.or_self,KI,if_false,true_and,and_self];by_cases hr:z6 o s t=0
     .rw [jg hr];refine Iff.trans e3 ?_;constructor
      .intro h;exact Or.inr ⟨hw,Or.inr ⟨hr,h⟩⟩
      .rintro (h|⟨_,h|⟨_,h⟩⟩)
       .exact (hw' h).elim
       .omega
       .exact h
     .rw [jh hr,decide_eq_true_iff];constructor
      .intro h;exact Or.inr ⟨hw,Or.inl h⟩
      .rintro (h|⟨_,h|⟨h,_⟩⟩)
       .exact (hw' h).elim
       .exact h
       .exact (hr h).elim
    .simp [hw']
   .simp [hw']
  .rw [jh hw,decide_eq_true_iff];constructor
   .intro h;exact Or.inl h
   .rintro (h|⟨h,_⟩)
    .exact h
    .exact (hw h).elim
theorem jBO{n:Xb}(hn:js n=true):∀t:T,zy t=true->(n∈kL t↔1<=cnt n t):=by
 refine T.ind λt ih hk=>?_;have hL:∀ts:Xg,(∀u∈ts,(n∈kL u↔1<=cnt n u))->(n∈z7 ts↔1<=ZT n ts):=by
  intro ts;induction ts with
  |nil=>intro _;simp[z7,ZT]
  |cons u us ih2=>
   intro h;have h1:=h u (by simp);have h2:=ih2 λv hv=>h v (by simp[hv]);simp only[z7,ZT,kW,h1,h2];omega
 have hargs:=hL t.args λu hu=>ih u hu (kO hk u hu);rw[Zm,jfY];rw[yA]at hk;cases hv:js t.name
 .have hne:t.name≠n:=λe=>by rw[e,hn]at hv;cases hv
  rw[jh Bool.false_ne_true,jh hne,hargs];omega
 .rw [hv,jg rfl]at hk;have ha:=List.isEmpty_iff.1 hk;rw[jg rfl,zx,ha];by_cases e:t.name=n
  .rw [jg e];simp[ZT,e]
  .rw [jh e];simp[ZT];exact λh=>e h.symm
theorem jr8{n:Xb} :∀t:T,n∈kL t->js n=true:=by
 refine T.ind λt ih h=>?_;rw[Zm]at h;cases hv:js t.name
 .rw [hv,jh Bool.false_ne_true]at h;have:∀ts:Xg,(∀u∈ts,n∈kL u->js n=true)->n∈z7 ts->js n=true:=by
   intro ts;induction ts with
   |nil=>intro _ h;simp[z7]at h
   |cons u us ih2=>
    intro h h2;simp only[z7,kW]at h2;rcases h2 with h2|h2
    .exact h u (by simp) h2
    .exact ih2 (λv hv=>h v (by simp[hv])) h2
  exact this t.args ih h
 .rw [hv,jg rfl,zx]at h;rw[h];exact hv
theorem jE9(o:Ord')(x:T):¬Kp o x x:=by
 intro h;obtain⟨_,h|⟨_,_,h|⟨_,_,_,h,_⟩⟩⟩:=(jxQ o x x).1 h
 .omega
 .rw [jDB]at h;omega
 .rw [juN]at h;cases h
theorem jvZ(o:Ord')(s t:T):jai o s t=jbw (dq s t) (@decide (Kp o s t) (Classical.propDecidable _)) (@decide (Kp o t s) (Classical.propDecidable _)):=by
 have e1:Zz o (nodes s+nodes t) s t = @decide (Kp o s t) (Classical.propDecidable _):=by
  unfold Kp;cases Zz o (nodes s+nodes t) s t<;>simp
 have e2:Zz o (nodes s+nodes t) t s = @decide (Kp o t s) (Classical.propDecidable _):=by
  rw[jdB o (nodes s+nodes t) (nodes t+nodes s) t s (by omega) (j4 _)];unfold Kp;cases Zz o (nodes t+nodes s) t s<;>simp
 unfold jai;rw[e1,e2]
def rbI(c:Int):Int:=if c=2 then 3 else if c=3 then 2 else c
open Classical in
open Classical in
theorem jym{R:T->T->Prop}{s t:T}(hir:∀x,¬R x x):jbw (dq s t) (decide (R s t)) (decide (R t s))=2↔R s t:=by
 unfold jbw;cases hd:dq s t
 .by_cases h1:R s t
  .simp [h1]
  .by_cases h2:R t s<;>simp[h1,h2]
 .have:=y7.1 hd;subst this;simp[hir s]
theorem jDb(o:Ord')(s t:T):jai o s t=2↔Kp o s t:=by
 rw[jvZ];exact jym (R:=Kp o) (jE9 o)
def look:List (Xb×T)->Xb->Option T
 | [],_=>none
 |p::u,n=>if p.1=n then some p.2 else look u n
def qY(u:List (Xb×T))(n:Xb):T:=(look u n).getD (.mk n [])
mutual
def sub(u:List (Xb×T)):T->T
 |.mk n us=>if js n then qY u n else .mk n (jxc u us)
def jxc(u:List (Xb×T)):Xg->Xg
 | []=>[]
 |t::ts=>sub u t::jxc u ts
end
theorem jrO(u:List (Xb×T)):∀ts:Xg,jxc u ts=ts.map (sub u)
 | []=>rfl
 |t::ts=>by rw[jxc,jrO u ts,kK]
theorem Jc{u:List (Xb×T)}{t:T}(h:js t.name=true):sub u t=qY u t.name:=by
 obtain⟨n,us⟩:=t;have h:js n=true:=h;show(if js n then qY u n else T.mk n (jxc u us))=_;rw[jg h];rfl
theorem qh{u:List (Xb×T)}{t:T}(h:js t.name=false):sub u t = .mk t.name (t.args.map (sub u)):=by
 obtain⟨n,us⟩:=t;have h:js n=false:=h;show(if js n then qY u n else T.mk n (jxc u us))=_;rw[h,jh Bool.false_ne_true,jrO];rfl
theorem jfj{u:List (Xb×T)}{t:T}(h:js t.name=false):(sub u t).name=t.name:=by rw[qh h];rfl
theorem jcc{u:List (Xb×T)}{t:T}(h:js t.name=false):(sub u t).args=t.args.map (sub u):=by rw[qh h];rfl
theorem qP{t:T}(h:zy t=true)(hv:js t.name=true):t.args=[]:=by
 rw[yA,hv,jg rfl]at h;exact List.isEmpty_iff.1 h
def jLX(f:Xb->Int):Xa->Int
 | []=>0
 |x::l=>f x+jLX f l
theorem jBA{o:Ord'}(hv:yT o=true){n:Xb}(h:o.syms.contains n=true):o.var<=jhk o n:=by
 obtain⟨k,hk,hlt⟩:=jeC h;obtain⟨h1,h2,h3,h4⟩:=Qh hv;have h5:=h4 k hlt;have hlt':k<o.ws.length:=by omega
 have e:jhk o n=o.ws.getD k 0:=by simp[jhk,hk]
 rw[e];exact h5.1
theorem jGQ{o:Ord'}(hv:yT o=true){t:T}(hc:KB o.syms t=true):o.var<=wt o t:=by
 have hc':=hc;rw[JY,jI]at hc';have hb:=(QW hv hc'.2).1;rw[jsc];cases hn:js t.name with
 |true=>simp only[qi];omega
 |false=>
  have hcn:=hc'.1;rw[hn,Bool.false_or]at hcn;have:=jBA hv hcn;simp only[KI,if_false];omega
abbrev bc(p:Xb×T):Xd:=[sv p.1,sv p.2.name,.sl 2 (p.2.args.map jm)]
abbrev ZN(u:List (Xb×T)):A:= .sl 3 (u.map bc)
abbrev sb(u:List (Xb×T)):A:= .agg [ZN u]
theorem Yy(p:Xb×T):kC 2 (.elt (bc p) 1)=some (tm p.2):=rfl
def Sz(z:Nat)(u:List (Xb×T)):Prop:=u.length<=z/\ ∀p∈u,p.1.length<=z/\tsz p.2<=z
theorem jlB(u:List (Xb×T))(hl:u.length<=1048576)(n:Xb):(look u n=none/\G 215 [sb u,sv n]=some (vi (-1),[]))\/ ∃k,∃h:k<u.length,look u n=some u[k].2/\G 215 [sb u,sv n]=some (vi (k:Nat),[]):=by
 have key:=upto (P:=λi=>(look (u.drop i) n=none/\jid (sv n) (vi i) (ZN u)=some (vi (-1),[]))\/ ∃k,∃h:k<u.length,look (u.drop i) n=some u[k].2/\jid (sv n) (vi i) (ZN u)=some (vi (k:Nat),[])) (n:=u.length) ?_ ?_ 0 (Nat.zero_le _)
 .rw [jKK];exact key
 .left;rw[List.drop_length,jzK];exact⟨rfl,by simp only[je]⟩
 .intro i hi ih;have hlt:(i:Int)<((u.length:Nat):Int):=by omega
  have h5:=jo hi (by show u.length<=9223372036854775807;omega)
  rw[jzK,ji hi,look];by_cases he:u[i].1=n
  .right;rw[jg he];exact⟨i,hi,rfl,by simp only[je,hlt,ja hi,he]⟩
  .rw [jh he];rcases ih with⟨h1,h2⟩|⟨k,hk,h1,h2⟩
   .left;exact⟨h1,by simp only[je,hlt,ja hi,he,h5,h2]⟩
   .right;exact⟨k,hk,h1,by simp only[je,hlt,ja hi,he,h5,h2]⟩
theorem KR(u:List (Xb×T))(hu:Sz 1048576 u)(t:T):tsz t<=1048576->G 178 [sb u,tm t]=some (tm (sub u t),[]):=by
 refine T.ind (p:=λt=>tsz t<=1048576->G 178 [sb u,tm t]=some (tm (sub u t),[])) ?_ t;intro t ih hs;have h:=hs;rw[kH]at h;have e1:=zL t.name (by show t.name.length<=9223372036854775807;omega);rw[jKh];cases hv:js t.name<;>rw[hv]at e1
 .have key:=(upto (P:=λi=>jm2 (vi i) (ZN u) (sv t.name) (jG t.args) (sv []) (sv t.name) [] (((t.args.map (sub u)).take i).map jm)=some (tm (sub u t),[])) (n:=t.args.length) ?_ ?_ 0 (Nat.zero_le _))
  .simp only[Int.natCast_zero,List.take_zero,List.map_nil]at key;simp only[je,e1,key]
  .rw [jzt,yN (by rw[List.length_map];omega),qh hv]
   simp only[je];rfl
  .intro i hi ih';have hlt:(i:Int)<((t.args.length:Nat):Int):=by omega
   have h5:=jo hi (by show t.args.length<=9223372036854775807;omega)
   have e2:=ih t.args[i] (jr _) (by have:=yv (jr hi);omega)
   have hf:jM (i+1) 40=true:=jq0 (by omega);have hi2:i<(t.args.map (sub u)).length:=by rw[List.length_map];exact hi
   have hl:(((t.args.map (sub u)).take i).map jm).length=i:=by rw[List.length_map,List.length_take,List.length_map];omega
   have ha:jR (((t.args.map (sub u)).take i).map jm) [[sv (sub u t.args[i]).name,jG (sub u t.args[i]).args]]=((t.args.map (sub u)).take (i+1)).map jm:=by
    rw[show[sv (sub u t.args[i]).name,jG (sub u t.args[i]).args]=jm (sub u t.args[i]) from(kU _).symm,List.take_add_one,j7 hi2,List.map_append,List.getElem_map];rfl
   generalize ((t.args.map (sub u)).take i).map jm=R at *;rw[jzt];simp only[je,hlt,ja hi,jd,e2,hl,hf,ha,h5,ih']
 .rw [Jc hv,qY];rcases jlB u hu.1 t.name with⟨h1,h2⟩|⟨k,hk,h1,h2⟩
  .rw [h1];simp only[je,e1,h2];rfl
  .rw [h1];have hm:=hu.2 _ (jr hk);have e3:=jbW u[k].2 hm.2;have hk0:(0:Int)<=((k:Nat):Int):=by omega
   simp only[je,e1,h2,hk0,ja hk,Yy,e3,Option.getD_some]
end Go.Proofs.YthlhadhipnokfaaGreatDoor
