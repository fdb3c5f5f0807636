/- Pa -/
import Derived.Test.YtkkcepmpbackoaaGreatDoorKt
import Derived.Test.YtkkcepmpbackoaaGreatDoorPq
import Derived.Test.YtkkcepmpbackoaaGreatDoorEd
import Derived.ChangeSame
namespace Go.Proofs.YtkkcepmpbackoaaGreatDoor
open Go Go.RowKit Go.Proofs.YtkkcepmpbackoaaGreatDoor.Abs
set_option linter.unusedSimpArgs false
set_option linter.unusedVariables false
abbrev ci(n:Int):Xd:=[vi n]
abbrev cs(s:Xb):Xd:=[sv s]
abbrev ints(l:Xi):A:= .sl 1 (l.map ci)
abbrev strs(l:Xa):A:= .sl 1 (l.map cs)
section
theorem jiI{α:Type}(x y:α):brn true x y=x:=rfl
theorem YP{α:Type}(x y:α):brn false x y=y:=rfl
theorem jsT{α:Type}(b:Bool)(x y:α):brn b x y=if b=true then x else y:=rfl
theorem jnj:(-1:Int)<0:=by decide
theorem jaV(b:Bool):zF (vb b)=some b:=rfl
theorem jjQ(b:Bool)(x y:A):JC (vb b) x y=some (if b=true then x else y):=rfl
theorem jvn(b w:Bool)(x:Xl):pG (vb b) w x=if b=w then x else some (.val undef):=rfl
theorem jjT(b w:Bool):JD (vb b) w=some (decide (b=w)):=rfl
theorem jrJ(w:Bool)(x:Xl):pG (.val undef) w x=some (.val undef):=rfl
theorem jjS(w:Bool):JD (.val undef) w=some false:=rfl
theorem jrK(k:Nat)(xs:Xc):zG (.sl k xs)=some (vi xs.length):=rfl
theorem jh2(xs:Xc):qS xs=vi xs.length:=rfl
theorem jeK(xs:Xc):jA xs=xs.length:=rfl
theorem Yp(l:Xb):ja0 (sv l)=some (vi l.length):=rfl
theorem jql(a:A):fin false (a,[])=some a:=rfl
theorem jwg(b c:Bool):fin c (vb b,[])=some (vb b):=by cases c<;>rfl
theorem jwh(c:Bool)(n:Int):fin c (vi n,[])=some (vi n):=by cases c<;>rfl
theorem jt0(b:Bool):Zl .not (vb b)=some (vb (!b)):=rfl
theorem jjN(b:Bool)(x y:Int):jq .lss b (vi x) (vi y)=some (vb (decide (x<y))):=rfl
theorem jrF(b:Bool)(x y:Int):jq .leq b (vi x) (vi y)=some (vb (decide (x<=y))):=rfl
theorem jrE(b:Bool)(x y:Int):jq .gtr b (vi x) (vi y)=some (vb (decide (y<x))):=rfl
theorem jrD(b:Bool)(x y:Int):jq .geq b (vi x) (vi y)=some (vb (decide (y<=x))):=rfl
theorem jjM(b:Bool)(x y:Int):jq .eql b (vi x) (vi y)=some (vb (decide (x=y))):=rfl
theorem jrH(b:Bool)(x y:Int):jq .neq b (vi x) (vi y)=some (vb (!decide (x=y))):=rfl
theorem jot(b:Bool)(x y:Int):jq .lss b (vy x) (vy y)=some (vb (decide (x<y))):=rfl
theorem jos(b:Bool)(x y:Int):jq .leq b (vy x) (vy y)=some (vb (decide (x<=y))):=rfl
theorem jor(b:Bool)(x y:Int):jq .gtr b (vy x) (vy y)=some (vb (decide (y<x))):=rfl
theorem joq(b:Bool)(x y:Int):jq .geq b (vy x) (vy y)=some (vb (decide (y<=x))):=rfl
theorem jop(b:Bool)(x y:Int):jq .eql b (vy x) (vy y)=some (vb (decide (x=y))):=rfl
theorem jou(b:Bool)(x y:Int):jq .neq b (vy x) (vy y)=some (vb (!decide (x=y))):=rfl
theorem jov(x y:Bool):jq .eql true (vb x) (vb y)=some (vb (decide (x=y))):=rfl
theorem jow(x y:Bool):jq .neq true (vb x) (vb y)=some (vb (!decide (x=y))):=rfl
theorem Zf(b:Bool)(x y:Int):jq .add b (vi x) (vi y)=ck (x+y):=by cases b<;>rfl
theorem jjO(b:Bool)(x y:Int):jq .sub b (vi x) (vi y)=ck (x-y):=by cases b<;>rfl
theorem jrG(b:Bool)(x y:Int):jq .mul b (vi x) (vi y)=ck (x*y):=by cases b<;>rfl
theorem jZ{n:Int}(h1: -9223372036854775808<=n)(h2:n<=9223372036854775807):ck n=some (vi n):=if_pos ⟨h1,h2⟩
theorem Zg(b:Bool)(x y:Xb):jq .add b (sv x) (sv y)=if x.length+y.length<=9223372036854775807 then some (sv (x++y))else none:=by cases b<;>rfl
theorem jbS(b:Bool)(x y:Xb):jq .eql b (sv x) (sv y)=some (vb (decide (x=y))):=rfl
theorem joA(b:Bool)(x y:Xb):jq .neq b (sv x) (sv y)=some (vb (!decide (x=y))):=rfl
theorem joz(b:Bool)(x y:Xb):jq .lss b (sv x) (sv y)=some (vb (zz x y)):=rfl
theorem jrM(a:A)(l:Xd):kU (.elt (a::l) 0)=some a:=rfl
theorem yN(cs:Xd)(off n:Nat):Jk (.elt cs off) n=some (.elt cs (off+n)):=rfl
theorem jlJ(off:Nat)(cs:Xd):jey off (.agg cs)=cs[off]? :=rfl
theorem jlI(n:Nat)(ds:Xd):QU n (.agg ds)=if ds.length=n/\ds.all jQ=true then some ds else none:=rfl
theorem jnP(a:A)(l:Xd):jc (a::l) 0=a:=rfl
theorem jpT(a b:A)(l:Xd):jc (a::b::l) 1=b:=rfl
theorem jpU(a b c:A)(l:Xd):jc (a::b::c::l) 2=c:=rfl
theorem jk2(a b c d:A)(l:Xd):jc (a::b::c::d::l) 3=d:=rfl
theorem jwt(k:Nat)(xs:Xc):jQ (.sl k xs)=true:=rfl
theorem jtP(cs:Xd)(o:Nat):jQ (.elt cs o)=true:=rfl
theorem jws(f:FuncId)(l:Xd):jQ (.fn f l)=true:=rfl
theorem jww(n:Int):jQ (vi n)=true:=rfl
theorem jwv(b:Bool):jQ (vb b)=true:=rfl
theorem jwu(l:Xb):jQ (sv l)=true:=rfl
theorem jwA(n:Nat)(i:Int):ZB n (vi i)=if 0<=i/\i<(n:Int)then some i.toNat else none:=rfl
theorem zR{n i:Nat}(h:i<n):ZB n (vi i)=some i:=by
 rw[jwA,if_pos ⟨by omega,by omega⟩];simp
theorem jrQ(k:Nat)(xs:Xc):Kf k (.sl k xs)=some xs:=if_pos rfl
theorem jwD(a:A)(l:Xd):jeA (.tup (a::l)) 0=some a:=rfl
theorem jwE(a b:A)(l:Xd):jeA (.tup (a::b::l)) 1=some b:=rfl
theorem jwF(a b c:A)(l:Xd):jeA (.tup (a::b::c::l)) 2=some c:=rfl
theorem jtY(x y:Int):jlK (vi x) (vi y)=some (vi (if x<y then y else x)):=by
 unfold jlK;simp
theorem jtZ(x y:Int):joB (vi x) (vi y)=some (vi (if y<x then y else x)):=by
 unfold joB;simp
theorem jxX(a:A)(l:Xd)(i:Nat):hD (a,l) i=l[i]? :=rfl
theorem jAs(k:Nat)(a:A)(xs:Xc)(l:Xd):hR k (a,.sl k xs::l) 0=some xs:=by simp[hR]
theorem jAt(k:Nat)(a b:A)(xs:Xc)(l:Xd):hR k (a,b:: .sl k xs::l) 1=some xs:=by simp[hR]
theorem jAu(k:Nat)(a b c:A)(xs:Xc)(l:Xd):hR k (a,b::c:: .sl k xs::l) 2=some xs:=by simp[hR]
theorem Je{f:FuncId}{caps args:Xd}{c:Bool}(h:K.pureF f=true):DX.run K (MM K) (.callc (.fn f caps) args c)=(G f (args++caps)).bind (fin c):=by
 simp only[DX.run,h,if_true]
theorem jb{α:Type}{k:Nat}{f:α->Xd}{xs:List α}{i:Nat}(h:i<xs.length):jz k (.sl k (xs.map f)) (vi i)=some (.elt (f xs[i]) 0):=by
 simp only[jz,if_true,List.length_map,zR h,Option.map_some];simp[List.getD_eq_getElem?_getD,h]
theorem jy{i n:Nat}(h:i<n)(hn:n<=9223372036854775807):jq .add false (vi i) (vi 1)=some (vi ((i+1:Nat):Int)):=by
 rw[Zf,jZ (by omega) (by omega)];rfl
theorem jk6{b:Int}{n:Nat}(h0:0<=b)(h1:b<=9223372036854775807)(hn:n<=9223372036854775807):ck (b-n)=some (vi (b-n)):=jZ (by omega) (by omega)
theorem jyk(d top:Nat)(z:Int):pB d top (some (vi z))=if 0<=z/\z<=(top:Int)then some z.toNat else none:=rfl
theorem yO{d top n:Nat}(h:n<=top):pB d top (some (vi n))=some n:=by
 rw[jyk,if_pos ⟨by omega,by omega⟩];simp
theorem jbs{d top:Nat}(h:d<=top):pB d top none=some d:=if_pos h
theorem jt2(xs:Xc):zS xs=xs.length:=rfl
theorem yk(xs:Xc)(off:Nat):kY xs off=xs.length-off:=rfl
theorem jCs(ys:Xc)(n:Nat):jAG ys n=vi (min ys.length n:Nat):=rfl
theorem jBJ(ys:Xc)(n:Nat):jyo ys n=ys.take n:=rfl
theorem jdg(xs:Xc)(off n:Nat):yi xs off n=(xs.drop off).take n:=rfl
theorem ja4(xs:Xc)(off:Nat)(ys:Xc):yd xs off ys=xs.take off++ys++xs.drop (off+ys.length):=rfl
theorem yP(a b:Nat):j6 a b=a-b:=rfl
theorem upto{P:Nat->Prop}{n:Nat}(h0:P n)(hs:∀i,i<n->P (i+1)->P i):∀i,i<=n->P i:=by
 intro i hi;obtain⟨k,hk⟩:∃k,n=i+k:=⟨n-i,by omega⟩;induction k generalizing i with
 |zero=>rw[show i=n by omega];exact h0
 |succ k ih=>exact hs i (by omega) (ih (i+1) (by omega) (by omega))
theorem js{α:Type}{xs:List α}{i:Nat}(h:i<xs.length):xs.drop i=xs[i]::xs.drop (i+1):=List.drop_eq_getElem_cons h
theorem evs :
  ((-1:Int)<0)/\
  (∀{α:Type}(x y:α),brn true x y=x)/\
  (∀{α:Type}(x y:α),brn false x y=y)/\
  (∀{α:Type}(b:Bool)(x y:α),brn b x y=if b=true then x else y)/\
  (∀{α β:Type}(a:α)(f:α->Option β),(some a).bind f=f a)/\
  (∀{α β:Type}(f:α->Option β),none.bind f=none)/\
  (∀(b:Bool),zF (vb b)=some b)/\
  (∀(b:Bool)(x y:A),JC (vb b) x y=some (if b=true then x else y))/\
  (∀(b w:Bool)(x:Xl),pG (vb b) w x=if b=w then x else some (A.val undef))/\
  (∀(b w:Bool),JD (vb b) w=some (decide (b=w)))/\
  (∀(w:Bool)(x:Xl),pG (A.val undef) w x=some (A.val undef))/\
  (∀(w:Bool),JD (A.val undef) w=some false)/\
  (∀(k:Nat)(xs:Xc),zG (A.sl k xs)=some (vi ↑xs.length))/\
  (∀(xs:Xc),qS xs=vi ↑xs.length)/\
  (∀(xs:Xc),jA xs=xs.length)/\
  (∀(l:Xb),ja0 (sv l)=some (vi ↑l.length))/\
  (∀(a:A),fin false (a,[])=some a)/\
  (∀(b c:Bool),fin c (vb b,[])=some (vb b))/\
  (∀(c:Bool)(n:Int),fin c (vi n,[])=some (vi n))/\
  (∀(b:Bool),Zl UnOp.not (vb b)=some (vb !b))/\
  (∀(b:Bool)(x y:Int),jq BinOp.lss b (vi x) (vi y)=some (vb (decide (x<y))))/\
  (∀(b:Bool)(x y:Int),jq BinOp.leq b (vi x) (vi y)=some (vb (decide (x<=y))))/\
  (∀(b:Bool)(x y:Int),jq BinOp.gtr b (vi x) (vi y)=some (vb (decide (y<x))))/\
  (∀(b:Bool)(x y:Int),jq BinOp.geq b (vi x) (vi y)=some (vb (decide (y<=x))))/\
  (∀(b:Bool)(x y:Int),jq BinOp.eql b (vi x) (vi y)=some (vb (decide (x=y))))/\
  (∀(b:Bool)(x y:Int),jq BinOp.neq b (vi x) (vi y)=some (vb !decide (x=y)))/\
  (∀(b:Bool)(x y:Int),jq BinOp.lss b (vy x) (vy y)=some (vb (decide (x<y))))/\
  (∀(b:Bool)(x y:Int),jq BinOp.leq b (vy x) (vy y)=some (vb (decide (x<=y))))/\
  (∀(b:Bool)(x y:Int),jq BinOp.gtr b (vy x) (vy y)=some (vb (decide (y<x))))/\
  (∀(b:Bool)(x y:Int),jq BinOp.geq b (vy x) (vy y)=some (vb (decide (y<=x))))/\
  (∀(b:Bool)(x y:Int),jq BinOp.eql b (vy x) (vy y)=some (vb (decide (x=y))))/\
  (∀(b:Bool)(x y:Int),jq BinOp.neq b (vy x) (vy y)=some (vb !decide (x=y)))/\
  (∀(x y:Bool),jq BinOp.eql true (vb x) (vb y)=some (vb (decide (x=y))))/\
  (∀(x y:Bool),jq BinOp.neq true (vb x) (vb y)=some (vb !decide (x=y)))/\
  (∀(b:Bool)(x y:Int),jq BinOp.add b (vi x) (vi y)=ck (x+y))/\
  (∀(b:Bool)(x y:Int),jq BinOp.sub b (vi x) (vi y)=ck (x-y))/\
  (∀(b:Bool)(x y:Int),jq BinOp.mul b (vi x) (vi y)=ck (x*y))/\
  (∀(b:Bool)(x y:Xb),jq BinOp.eql b (sv x) (sv y)=some (vb (decide (x=y))))/\
  (∀(b:Bool)(x y:Xb),jq BinOp.neq b (sv x) (sv y)=some (vb !decide (x=y)))/\
  (∀(b:Bool)(x y:Xb),jq BinOp.lss b (sv x) (sv y)=some (vb (zz x y)))/\
  (∀(a:A)(l:Xd),kU (A.elt (a::l) 0)=some a)/\
  (∀(cs:Xd)(off n:Nat),Jk (A.elt cs off) n=some (A.elt cs (off+n)))/\
  (∀(off:Nat)(cs:Xd),jey off (A.agg cs)=cs[off]?)/\
  (∀(n:Nat)(ds:Xd),QU n (A.agg ds)=if ds.length=n/\ds.all jQ=true then some ds else none)/\
  (∀(a:A)(l:Xd),jc (a::l) 0=a)/\
  (∀(a b:A)(l:Xd),jc (a::b::l) 1=b)/\
  (∀(a b c:A)(l:Xd),jc (a::b::c::l) 2=c)/\
  (∀(a b c d:A)(l:Xd),jc (a::b::c::d::l) 3=d)/\
  (∀(k:Nat)(xs:Xc),jQ (A.sl k xs)=true)/\
  (∀(cs:Xd)(o:Nat),jQ (A.elt cs o)=true)/\
  (∀(f:FuncId)(l:Xd),jQ (A.fn f l)=true)/\
  (∀(n:Int),jQ (vi n)=true)/\
  (∀(b:Bool),jQ (vb b)=true)/\
  (∀(l:Xb),jQ (sv l)=true)/\
  (∀(k:Nat)(xs:Xc),Kf k (A.sl k xs)=some xs)/\
  (∀(a:A)(l:Xd),jeA (A.tup (a::l)) 0=some a)/\
  (∀(a b:A)(l:Xd),jeA (A.tup (a::b::l)) 1=some b)/\
  (∀(a b c:A)(l:Xd),jeA (A.tup (a::b::c::l)) 2=some c)/\
  (∀(x y:Int),jlK (vi x) (vi y)=some (vi (if x<y then y else x)))/\
  (∀(x y:Int),joB (vi x) (vi y)=some (vi (if y<x then y else x)))/\
  (∀(a:A)(l:Xd)(i:Nat),hD (a,l) i=l[i]?)/\
  (∀(k:Nat)(a:A)(xs:Xc)(l:Xd),hR k (a,A.sl k xs::l) 0=some xs)/\
  (∀(k:Nat)(a b:A)(xs:Xc)(l:Xd),hR k (a,b::A.sl k xs::l) 1=some xs)/\
  (∀(k:Nat)(a b c:A)(xs:Xc)(l:Xd),hR k (a,b::c::A.sl k xs::l) 2=some xs)/\
  (∀{α:Type}{a:α}{l:List α}{f:α->Bool},(a::l).all f=(f a && l.all f))/\
  (∀{α:Type}{f:α->Bool},([]:List α).all f=true)/\
  (∀{α:Type}{a:α}{l:List α},(a::l).length=l.length+1)/\
  (∀{α:Type},([]:List α).length=0)/\
  (∀{α β:Type}{l:List α}(f:α->β),(List.map f l).length=l.length)/\
  (∀(n:Nat),0+n=n)/\
  (∀(b:Bool),(b && b)=b)/\
  (∀(b:Bool),(b && true)=b)/\
  (∀(p:Prop),(p/\p)=p)/\
  (∀{α:Type}{_x:Decidable True}(t e:α),(if True then t else e)=t)/\
  (∀{α:Type}{_x:Decidable False}(t e:α),(if False then t else e)=e)/\
  ((true=false)=False)/\
  ((false=true)=False)/\
  (∀(_h:Decidable True),decide True=true)/\
  (∀(_h:Decidable False),decide False=false)/\
  ((!true)=false)/\
  ((!false)=true)/\
  (∀(b:Bool),((!b)=true)=(b=false))/\
  (∀{p:Prop} [Decidable p],(decide p=true)=p)/\
  (∀{p:Prop}{x:Decidable p},decide p=false↔ ¬p)/\
  (∀(a:Int),¬a<a)/\
  ((¬True)=False)/\
  ((¬False)=True)/\
  (∀{α:Type}(a b:α),(if True then a else b)=a)/\
  (∀{α:Type}(a b:α),(if False then a else b)=b):=
 ⟨@jnj,@jiI,@YP,@jsT,@Option.bind_some.{0,0},@Option.bind_none.{0,0},@jaV,@jjQ,@jvn,@jjT,@jrJ,@jjS,@jrK,@jh2,@jeK,@Yp,@jql,@jwg,@jwh,@jt0,@jjN,@jrF,@jrE,@jrD,@jjM,@jrH,@jot,@jos,@jor,@joq,@jop,@jou,@jov,@jow,@Zf,@jjO,@jrG,@jbS,@joA,@joz,@jrM,@yN,@jlJ,@jlI,@jnP,@jpT,@jpU,@jk2,@jwt,@jtP,@jws,@jww,@jwv,@jwu,@jrQ,@jwD,@jwE,@jwF,@jtY,@jtZ,@jxX,@jAs,@jAt,@jAu,@List.all_cons.{0},@List.all_nil.{0},@List.length_cons.{0},@List.length_nil.{0},@List.length_map.{0,0},@Nat.zero_add,@Bool.and_self,@Bool.and_true,@and_self,@if_true.{1},@if_false.{1},@Bool.true_eq_false,@Bool.false_eq_true,@decide_true,@decide_false,@Bool.not_true,@Bool.not_false,@Bool.not_eq_true',@decide_eq_true_eq,@decide_eq_false_iff_not,@Int.lt_irrefl,@not_true_eq_false,@not_false_eq_true,@ite_true.{1},@ite_false.{1}⟩
end
theorem jxS:(∀{α:Type}{h:Decidable True}(a b:α),@ite α True h a b=a)/\(∀{α:Type}{h:Decidable False}(a b:α),@ite α False h a b=b)/\(1+1=2/\1+2=3/\1+3=4/\1+4=5/\2+1=3/\2+2=4/\2+3=5/\2+4=6/\3+1=4/\3+2=5/\3+3=6/\3+4=7/\4+1=5/\4+2=6/\4+3=7/\4+4=8/\5+1=6/\5+2=7/\5+3=8/\5+4=9/\6+1=7/\6+2=8/\6+3=9/\6+4=10/\7+1=8/\7+2=9/\7+3=10/\7+4=11/\8+1=9/\8+2=10/\8+3=11/\8+4=12/\9+1=10/\9+2=11/\9+3=12/\9+4=13/\10+1=11/\10+2=12/\10+3=13/\10+4=14/\11+1=12/\11+2=13/\11+3=14/\11+4=15/\12+1=13/\12+2=14/\12+3=15/\12+4=16):=by refine⟨?_,?_,by decide⟩<;>intros<;>simp
theorem jg:type_of% (And.intro evs (And.intro cev jxS)):=And.intro evs (And.intro cev jxS)
open Go Go.RowKit Go.ChangeShapes Go.Deep Go.Proofs.YtkkcepmpbackoaaGreatDoor.Abs
section
variable{P:Program}{t:Nat}{H:Type}{enc:TypeId×Value->H}{w:World}{base:Nat}{spare:Nat->Bool}{held:Bool}{fuel:Nat}{cs:Xh}{x:DataW H×List MemPlace}
theorem jl2{α:Type}{g0:α->Xd}{p0:α->Prop}{f0:Field}{k0:Nat}(ht:P.underlying t=some (.struct #[f0]))
  (o0:f0.offset=0) (c0:P.cellsOf f0.type=k0) (c:P.cellsOf t=k0)
  (h0:∀n cs x,n<fuel->DataW.trod enc P w base spare held n f0.type cs=some x-> ∃a,p0 a/\jp w (λ_=>False) (g0 a) cs/\jo cs)
  (h:DataW.trod enc P w base spare held fuel t cs=some x):∃a,p0 a/\jp w (λ_=>False) (g0 a) cs/\jo cs:=by
 obtain⟨xs,n,hfn,rfl,hl,hlen,hf⟩:=DataW.trod_struct ht h;have e0:=hf 0 f0 rfl;rw[o0,c0]at e0;have hlen:xs.length=1:=hlen;have hx0:xs[0]? = some xs[0]:=List.getElem?_eq_getElem (by omega);rw[hx0]at e0;obtain⟨a,q1,q2,q3⟩:=h0 n _ _ (by omega) e0;rw[List.drop_zero,List.take_of_length_le (by omega)]at q2 q3;exact⟨a,q1,q2,q3⟩
theorem jl3{α β:Type}{g0:α->Xd}{g1:β->Xd}{p0:α->Prop}{p1:β->Prop}{f0 f1:Field}{k0 k1:Nat}(ht:P.underlying t=some (.struct #[f0,f1]))
  (o0:f0.offset=0) (o1:f1.offset=k0) (c0:P.cellsOf f0.type=k0) (c1:P.cellsOf f1.type=k1) (c:P.cellsOf t=k0+k1)
  (h0:∀n cs x,n<fuel->DataW.trod enc P w base spare held n f0.type cs=some x-> ∃a,p0 a/\jp w (λ_=>False) (g0 a) cs/\jo cs)
  (h1:∀n cs x,n<fuel->DataW.trod enc P w base spare held n f1.type cs=some x-> ∃a,p1 a/\jp w (λ_=>False) (g1 a) cs/\jo cs)
  (h:DataW.trod enc P w base spare held fuel t cs=some x):∃a b,p0 a/\p1 b/\jp w (λ_=>False) (g0 a++g1 b) cs/\jo cs:=by
 obtain⟨xs,n,hfn,rfl,hl,hlen,hf⟩:=DataW.trod_struct ht h;have e0:=hf 0 f0 rfl;have e1:=hf 1 f1 rfl;rw[o0,c0]at e0;rw[o1,c1]at e1;have hlen:xs.length=2:=hlen;have hx0:xs[0]? = some xs[0]:=List.getElem?_eq_getElem (by omega);have hx1:xs[1]? = some xs[1]:=List.getElem?_eq_getElem (by omega);rw[hx0]at e0;rw[hx1]at e1;obtain⟨a,q1,q2,q3⟩:=h0 n _ _ (by omega) e0;obtain⟨b,r1,r2,r3⟩:=h1 n _ _ (by omega) e1;have e:cs=(cs.drop 0).take k0++(cs.drop k0).take k1:=by
  rw[List.take_of_length_le (l:=cs.drop k0) (by simp;omega),List.drop_zero,List.take_append_drop]
 rw[e];exact⟨a,b,q1,r1,kJ q2 r2,jo.append q3 r3⟩
end
inductive T where
 |mk (name:Xb) (args:List T)
abbrev Xg:=List T
def T.name:T->Xb|.mk n _=>n
def T.args:T->Xg|.mk _ us=>us
theorem T.eta(t:T):T.mk t.name t.args=t:=by cases t;rfl
mutual
def jm:T->Xd
 |.mk n us=>[sv n,.sl 2 (jdj us)]
def jdj:Xg->Xc
 | []=>[]
 |t::ts=>jm t::jdj ts
end
theorem YE:∀ts:Xg,jdj ts=ts.map jm
 | []=>rfl
 |t::ts=>by simp[jdj,YE ts]
theorem kR(t:T):jm t=[sv t.name,.sl 2 (t.args.map jm)]:=by
 cases t;simp[jm,T.name,T.args,YE]
theorem jfy(t:T):(jm t).length=2:=by rw[kR];rfl
abbrev tm(t:T):A:= .agg [sv t.name,.sl 2 (t.args.map jm)]
abbrev jS(ts:Xg):A:= .sl 2 (ts.map jm)
theorem ji(t:T):jbr 2 (.elt (jm t) 0)=some (.agg [sv t.name,.sl 2 (t.args.map jm)]):=by rw[kR];rfl
mutual
def tsz:T->Nat
 |.mk n us=>n.length+us.length+JP us
def JP:Xg->Nat
 | []=>0
 |t::ts=>tsz t+JP ts
end
theorem ze(t:T):tsz t=t.name.length+t.args.length+JP t.args:=by cases t;simp[tsz,T.name,T.args]
theorem yQ:∀{ts:Xg}{t:T},t∈ts->tsz t<=JP ts
 | [],_,h=>by cases h
 |u::us,t,h=>by
  simp only[JP];rcases List.mem_cons.1 h with rfl|h
  .omega
  .have:=yQ h;omega
mutual
def KZ:T->Prop
 |.mk n us=>n.length<=9223372036854775807/\us.length<=9223372036854775807/\jpc us
def jpc:Xg->Prop
 | []=>True
 |t::ts=>KZ t/\jpc ts
end
theorem kQ(t:T):KZ t↔t.name.length<=9223372036854775807/\t.args.length<=9223372036854775807/\jpc t.args:=by cases t;simp[KZ,T.name,T.args]
theorem kK:∀ts:Xg,jpc ts↔ ∀t∈ts,KZ t
 | []=>by simp[jpc]
 |t::ts=>by simp[jpc,kK ts]
theorem T.ind{p:T->Prop}(h:∀t,(∀u∈t.args,p u)->p t):∀t,p t:=by
 intro t;induction hn:SizeOf.sizeOf t using Nat.strongRecOn generalizing t with
 |ind n ih=>
  subst hn;refine h t λu hu=>ih (SizeOf.sizeOf u) ?_ u rfl;cases t with
  |mk nm us=>
   have:=List.sizeOf_lt_of_mem hu;simp only[T.args]at this;simp only[T.mk.sizeOf_spec];omega
section
variable{P:Program}{tT tS:Nat}
theorem joL{H:Type}{enc:TypeId×Value->H}{w:World}{base:Nat}{spare:Nat->Bool}{held:Bool}{f0 f1:Field}(ht:P.underlying tT=some (.struct #[f0,f1]))(h0:P.underlying f0.type=some .string)(h1:P.underlying f1.type=some (.slice tT))
  (o0:f0.offset=0) (o1:f1.offset=1) (c0:P.cellsOf f0.type=1) (c1:P.cellsOf f1.type=1) (c2:P.cellsOf tT=2) :
  ∀(fuel:Nat)(cs:Xh)(x:DataW H×List MemPlace),DataW.trod enc P w base spare held fuel tT cs=some x-> ∃t,KZ t/\jp w (λ_=>False) (jm t) cs/\jo cs:=by
 intro fuel;induction fuel using Nat.strongRecOn with
 |ind fuel ih=>
  intro cs x h;obtain⟨xs,n,hfn,rfl,hl,hlen,hf⟩:=DataW.trod_struct ht h;have e0:=hf 0 f0 rfl;have e1:=hf 1 f1 rfl;rw[o0,c0]at e0;rw[o1,c1]at e1;rw[c2]at hl
  match cs,hl with
  | [u,v],_=>
   match xs,hlen with
   | [y0,y1],_=>
    simp only[List.drop_zero,List.take_succ_cons,List.take_zero,List.getElem?_cons_zero]at e0;simp only[List.drop_succ_cons,List.drop_zero,List.take_succ_cons,List.take_zero,List.getElem?_cons_succ,List.getElem?_cons_zero]at e1;obtain⟨s,hs,_,hsz⟩:=DataW.trod_string h0 e0;obtain⟨ts,⟨hts,htl⟩,hr,ho⟩:=jkq (P:=P) (t:=f1.type) (e:=tT) (f:=jm) (p:=KZ) jfy (by decide) h1 c2 (λm cs' x' hm hx'=>ih m (by omega) cs' x' hx') e1;have hbs:∀s:ByteArray,(⟨⟨bs s⟩⟩:ByteArray)=s:=λs=>rfl;refine⟨.mk (bs s) ts,by simp only[KZ];exact⟨by show(bs s).length<=_;rw[<-Y8];simpa[maxLen]using hsz,htl,(kK ts).2 hts⟩,?_,?_⟩
    .simp only[jm,YE];simp only[List.cons.injEq,and_true]at hs;subst hs;simp only[jp,List.cons.injEq]at hr;obtain⟨v',r',⟨rfl,rfl⟩,h3,_⟩:=hr;simp only[jp];exact⟨_,_,rfl,by simp[rel,hbs],_,_,rfl,h3,rfl⟩
    .simp only[List.cons.injEq,and_true]at hs;subst hs;intro z hz;rcases List.mem_cons.1 hz with rfl|hz
     .simp [Value.oneCell']
     .exact ho z hz
end
theorem jt5:Rdr Tryz.prog 56 jm KZ:=λ_ _ _ _ _ _ fuel cs x h=>
 joL Tryz.underlying56 Tryz.underlying9 Tryz.underlying35 rfl rfl (by kernel_rfl) (by kernel_rfl) (by kernel_rfl) fuel cs x h
theorem jt3:Rdr Tryz.prog 4 (λb=>[vb b]) (λ_=>True):=Rdr.bool Tryz.underlying4
structure Ord' where
 syms:Xa
 ws:Xi
 var:Int
abbrev jAB(o:Ord'):Xd:=[strs o.syms,ints o.ws,vi o.var]
abbrev od(o:Ord'):A:= .agg [strs o.syms,ints o.ws,vi o.var]
def owf(o:Ord'):Prop:=((∀s∈o.syms,s.length<=9223372036854775807)/\o.syms.length<=9223372036854775807)/\((∀x∈o.ws,I64 x)/\o.ws.length<=9223372036854775807)/\I64 o.var
set_option maxHeartbeats 1000000
def kL(left n:Int):Int:=if 0<=left-n then left-n else -1
theorem qJ{left n:Int}(h:left<n):kL left n = -1:=if_neg (by omega)
theorem jbK{left n:Int}(h:n<=left):kL left n=left-n:=if_pos (by omega)
theorem jei{b:Int}(h:0<=b):kL b ((0:Nat):Int)=b:=by unfold kL;simp[h]
theorem YX(b m n:Int):kL (b-m) n=kL b (m+n):=by unfold kL;rw[Int.sub_sub]
theorem jeh(b n:Int): -1<=kL b n:=by unfold kL;split<;>omega
theorem jga{b m n:Int}(h:m<=b):kL (kL b m) n=kL b (m+n):=by rw[jbK h,YX]
def part{α:Type}(f:α->Xd)(z:Xd)(xs:List α)(i:Nat):Xc:=(xs.take i).map f++List.replicate (xs.length-i) z
section
variable{α:Type}{f:α->Xd}{z:Xd}{xs:List α}
theorem Y2:JM xs.length z=part f z xs 0:=by simp[part,JM]
theorem ja1:part f z xs xs.length=xs.map f:=by simp[part]
theorem KE{i:Nat}(h:i<=xs.length):(part f z xs i).length=xs.length:=by simp[part];omega
theorem ja2{i:Nat}(h:i<xs.length):ZY (part f z xs i) i=some z:=by
 unfold ZY part;rw[List.getElem?_append_right (by simp;omega)];simp;rw[List.getElem?_replicate,if_pos (by omega)]
theorem ja3{i:Nat}(h:i<xs.length):yh (part f z xs i) i (f xs[i])=part f z xs (i+1):=by
 unfold yh part;have e:xs.length-i=(xs.length-(i+1))+1:=by omega
 rw[List.set_append_right _ _ (by simp;omega),e,List.replicate_succ]
 simp only[List.length_map,List.length_take,Nat.min_eq_left (Nat.le_of_lt h),Nat.sub_self,List.set_cons_zero];rw[<-List.take_append_getElem h,List.map_append];simp
end
theorem jc9(a b c d:A):zf [a,b] 0 [c,d]=[c,d]:=rfl
theorem Y1{b n:Nat}(hb:(b:Int)*(n:Int)<=281474976710656)(hn:n<=1048576):jcH b (vi n) (vi n)=some n:=by
 show(if _ then _ else _)=_;rw[if_pos (show jvB b n n from⟨by omega,Int.le_refl _,hb,by omega⟩),Int.toNat_natCast]
theorem Yr{k:Nat}{xs:Xc}{i:Nat}(h:i<=xs.length):yt k (.sl k xs) none (some (vi i))=some (.sl k (xs.take i)):=by
 simp only[yt,qO,Option.bind_some];rw[if_pos ⟨trivial,Int.le_refl _,by omega,by omega⟩];simp
theorem Yq{k:Nat}{xs:Xc}{i:Nat}(h:i<=xs.length):yt k (.sl k xs) (some (vi i)) none=some (.sl k (xs.drop i)):=by
 simp only[yt,qO,Option.bind_some];rw[if_pos ⟨trivial,by omega,by omega,by omega⟩];simp
def jAw(k:Int):Nat->Xi
 |0=>[]
 |n+1=>k::jAw (k+1) n
section
variable{α:Type}{f:α->Xd}(M r:List α)(x:α)
theorem jjC{k:Nat} :jz k (.sl k ((M++x::r).map f)) (vi (M.length:Nat))=some (.elt (f x) 0):=by
 rw[jb (by simp)];simp
theorem jrn:((M.length:Nat):Int)<(((M++x::r).length:Nat):Int):=by simp only[List.length_append,List.length_cons];omega
end
section
variable(M R:Xc)(x y:Xd)
theorem jbd:ZY (M++x::R) M.length=some x:=by
 unfold ZY;rw[List.getElem?_append_right (Nat.le_refl _)];simp
theorem jbe:yh (M++x::R) M.length y=M++y::R:=by
 unfold yh;rw[List.set_append_right _ _ (by simp)];simp
theorem jeW:ZB (M++x::R).length (vi (M.length:Nat))=some M.length:=zR (by simp)
end
def jsh:Xa->Nat
 | []=>0
 |s::l=>s.length+jsh l
def osz(o:Ord'):Nat:=o.syms.length+jsh o.syms+o.ws.length
theorem jsk(ts:Xg)(hl:ts.length<=9223372036854775807)(ih:∀t∈ts,∀left:Int,0<=left->left<=1048576->G 33 [tm t,vi left]=some (vi (kL left ((tsz t:Nat):Int)),[]))
  (left:Int) (h0:0<=left) (h1:left<=1048576):G 13 [jS ts,vi left]=some (vi (kL left ((ts.length+JP ts:Nat):Int)),[]):=by
 have loop:∀(a:Int),0<=a->a<=1048576->jiq (jS ts) (vi a) (vi 0)=some (vi (kL a (JP ts)),[]):=by
  have key:=(upto (P:=λi=>∀a:Int,0<=a->a<=1048576->jiq (jS ts) (vi a) (vi i)=some (vi (kL a (JP (ts.drop i))),[])) (n:=ts.length) ?_ ?_ 0 (Nat.zero_le _))
  .simp only[List.drop_zero,Int.natCast_zero]at key;exact key
  .intro b hb hb';rw[juT,List.drop_length];simp only[jg,JP];rw[jei hb]
  .intro i hi ih' b hb hb';have e1:=ih ts[i] (List.getElem_mem _) b hb hb';rw[juT,js hi];simp only[jg,hi,Int.ofNat_lt,jb hi,ji,e1,jy hi hl,JP];by_cases hc:b<(tsz ts[i]:Nat)
   .rw [qJ hc,qJ (by omega)];rfl
   .have hp:=jbK (Int.not_lt.1 hc);have ih':=ih' (kL b (tsz ts[i]:Nat)) (by omega) (by omega);have hn:¬kL b ((tsz ts[i]:Nat):Int)<0:=by omega
    simp only[jg,hn,ih'];rw[jga (Int.not_lt.1 hc),<-Int.natCast_add]
 have hk:=jk6 h0 (Int.le_trans h1 (by decide)) hl;rw[g13];simp only[jg,hk];by_cases hc:left-ts.length<0
 .simp only[jg,hc];rw[qJ (by omega)]
 .have hl:=loop (left-ts.length) (by omega) (by omega);simp only[jg,hc,hl];rw[YX,<-Int.natCast_add]
theorem jur(t:T):KZ t-> ∀left:Int,0<=left->left<=1048576->G 33 [tm t,vi left]=some (vi (kL left ((tsz t:Nat):Int)),[]):=by
 refine T.ind (p:=λt=>KZ t-> ∀left:Int,0<=left->left<=1048576->G 33 [tm t,vi left]=some (vi (kL left ((tsz t:Nat):Int)),[])) ?_ t;intro t ih hw left h0 h1;obtain⟨w1,w2,w3⟩:=(kQ t).1 hw;have w3:=(kK _).1 w3;have hk:=jk6 h0 (Int.le_trans h1 (by decide)) w1;rw[g33,ze];simp only[jg,hk];by_cases hc:left-t.name.length<0
 .simp only[jg,hc];rw[qJ (by omega)]
 .have e2:=jsk t.args w2 (λu hu=>ih u hu (w3 u hu)) (left-t.name.length) (by omega) (by omega);simp only[jg,hc,e2];rw[YX,<-Int.natCast_add,<-Nat.add_assoc];by_cases h2:kL left ((t.name.length+t.args.length+JP t.args:Nat):Int)<0
  .have:kL left ((t.name.length+t.args.length+JP t.args:Nat):Int) = -1:=by have:=jeh left (t.name.length+t.args.length+JP t.args:Nat);omega
   simp only[jg,this]
  .simp only[jg,h2]
theorem jqg(ts:Xg)(hl:ts.length<=9223372036854775807)(ih:∀t∈ts,G 40 [tm t,tm t]=some (vb true,[])):G 17 [jS ts,jS ts]=some (vb true,[]):=by
 have key:=(upto (P:=λi=>jmm (jS ts) (jS ts) (vi i)=some (vb true,[])) (n:=ts.length) ?_ ?_ 0 (Nat.zero_le _))
 .rw [g17];simp only[Int.natCast_zero]at key;simp only[jg,key]
 .rw [juU];simp only[jg]
 .intro i hi ih';have h5:=jy hi hl;have e1:=ih ts[i] (List.getElem_mem _);rw[juU];simp only[jg,hi,Int.ofNat_lt,jb hi,ji,e1,h5,ih']
theorem jtp(t:T):KZ t->G 40 [tm t,tm t]=some (vb true,[]):=by
 refine T.ind (p:=λt=>KZ t->G 40 [tm t,tm t]=some (vb true,[])) ?_ t;intro t ih h;obtain⟨w1,w2,w3⟩:=(kQ t).1 h;have w3:=(kK _).1 w3;have e1:=jqg t.args w2 λu hu=>ih u hu (w3 u hu);rw[g40];simp only[jg,e1]
theorem Ke{l:Xb}{i:Nat}(h:i<l.length):zj (sv l) (vi i)=some (vy (l[i].toNat:Int)):=by
 show(if _ then _ else _)=_;rw[if_pos ⟨by omega,by simpa using h⟩];simp[List.getD_eq_getElem?_getD,h]
theorem yf{c:UInt8}{l:Xb} :zj (sv (c::l)) (vi 0)=some (vy (c.toNat:Int)):=Ke (i:=0) (l:=c::l) (by simp)
def ZW(lo hi x:Int):Bool:=decide (lo<=x) && decide (x<=hi)
theorem Zk(x a b:Int):G 78 [vi x,vi a,vi b]=some (vb (ZW a b x),[]):=by
 rw[g78];by_cases h:a<=x<;>simp only[jg,h,ZW,Bool.true_and,Bool.false_and]
theorem jaO(x a b:Int):G 47 [vi x,vi a,vi b]=some (vb (ZW a b x),[]):=by
 rw[g47];by_cases h:a<=x<;>simp only[jg,h,ZW,Bool.true_and,Bool.false_and]
def upc(c:UInt8):Bool:=ZW 65 90 (c.toNat:Int)
def QO(c:UInt8):Bool:=ZW 97 122 (c.toNat:Int)
def jnY(c:UInt8):Bool:=ZW 48 57 (c.toNat:Int)
def yK(c:UInt8):Bool:=QO c || jnY c
theorem QJ(c:UInt8):G 126 [vy (c.toNat:Int)]=some (vb (upc c),[]):=by
 rw[jzK];by_cases h:65<=(c.toNat:Int)<;>simp only[jg,h,upc,ZW,Bool.true_and,Bool.false_and]
theorem QH(c:UInt8):G 196 [vy (c.toNat:Int)]=some (vb (QO c),[]):=by
 rw[jAm];by_cases h:97<=(c.toNat:Int)<;>simp only[jg,h,QO,ZW,Bool.true_and,Bool.false_and]
theorem jd5(c:UInt8):G 197 [vy (c.toNat:Int)]=some (vb (jnY c),[]):=by
 rw[jAn];by_cases h:48<=(c.toNat:Int)<;>simp only[jg,h,jnY,ZW,Bool.true_and,Bool.false_and]
theorem jef(c:UInt8):G 120 [vy (c.toNat:Int)]=some (vb (yK c),[]):=by
 rw[jzG];by_cases h:97<=(c.toNat:Int)<;>by_cases h2:(c.toNat:Int)<=122<;>by_cases h3:48<=(c.toNat:Int)<;>simp only[jg,h,h2,h3,yK,QO,jnY,ZW,Bool.true_and,Bool.false_and,Bool.or_false,Bool.true_or,Bool.false_or]
def jr:Xb->Bool
 | []=>false
 |c::r=>upc c && (r.all yK && decide (r.length<=3))
theorem jdc(r:Xb)(k:Nat)(hk:k<=9):ZW 1 (k+1:Nat) (((r.length+1:Nat)):Int)=decide (r.length<=k):=by
 unfold ZW;have:decide ((1:Int)<=((r.length+1:Nat):Int))=true:=by simp;omega
 rw[this,Bool.true_and];by_cases h:r.length<=k<;>simp[h]<;>omega
theorem jcW(s:Xb)(hs:s.length<=9223372036854775807):∀i,i<=s.length->1<=i->jdy (sv s) (vi (s.length:Nat)) (vi i)=some (vb ((s.drop i).all yK && ZW 1 4 (s.length:Nat)),[]):=by
 refine upto (P:=λi=>1<=i->jdy (sv s) (vi (s.length:Nat)) (vi i)=some (vb ((s.drop i).all yK && ZW 1 4 (s.length:Nat)),[])) ?_ ?_
 .intro _;rw[jhK,List.drop_length];have e:=Zk (s.length:Nat) 1 4;simp only[jg,e,Bool.true_and]
 .intro i hi ih h1;have ih:=ih (by omega);have hn:¬((i:Int)=0):=by omega
  have hp:(0:Int)<(i:Int):=by omega
  have hlt:(i:Int)<((s.length:Nat):Int):=by omega
  have h5:=jy hi hs;have hx:=Ke hi;have e1:=QH s[i];have e2:=jd5 s[i];rw[jhK,js hi];generalize s[i]=ch at *;rw[List.all_cons];cases h8:QO ch<;>cases h9:jnY ch<;>rw[h8]at e1<;>rw[h9]at e2<;>simp only[jg,hn,hp,hlt,hx,e1,e2,h5,ih,yK,h8,h9,Bool.true_and,Bool.false_and,Bool.or_true,Bool.or_false]
theorem Qs(s:Xb)(hs:s.length<=9223372036854775807):G 189 [sv s]=some (vb (jr s),[]):=by
 rw[jAi];show(ja0 (sv s)).bind _=_;rw[Yp,Option.bind_some];cases s with
 |nil=>
  rw[jhK];have e:=Zk ((0:Nat):Int) 1 4;simp only[jg,e];rfl
 |cons c r=>
  have key:=jcW (c::r) hs 1 (by simp) (Nat.le_refl _);simp only[List.drop_succ_cons,List.drop_zero]at key;have e':ZW 1 4 (((c::r).length:Nat):Int)=decide (r.length<=3):=jdc r 3 (by decide);rw[e']at key;rw[jhK];have h5:jq .add false (vi 0) (vi 1)=some (vi ((1:Nat):Int)):=by rw[Zf,jZ (by decide) (by decide)];rfl
  have h6:(0:Int)<(((c::r).length:Nat):Int):=Int.natCast_pos.2 (Nat.succ_pos _);have e1:=QJ c;generalize ((((c::r).length:Nat)):Int)=n at *;cases hu:upc c<;>rw[hu]at e1<;>simp only[jg,h6,yf,e1,h5,key,jr,hu,Bool.true_and,Bool.false_and]
theorem jls(s:Xb)(hs:s.length<=9223372036854775807):∀i,i<=s.length->jfE (sv s) (vi i)=some (vb ((s.drop i).all yK),[]):=by
 refine upto (P:=λi=>jfE (sv s) (vi i)=some (vb ((s.drop i).all yK),[])) ?_ ?_
 .rw [jvb,List.drop_length];simp only[jg]
 .intro i hi ih;have hlt:(i:Int)<((s.length:Nat):Int):=by omega
  have h5:=jy hi hs;have hx:=Ke hi;have e1:=jef s[i];rw[jvb,js hi];generalize s[i]=ch at *;rw[List.all_cons];cases h8:yK ch<;>rw[h8]at e1<;>simp only[jg,hlt,hx,e1,h5,ih,Bool.true_and,Bool.false_and]
theorem yc(s:Xb)(hs:s.length<=9223372036854775807):G 73 [sv s]=some (vb (jr s),[]):=by
 rw[g73];show(ja0 (sv s)).bind _=_;rw[Yp,Option.bind_some];cases s with
 |nil=>
  have e:=jaO ((0:Nat):Int) 1 4;simp only[jg,e];rfl
 |cons c r=>
  have e:=jaO (((c::r).length:Nat):Int) 1 4;have e':ZW 1 4 (((c::r).length:Nat):Int)=decide (r.length<=3):=jdc r 3 (by decide);rw[e']at e;have key:=jls (c::r) hs 1 (by simp);simp only[List.drop_succ_cons,List.drop_zero]at key;have key:jfE (sv (c::r)) (vi 1)=some (vb (r.all yK),[]):=key;generalize ((((c::r).length:Nat)):Int)=n at *;by_cases h3:r.length<=3
  .rw [decide_eq_true h3]at e;by_cases ha:(c.toNat:Int)<65
   .have:¬(65<=(c.toNat:Int)):=by omega
    simp only[jg,e,yf,ha,jr,upc,ZW,this,Bool.false_and]
   .have h65:65<=(c.toNat:Int):=by omega
    by_cases hb:90<(c.toNat:Int)
    .have:¬((c.toNat:Int)<=90):=by omega
     simp only[jg,e,yf,ha,hb,jr,upc,ZW,this,Bool.false_and,Bool.and_false]
    .have:(c.toNat:Int)<=90:=by omega
     simp only[jg,e,yf,ha,hb,jr,upc,ZW,this,h65,key,h3,Bool.true_and]
  .rw [decide_eq_false h3]at e;simp only[jg,e,jr,h3,Bool.and_false]
def QC(s:Xb):Xa->Option Nat
 | []=>none
 |x::l=>if s=x then some 0 else(QC s l).map (· + 1)
def Qo(i:Nat):Option Nat->Int
 |none=> -1
 |some k=>((i+k:Nat):Int)
theorem jcr(s:Xb):∀l,(QC s l).isSome=l.contains s
 | []=>rfl
 |x::l=>by
  simp only[QC,List.contains_cons];by_cases h:s=x
  .simp [h]
  .have:=jcr s l;simp[h,this]
theorem jxQ{s:Xb} :∀{l:Xa}{k:Nat},QC s l=some k->k<l.length/\l[k]? = some s
 | [],_,h=>by cases h
 |x::l,k,h=>by
  simp only[QC]at h;split at h
  .rename_i e;cases h;exact⟨by simp,by simp[e]⟩
  .obtain ⟨j,h1,rfl⟩:=Option.map_eq_some_iff.1 h;have:=jxQ h1;exact⟨by simp;exact this.1,by simpa using this.2⟩
theorem jCC(s:Xb)(l:Xa):decide (Qo 0 (QC s l)<0)=!l.contains s:=by
 rw[<-jcr];cases QC s l<;>simp[Qo]
theorem jhA(s:Xb)(l:Xa):decide (0<=Qo 0 (QC s l))=l.contains s:=by
 rw[<-jcr];cases QC s l<;>simp[Qo]
theorem jlg{s x:Xb}{l:Xa}{i:Nat}(h:¬s=x):Qo (i+1) (QC s l)=Qo i (QC s (x::l)):=by
 simp only[QC,h,if_false];cases QC s l<;>simp[Qo];omega
theorem jlj(l:Xa)(s:Xb)(hl:l.length<=9223372036854775807):G 206 [strs l,sv s]=some (vi (Qo 0 (QC s l)),[]):=by
 have key:=upto (P:=λi=>jhi (strs l) (sv s) (vi (l.length:Nat)) (vi i)=some (vi (Qo i (QC s (l.drop i))),[])) (n:=l.length) ?_ ?_ 0 (Nat.zero_le _)
 .simp only[Int.natCast_zero,List.drop_zero]at key;rw[jAq];simp only[jg,key]
 .rw [jq7,List.drop_length];simp only[jg,QC,Qo]
 .intro i hi ih;have hlt:(i:Int)<((l.length:Nat):Int):=by omega
  have h5:=jy hi hl;rw[jq7,js hi];by_cases h:s=l[i]
  .simp only[jg,hlt,jb hi,h,QC,Qo,Nat.add_zero]
  .simp only[jg,hlt,jb hi,h,h5,ih,jlg h]
theorem Qm(l:Xa)(s:Xb)(hl:l.length<=9223372036854775807):G 174 [strs l,sv s]=some (vb (l.contains s),[]):=by
 have e:=jlj l s hl;rw[jAc];simp only[jg,e,jhA]
theorem jyd(o:Ord')(s:Xb)(hl:o.syms.length<=9223372036854775807):G 244 [od o,sv s]=some (vi (Qo 0 (QC s o.syms)),[]):=by
 have key:=upto (P:=λi=>jBb (sv s) (vi i) (strs o.syms) (ints o.ws) (vi o.var)=some (vi (Qo i (QC s (o.syms.drop i))),[])) (n:=o.syms.length) ?_ ?_ 0 (Nat.zero_le _)
 .simp only[Int.natCast_zero,List.drop_zero]at key;rw[jFo];simp only[jg,key]
 .rw [jDe,List.drop_length];simp only[jg,QC,Qo]
 .intro i hi ih;have hlt:(i:Int)<((o.syms.length:Nat):Int):=by omega
  have h5:=jy hi hl;rw[jDe,js hi];by_cases h:s=o.syms[i]
  .simp only[jg,hlt,jb hi,h,QC,Qo,Nat.add_zero]
  .have h':¬o.syms[i]=s:=λe=>h e.symm;simp only[jg,hlt,jb hi,h',h5,ih,jlg h]
theorem jnc(l:Xa)(s:Xb)(hl:l.length<=9223372036854775807):G 137 [strs l,sv s]=some (vb (l.contains s),[]):=by
 have key:=upto (P:=λi=>jg6 (strs l) (sv s) (vi i)=some (vb ((l.drop i).contains s),[])) (n:=l.length) ?_ ?_ 0 (Nat.zero_le _)
 .simp only[Int.natCast_zero,List.drop_zero]at key;rw[jzP];exact key
 .rw [jqQ,List.drop_length];simp only[jg,List.contains_nil]
 .intro i hi ih;have hlt:(i:Int)<((l.length:Nat):Int):=by omega
  have h5:=jy hi hl;rw[jqQ,js hi,List.contains_cons];by_cases h:l[i]=s
  .have:(s == l[i])=true:=by simp[h]
   simp only[jg,hlt,jb hi,h];simp
  .have:(s == l[i])=false:=by simp;exact λe=>h e.symm
   simp only[jg,hlt,jb hi,h,this,h5,ih,Bool.false_or]
def jke:Xa:=[[116,114,117,101],[102,97,108,115,101],[116,114,117,116,104],[98,111,116,104],[101,105,116,104,101,114],[105,102],[97,108,108],[115,111,109,101]]
def jig(c:UInt8):Bool:=yK c || decide ((c.toNat:Int)=95)
def qz:Xb->Bool
 | []=>false
 |c::r=>QO c && (r.all jig && (decide (r.length<=5) && !jke.contains (c::r)))
theorem jsR(a b:Xb):(a == b)=decide (a=b):=by by_cases h:a=b<;>simp[h]
theorem jfs(s:Xb)(hs:s.length<=9223372036854775807):∀i,i<=s.length->1<=i->jdv (sv s) (vi (s.length:Nat)) (vi i)=some (vb ((s.drop i).all jig && (ZW 1 6 (s.length:Nat) && !jke.contains s)),[]):=by
 refine upto (P:=λi=>1<=i->jdv (sv s) (vi (s.length:Nat)) (vi i)=some (vb ((s.drop i).all jig && (ZW 1 6 (s.length:Nat) && !jke.contains s)),[])) ?_ ?_
 .intro _;rw[jhJ,List.drop_length];have e:=Zk (s.length:Nat) 1 6;have e2:=Qm jke s (by decide);have e3:G 198 []=some (strs jke,[]):=jAo;cases h:ZW 1 6 (s.length:Nat)<;>rw[h]at e<;>simp only[jg,e,e2,e3,Bool.true_and,Bool.false_and]
 .intro i hi ih h1;have ih:=ih (by omega);have hn:¬((i:Int)=0):=by omega
  have hlt:(i:Int)<((s.length:Nat):Int):=by omega
  have h5:=jy hi hs;have hx:=Ke hi;have e1:=QH s[i];have e2:=jd5 s[i];rw[jhJ,js hi];generalize s[i]=ch at *;rw[List.all_cons];cases h7:decide ((ch.toNat:Int)=95)<;>cases h8:QO ch<;>cases h9:jnY ch<;>rw[h8]at e1<;>rw[h9]at e2<;>
   simp only[jg,hn,hlt,hx,e1,e2,h5,ih,jig,yK,h7,h8,h9,Bool.true_and,Bool.false_and,Bool.or_true,Bool.or_false]
theorem jcw(s:Xb)(hs:s.length<=9223372036854775807):G 159 [sv s]=some (vb (qz s),[]):=by
 rw[jz4];show(ja0 (sv s)).bind _=_;rw[Yp,Option.bind_some];cases s with
 |nil=>
  rw[jhJ];have e:G 78 [vi ((0:Nat):Int),vi 1,vi 6]=some (vb false,[]):=Zk ((0:Nat):Int) 1 6;simp only[jg,e];rfl
 |cons c r=>
  have key:=jfs (c::r) hs 1 (by simp) (Nat.le_refl _);simp only[List.drop_succ_cons,List.drop_zero]at key;have e':ZW 1 6 (((c::r).length:Nat):Int)=decide (r.length<=5):=jdc r 5 (by decide);rw[e']at key;rw[jhJ];have h5:jq .add false (vi 0) (vi 1)=some (vi ((1:Nat):Int)):=by rw[Zf,jZ (by decide) (by decide)];rfl
  have h6:(0:Int)<(((c::r).length:Nat):Int):=Int.natCast_pos.2 (Nat.succ_pos _);have e1:=QH c;generalize ((((c::r).length:Nat)):Int)=n at *;cases hu:QO c<;>rw[hu]at e1<;>simp only[jg,h6,yf,e1,h5,key,qz,hu,Bool.true_and,Bool.false_and]
theorem jft(s:Xb)(hs:s.length<=9223372036854775807):∀i,i<=s.length->qD (sv s) (vi i)=some (vb ((s.drop i).all jig),[]):=by
 refine upto (P:=λi=>qD (sv s) (vi i)=some (vb ((s.drop i).all jig),[])) ?_ ?_
 .rw [jqM,List.drop_length];simp only[jg]
 .intro i hi ih;have hlt:(i:Int)<((s.length:Nat):Int):=by omega
  have h5:=jy hi hs;have hx:=Ke hi;have e1:=jef s[i];rw[jqM,js hi];generalize s[i]=ch at *;rw[List.all_cons];cases h7:decide ((ch.toNat:Int)=95)<;>cases h8:yK ch<;>rw[h8]at e1<;>simp only[jg,hlt,hx,e1,h5,ih,jig,h7,h8,Bool.true_and,Bool.false_and,Bool.or_true,Bool.or_false]
theorem Yh(s:Xb)(hs:s.length<=9223372036854775807):G 133 [sv s]=some (vb (qz s),[]):=by
 rw[jzM];show(ja0 (sv s)).bind _=_;rw[Yp,Option.bind_some];cases s with
 |nil=>
  have e:G 47 [vi ((0:Nat):Int),vi 1,vi 6]=some (vb false,[]):=jaO ((0:Nat):Int) 1 6;simp only[jg,e];rfl
 |cons c r=>
  have e:=jaO (((c::r).length:Nat):Int) 1 6;have e':ZW 1 6 (((c::r).length:Nat):Int)=decide (r.length<=5):=jdc r 5 (by decide);rw[e']at e;have key:=jft (c::r) hs 1 (by simp);simp only[List.drop_succ_cons,List.drop_zero]at key;have key:qD (sv (c::r)) (vi 1)=some (vb (r.all jig),[]):=key;generalize ((((c::r).length:Nat)):Int)=n at *;have hres:jke.contains (c::r)=(decide (c::r=[116,114,117,101]) || (decide (c::r=[102,97,108,115,101]) || (decide (c::r=[116,114,117,116,104]) || (decide (c::r=[98,111,116,104]) || (decide (c::r=[101,105,116,104,101,114]) || (decide (c::r=[105,102]) || (decide (c::r=[97,108,108]) || decide (c::r=[115,111,109,101])))))))):=by
   simp only[jke,List.contains_cons,List.contains_nil,Bool.or_false,jsR]
  by_cases h3:r.length<=5
  .rw [decide_eq_true h3]at e;by_cases ha:(c.toNat:Int)<97
   .have:¬(97<=(c.toNat:Int)):=by omega
    simp only[jg,e,yf,ha,qz,QO,ZW,this,Bool.false_and]
   .have h65:97<=(c.toNat:Int):=by omega
    by_cases hb:122<(c.toNat:Int)
    .have:¬((c.toNat:Int)<=122):=by omega
     simp only[jg,e,yf,ha,hb,qz,QO,ZW,this,Bool.false_and,Bool.and_false]
    .have h122:(c.toNat:Int)<=122:=by omega
     have e0:qz (c::r)=(r.all jig && !jke.contains (c::r)):=by
      simp[qz,QO,ZW,h65,h122,h3]
     rw[e0,hres];have hx0:=yf (c:=c) (l:=r);clear hres e0;generalize c::r=s at *;cases q0:decide (s=[116,114,117,101]);rotate_left
     .simp only[jg,e,hx0,ha,hb,q0,Bool.true_or,Bool.and_false]
     cases q1:decide (s=[102,97,108,115,101]);rotate_left
     .simp only[jg,e,hx0,ha,hb,q0,q1,Bool.true_or,Bool.false_or,Bool.and_false]
     cases q2:decide (s=[116,114,117,116,104]);rotate_left
     .simp only[jg,e,hx0,ha,hb,q0,q1,q2,Bool.true_or,Bool.false_or,Bool.and_false]
     cases q3:decide (s=[98,111,116,104]);rotate_left
     .simp only[jg,e,hx0,ha,hb,q0,q1,q2,q3,Bool.true_or,Bool.false_or,Bool.and_false]
     cases q4:decide (s=[101,105,116,104,101,114]);rotate_left
     .simp only[jg,e,hx0,ha,hb,q0,q1,q2,q3,q4,Bool.true_or,Bool.false_or,Bool.and_false]
     cases q5:decide (s=[105,102]);rotate_left
     .simp only[jg,e,hx0,ha,hb,q0,q1,q2,q3,q4,q5,Bool.true_or,Bool.false_or,Bool.and_false]
     cases q6:decide (s=[97,108,108]);rotate_left
     .simp only[jg,e,hx0,ha,hb,q0,q1,q2,q3,q4,q5,q6,Bool.true_or,Bool.false_or,Bool.and_false]
     cases q7:decide (s=[115,111,109,101]);rotate_left
     .simp only[jg,e,hx0,ha,hb,q0,q1,q2,q3,q4,q5,q6,q7,Bool.false_or,Bool.and_false]
     simp only[jg,e,hx0,ha,hb,q0,q1,q2,q3,q4,q5,q6,q7,Bool.or_false,key]
  .rw [decide_eq_false h3]at e;simp only[jg,e,qz,h3,Bool.false_and,Bool.and_false]
mutual
def nodes:T->Nat
 |.mk _ us=>1+jF us
def jF:Xg->Nat
 | []=>0
 |t::ts=>nodes t+jF ts
end
theorem jU(t:T):nodes t=1+jF t.args:=by cases t;rfl
mutual
def Ko:T->Nat
 |.mk _ us=>1+KO us
def KO:Xg->Nat
 | []=>0
 |t::ts=>max (Ko t) (KO ts)
end
theorem Kc(t:T):Ko t=1+KO t.args:=by cases t;rfl
mutual
def qb:T->Bool
 |.mk n us=>if jr n then us.isEmpty else qz n && (decide (us.length<=4) && jjI us)
def jjI:Xg->Bool
 | []=>true
 |t::ts=>qb t && jjI ts
end
theorem qj(t:T):qb t=if jr t.name then t.args.isEmpty else qz t.name && (decide (t.args.length<=4) && jjI t.args):=by cases t;rfl
theorem Ze:∀ts,jjI ts=ts.all qb
 | []=>rfl
 |t::ts=>by rw[jjI,Ze ts,List.all_cons]
theorem Yk:∀t:T,nodes t<=1+tsz t:=by
 refine T.ind λt ih=>?_;have:∀ts:Xg,(∀u∈ts,nodes u<=1+tsz u)->jF ts<=ts.length+JP ts:=by
  intro ts;induction ts with
  |nil=>intro _;simp[jF]
  |cons u us ih=>
   intro h;have h1:=h u (by simp);have h2:=ih λv hv=>h v (by simp[hv]);simp only[jF,JP,List.length_cons];omega
 have h:=this t.args ih;rw[jU,ze];omega
theorem Zc(t:T):1<=nodes t:=by rw[jU];omega
theorem ZA{ts:Xg}{t:T}(h:t∈ts):nodes t<=jF ts:=by
 induction ts with
 |nil=>cases h
 |cons u us ih=>
  simp only[jF];rcases List.mem_cons.1 h with rfl|h
  .omega
  .have:=ih h;omega
theorem jp4:∀t:T,Ko t<=nodes t:=by
 refine T.ind λt ih=>?_;have:∀ts:Xg,(∀u∈ts,Ko u<=nodes u)->KO ts<=jF ts:=by
  intro ts;induction ts with
  |nil=>intro _;simp[KO]
  |cons u us ih=>
   intro h;have h1:=h u (by simp);have h2:=ih λv hv=>h v (by simp[hv]);simp only[jF,KO];omega
 have h:=this t.args ih;rw[jU,Kc];omega
theorem joY(ts:Xg)(hl:ts.length<=9223372036854775807)(hn:jF ts<=1048577)(ih:∀t∈ts,∃r:Nat,G 112 [tm t]=some (vi r,[])/\r<=nodes t/\(nodes t<=30->r=nodes t)/\(30<nodes t->30<r)) :
  ∀i,i<=ts.length-> ∀a:Nat,a+jF (ts.drop i)<=1048578-> ∃r:Nat,jg0 (vi a) (jS ts) (vi (ts.length:Nat)) (vi i)=some (vi r,[])/\r<=a+jF (ts.drop i)/\(a+jF (ts.drop i)<=30->r=a+jF (ts.drop i))/\(30<a+jF (ts.drop i)->30<r):=by
 refine upto ?_ ?_
 .intro a ha;rw[jln,List.drop_length];simp only[jg,jF,Nat.add_zero];exact⟨a,rfl,Nat.le_refl _,λ_=>rfl,λh=>h⟩
 .intro i hi ih' a ha;have hlt:(i:Int)<((ts.length:Nat):Int):=by omega
  have h5:=jy hi hl;rw[js hi]at ha⊢;simp only[jF]at ha⊢;obtain⟨r1,e1,b1,b2,b3⟩:=ih ts[i] (List.getElem_mem _);by_cases hc:(30:Int)<(a:Int)
  .refine ⟨a,?_,by omega,by omega,by omega⟩;rw[jln];simp only[jg,hlt,jb hi,ji,hc]
  .have hk:ck ((a:Int)+(r1:Int))=some (vi ((a+r1:Nat):Int)):=by rw[jZ (by omega) (by omega)];rfl
   obtain⟨r2,e2,c1,c2,c3⟩:=ih' (a+r1) (by omega);refine⟨r2,?_,by omega,by omega,by omega⟩;rw[jln];simp only[jg,hlt,jb hi,ji,hc,e1,hk,h5,e2]
theorem size_eq:∀t:T,KZ t->tsz t<=1048576-> ∃r:Nat,G 112 [tm t]=some (vi r,[])/\r<=nodes t/\(nodes t<=30->r=nodes t)/\(30<nodes t->30<r):=by
 refine T.ind λt ih hw hs=>?_;obtain⟨w1,w2,w3⟩:=(kQ t).1 hw;have w3:=(kK _).1 w3;have hn:=Yk t;rw[jU]at hn;rw[ze]at hs;obtain⟨r,h1,h2,h3,h4⟩:=joY t.args w2 (by rw[ze]at hn;omega) (λu hu=>ih u hu (w3 u hu) (by have:=yQ hu;omega)) 0 (Nat.zero_le _) 1 (by rw[ze]at hn;simp;omega);simp only[List.drop_zero,Int.natCast_zero,Int.natCast_one]at h1 h2 h3 h4;refine⟨r,?_,by rw[jU];exact h2,by rw[jU];exact h3,by rw[jU];exact h4⟩;rw[jzB];simp only[jg,h1]
theorem jog(n:Xb)(most:Int)(hm1: -1048600<=most)(hm:most<=1048576)(ts:Xg)(hl:ts.length<=9223372036854775807)(ih:∀t∈ts,∀m:Int,-1048600<=m->m<=1048576-> ∃r:Nat,G 167 [tm t,vi m]=some (vi r,[])/\1<=r/\r<=nodes t/\((nodes t:Int)<=m->r=nodes t)/\(m<nodes t->m<r)) :
  ∀i,i<=ts.length-> ∀a:Nat,1<=a->a+jF (ts.drop i)<=1048578-> ∃r:Nat,jhc (vi most) (vi a) (vi i) (sv n) (jS ts)=some (vi r,[])/\1<=r/\r<=a+jF (ts.drop i)/\(((a+jF (ts.drop i):Nat):Int)<=most->r=a+jF (ts.drop i))/\(most<((a+jF (ts.drop i):Nat):Int)->most<r):=by
 refine upto ?_ ?_
 .intro a h1 ha;rw[jlq,List.drop_length];simp only[jg,jF,Nat.add_zero];exact⟨a,rfl,h1,Nat.le_refl _,λ_=>rfl,λh=>h⟩
 .intro i hi ih' a h1 ha;have hlt:(i:Int)<((ts.length:Nat):Int):=by omega
  have h5:=jy hi hl;rw[js hi]at ha⊢;simp only[jF]at ha⊢;by_cases hc:(a:Int)<=most
  .obtain ⟨r1,e1,b0,b1,b2,b3⟩:=ih ts[i] (List.getElem_mem _) (most-a) (by omega) (by omega);have hk0:ck (most-(a:Int))=some (vi (most-a)):=jZ (by omega) (by omega);have hk:ck ((a:Int)+(r1:Int))=some (vi ((a+r1:Nat):Int)):=by rw[jZ (by omega) (by omega)];rfl
   obtain⟨r2,e2,c0,c1,c2,c3⟩:=ih' (a+r1) (by omega) (by omega);refine⟨r2,?_,by omega,by omega,by omega,by omega⟩;rw[jlq];simp only[jg,hlt,jb hi,ji,hc,hk0,e1,hk,h5,e2]
  .refine ⟨a,?_,h1,by omega,by omega,by omega⟩;rw[jlq];simp only[jg,hlt,hc]
theorem jtJ:∀t:T,KZ t->tsz t<=1048576-> ∀m:Int,-1048600<=m->m<=1048576-> ∃r:Nat,G 167 [tm t,vi m]=some (vi r,[])/\1<=r/\r<=nodes t/\((nodes t:Int)<=m->r=nodes t)/\(m<nodes t->m<r):=by
 refine T.ind λt ih hw hs m hm1 hm=>?_;obtain⟨w1,w2,w3⟩:=(kQ t).1 hw;have w3:=(kK _).1 w3;have hn:=Yk t;rw[jU]at hn;obtain⟨r,h1,h0,h2,h3,h4⟩:=jog t.name m hm1 hm t.args w2 (λu hu m h1 h2=>ih u hu (w3 u hu) (by have:=yQ hu;rw[ze]at hs;omega) m h1 h2) 0 (Nat.zero_le _) 1 (Nat.le_refl _) (by simp;omega);simp only[List.drop_zero,Int.natCast_zero,Int.natCast_one]at h1 h2 h3 h4;refine⟨r,?_,h0,by rw[jU];exact h2,by rw[jU];exact h3,by rw[jU];exact h4⟩;rw[jz9];simp only[jg,h1]
theorem jlb(ts:Xg)(hl:ts.length<=9223372036854775807)(hn:jF ts<=1048577)(ih:∀t∈ts,G 113 [tm t]=some (vi (Ko t:Nat),[])) :
  ∀i,i<=ts.length-> ∀a:Nat,a<=1048577->jg1 (vi a) (jS ts) (vi (ts.length:Nat)) (vi i)=some (vi ((max a (KO (ts.drop i))+1:Nat):Int),[]):=by
 refine upto ?_ ?_
 .intro a ha;have hk:ck ((a:Int)+1)=some (vi ((a+1:Nat):Int)):=by rw[jZ (by omega) (by omega)];rfl
  rw[jqG,List.drop_length];simp only[jg,KO,hk,Nat.max_zero]
 .intro i hi ih' a ha;have hlt:(i:Int)<((ts.length:Nat):Int):=by omega
  have h5:=jy hi hl;have e1:=ih ts[i] (List.getElem_mem _);have hd:Ko ts[i]<=1048577:=Nat.le_trans (jp4 _) (Nat.le_trans (ZA (List.getElem_mem hi)) hn);have hmx:(if(a:Int)<((Ko ts[i]:Nat):Int)then((Ko ts[i]:Nat):Int)else(a:Int))=((max a (Ko ts[i]):Nat):Int):=by split<;>omega
  have ih':=ih' (max a (Ko ts[i])) (by omega);rw[jqG,js hi];simp only[jg,hlt,jb hi,ji,e1,hmx,h5,ih',KO,Nat.max_assoc]
theorem jp5:∀t:T,KZ t->tsz t<=1048576->G 113 [tm t]=some (vi (Ko t:Nat),[]):=by
 refine T.ind λt ih hw hs=>?_;obtain⟨w1,w2,w3⟩:=(kQ t).1 hw;have w3:=(kK _).1 w3;have hn:=Yk t;rw[jU]at hn;have h1:=jlb t.args w2 (by omega) (λu hu=>ih u hu (w3 u hu) (by have:=yQ hu;rw[ze]at hs;omega)) 0 (Nat.zero_le _) 0 (by omega);simp only[List.drop_zero,Int.natCast_zero,Nat.zero_max]at h1;rw[jzC,Kc,Nat.add_comm];simp only[jg,h1]
theorem jtL(a b:Nat):G 200 [vi a,vi b]=some (vi ((max a b:Nat):Int),[]):=by
 rw[jAp];by_cases h:(b:Int)<(a:Int)
 .simp only[jg,h];rw[Nat.max_eq_left (by omega)]
 .simp only[jg,h];rw[Nat.max_eq_right (by omega)]
theorem jhM(n:Xb)(ts:Xg)(hl:ts.length<=9223372036854775807)(hn:jF ts<=1048577)(ih:∀t∈ts,G 168 [tm t]=some (vi (Ko t:Nat),[])) :
  ∀i,i<=ts.length-> ∀a:Nat,a<=1048577->jhd (vi a) (vi i) (sv n) (jS ts)=some (vi ((max a (KO (ts.drop i))+1:Nat):Int),[]):=by
 refine upto ?_ ?_
 .intro a ha;have hk:ck ((a:Int)+1)=some (vi ((a+1:Nat):Int)):=by rw[jZ (by omega) (by omega)];rfl
  rw[jqZ,List.drop_length];simp only[jg,KO,hk,Nat.max_zero]
 .intro i hi ih' a ha;have hlt:(i:Int)<((ts.length:Nat):Int):=by omega
  have h5:=jy hi hl;have e1:=ih ts[i] (List.getElem_mem _);have e2:=jtL a (Ko ts[i]);have hd:Ko ts[i]<=1048577:=Nat.le_trans (jp4 _) (Nat.le_trans (ZA (List.getElem_mem hi)) hn);have ih':=ih' (max a (Ko ts[i])) (by omega);rw[jqZ,js hi];simp only[jg,hlt,jb hi,ji,e1,e2,h5,ih',KO,Nat.max_assoc]
theorem jlr:∀t:T,KZ t->tsz t<=1048576->G 168 [tm t]=some (vi (Ko t:Nat),[]):=by
 refine T.ind λt ih hw hs=>?_;obtain⟨w1,w2,w3⟩:=(kQ t).1 hw;have w3:=(kK _).1 w3;have hn:=Yk t;rw[jU]at hn;have h1:=jhM t.name t.args w2 (by omega) (λu hu=>ih u hu (w3 u hu) (by have:=yQ hu;rw[ze]at hs;omega)) 0 (Nat.zero_le _) 0 (by omega);simp only[List.drop_zero,Int.natCast_zero,Nat.zero_max]at h1;rw[jAa,Kc,Nat.add_comm];simp only[jg,h1]
def jH(t:T):Bool:=decide (nodes t<=30) && decide (Ko t<=8)
def kV(t:T):Bool:=jH t && qb t
theorem QI(t:T)(hw:KZ t)(hs:tsz t<=1048576):G 68 [tm t]=some (vb (jH t),[]):=by
 obtain⟨r,h1,h2,h3,h4⟩:=size_eq t hw hs;have hd:=jp5 t hw hs;rw[g68];by_cases h:nodes t<=30
 .have:(r:Int)<=30:=by have:=h3 h;omega
  have e:decide (((Ko t:Nat):Int)<=8)=decide (Ko t<=8):=by congr 1;exact propext (by omega)
  simp only[jg,h1,hd,this,jH,h,e,Bool.true_and]
 .have:¬(r:Int)<=30:=by have:=h4 (by omega);omega
  simp only[jg,h1,this,jH,h,Bool.false_and]
theorem jf6(t:T)(hw:KZ t)(hs:tsz t<=1048576):G 122 [tm t]=some (vb (jH t),[]):=by
 obtain⟨r,h1,h0,h2,h3,h4⟩:=jtJ t hw hs 30 (by decide) (by decide);have hd:=jlr t hw hs;rw[jzI];by_cases h:nodes t<=30
 .have:(r:Int)<=30:=by have:=h3 (by omega);omega
  have e:decide (((Ko t:Nat):Int)<=8)=decide (Ko t<=8):=by congr 1;exact propext (by omega)
  simp only[jg,h1,hd,this,jH,h,e,Bool.true_and]
 .have:¬(r:Int)<=30:=by have:=h4 (by omega);omega
  simp only[jg,h1,this,jH,h,Bool.false_and]
theorem jcU{f:FuncId}{caps:Xd}(hsig:K.pureF f=true)(p:T->Bool)(ts:Xg)(hl:ts.length<=9223372036854775807)(h:∀t∈ts,G f (tm t::caps)=some (vb (p t),[])) :
  ∃r:Int,G 107 [jS ts,.fn f caps]=some (vi r,[])/\decide (0<=r)=ts.any p:=by
 have key:=upto (P:=λi=>∃r:Int,jgZ (jS ts) (.fn f caps) (vi (ts.length:Nat)) (vi i)=some (vi r,[])/\decide (0<=r)=(ts.drop i).any p) (n:=ts.length) ?_ ?_ 0 (Nat.zero_le _)
 .obtain ⟨r,h1,h2⟩:=key;simp only[Int.natCast_zero,List.drop_zero]at h1 h2;refine⟨r,?_,h2⟩;rw[jzA];simp only[jg,h1]
 .refine ⟨-1,?_,by simp⟩;rw[jqF];simp only[jg]
 .intro i hi ih;obtain⟨r,h1,h2⟩:=ih;have hlt:(i:Int)<((ts.length:Nat):Int):=by omega
  have h5:=jy hi hl;have e1:=h ts[i] (List.getElem_mem _);rw[jqF,js hi,List.any_cons];cases hp:p ts[i]<;>rw[hp]at e1
  .refine ⟨r,?_,by rw[h2,Bool.false_or]⟩;simp only[jg,hlt,jb hi,ji,Je hsig,List.cons_append,List.nil_append,e1,h5,h1]
  .refine ⟨i,?_,by simp⟩;simp only[jg,hlt,jb hi,ji,Je hsig,List.cons_append,List.nil_append,e1]
theorem jdL{f:FuncId}{caps:Xd}(hsig:K.pureF f=true)(p:T->Bool)(ts:Xg)(hl:ts.length<=9223372036854775807)(h:∀t∈ts,G f (tm t::caps)=some (vb (p t),[])) :
  G 63 [jS ts,.fn f caps]=some (vb (ts.any p),[]):=by
 obtain⟨r,h1,h2⟩:=jcU hsig p ts hl h;rw[g63];simp only[jg,h1,h2]
theorem jiD(p:T->Bool)(ts:Xg):(ts.any λt=> !p t)=!ts.all p:=by
 induction ts with
 |nil=>rfl
 |cons t ts ih=>rw[List.any_cons,List.all_cons,ih];cases p t<;>rfl
theorem Ya:∀t:T,KZ t->G 158 [tm t]=some (vb (qb t),[]):=by
 refine T.ind λt ih hw=>?_;obtain⟨w1,w2,w3⟩:=(kQ t).1 hw;have w3:=(kK _).1 w3;have e1:=Qs t.name w1;have e2:=jcw t.name w1;have e3:=jdL (f:=195) (caps:=[]) rfl (λu=> !qb u) t.args w2 (λu hu=>by
  have:=ih u hu (w3 u hu);rw[jAl];simp only[jg,this])
 rw[jiD,<-Ze]at e3;rw[jz3,qj];have e4:decide (((t.args.length:Nat):Int)=0)=t.args.isEmpty:=by cases t.args<;>simp;omega
 have e5:decide (((t.args.length:Nat):Int)<=4)=decide (t.args.length<=4):=by congr 1;exact propext (by omega)
 cases hv:jr t.name<;>rw[hv]at e1
 .cases hy:qz t.name<;>rw[hy]at e2
  .simp only[jg,e1,e2,Bool.false_and]
  .cases ha:decide (t.args.length<=4)<;>rw[ha]at e5
   .simp only[jg,e1,e2,e5,Bool.false_and,Bool.true_and]
   .simp only[jg,e1,e2,e5,e3,Bool.true_and,Bool.not_not]
 .simp only[jg,e1,e4]
theorem QM:∀t:T,KZ t->G 123 [tm t]=some (vb (qb t),[]):=by
 refine T.ind λt ih hw=>?_;obtain⟨w1,w2,w3⟩:=(kQ t).1 hw;have w3:=(kK _).1 w3;have e1:=yc t.name w1;have e2:=Yh t.name w1;have key:=upto (P:=λi=>jg4 (vi i) (sv t.name) (jS t.args)=some (vb (jjI (t.args.drop i)),[])) (n:=t.args.length) ?_ ?_ 0 (Nat.zero_le _)
 .simp only[Int.natCast_zero,List.drop_zero]at key;rw[jzJ,qj];have e4:decide (((t.args.length:Nat):Int)=0)=t.args.isEmpty:=by cases t.args<;>simp;omega
  cases hv:jr t.name<;>rw[hv]at e1
  .cases hy:qz t.name<;>rw[hy]at e2
   .simp only[jg,e1,e2,Bool.false_and]
   .by_cases ha:4<((t.args.length:Nat):Int)
    .have:¬t.args.length<=4:=by omega
     simp only[jg,e1,e2,ha,this,Bool.false_and,Bool.and_false]
    .have:t.args.length<=4:=by omega
     simp only[jg,e1,e2,ha,this,key,Bool.true_and]
  .simp only[jg,e1,e4]
 .rw [jqK,List.drop_length];simp only[jg,jjI]
 .intro i hi ih';have hlt:(i:Int)<((t.args.length:Nat):Int):=by omega
  have h5:=jy hi w2;have e3:=ih t.args[i] (List.getElem_mem _) (w3 _ (List.getElem_mem _));rw[jqK,js hi,jjI];cases hp:qb t.args[i]<;>rw[hp]at e3
  .simp only[jg,hlt,jb hi,ji,e3,Bool.false_and]
  .simp only[jg,hlt,jb hi,ji,e3,h5,ih',Bool.true_and]
theorem Ye(t:T)(hw:KZ t)(hs:tsz t<=1048576):G 160 [tm t]=some (vb (kV t),[]):=by
 have e1:=QI t hw hs;have e2:=Ya t hw;rw[jz5,kV];cases h:jH t<;>rw[h]at e1<;>simp only[jg,e1,e2,Bool.true_and,Bool.false_and]
theorem YV(t:T)(hw:KZ t)(hs:tsz t<=1048576):G 75 [tm t]=some (vb (kV t),[]):=by
 have e1:=jf6 t hw hs;have e2:=QM t hw;rw[g75,kV];cases h:jH t<;>rw[h]at e1<;>simp only[jg,e1,e2,Bool.true_and,Bool.false_and]
theorem jbx{xs:Xi}{i:Nat}(h:i<xs.length):jz 1 (ints xs) (vi i)=some (.elt (ci xs[i]) 0):=jb h
def jzt(o:Ord')(i:Nat):Bool:=qz (o.syms.getD i []) && (!(o.syms.take i).contains (o.syms.getD i []) && ZW o.var 100 (o.ws.getD i 0))
def jmi(o:Ord'):Bool:=ZW 1 12 (o.syms.length:Nat) && (decide (o.ws.length=o.syms.length) && (ZW 1 100 o.var && (List.range o.syms.length).all (jzt o)))
theorem jB2{n i:Nat}(h:i<n):(List.range n).drop i=i::(List.range n).drop (i+1):=by
 have h':i<(List.range n).length:=by simpa using h
 rw[List.drop_eq_getElem_cons h',List.getElem_range]
theorem jBG(o:Ord')(hw:owf o)(hl:o.ws.length=o.syms.length):∀i,i<=o.syms.length->jA6 (vi i) (strs o.syms) (ints o.ws) (vi o.var)=some (vb (((List.range o.syms.length).drop i).all (jzt o)),[]):=by
 refine upto ?_ ?_
 .rw [jC7,List.drop_of_length_le (by simp)];simp only[jg]
 .intro i hi ih;have hlt:(i:Int)<((o.syms.length:Nat):Int):=by omega
  have hi2:i<o.ws.length:=by omega
  have h5:=jy hi hw.1.2;have hs:=hw.1.1 o.syms[i] (List.getElem_mem _);have e1:=Yh o.syms[i] hs;have hsl:yt 1 (strs o.syms) none (some (vi i))=some (strs (o.syms.take i)):=by rw[Yr (by simp;omega),<-List.map_take]
  have e2:=jnc (o.syms.take i) o.syms[i] (by rw[List.length_take];exact Nat.le_trans (Nat.min_le_right _ _) hw.1.2)
  have e3:=jaO o.ws[i] o.var 100;have hc:jzt o i=(qz o.syms[i] && (!(o.syms.take i).contains o.syms[i] && ZW o.var 100 o.ws[i])):=by simp[jzt,List.getD_eq_getElem?_getD,hi,hi2]
  rw[jC7,jB2 hi,List.all_cons,hc];cases h1:qz o.syms[i]<;>rw[h1]at e1
  .simp only[jg,hlt,jb hi,e1,Bool.false_and]
  .cases h2:(o.syms.take i).contains o.syms[i]<;>rw[h2]at e2
   .cases h3:ZW o.var 100 o.ws[i]<;>rw[h3]at e3
    .simp only[jg,hlt,jb hi,jbx hi2,e1,hsl,e2,e3,Bool.false_and,Bool.true_and]
    .simp only[jg,hlt,jb hi,jbx hi2,e1,hsl,e2,e3,h5,ih,Bool.true_and]
   .simp only[jg,hlt,jb hi,e1,hsl,e2,Bool.false_and,Bool.true_and]
theorem jCF(o:Ord')(hw:owf o):G 170 [od o]=some (vb (jmi o),[]):=by
 have e1:=jaO (o.syms.length:Nat) 1 12;have e2:=jaO o.var 1 100;rw[jE9,jmi];cases h1:ZW 1 12 (o.syms.length:Nat)<;>rw[h1]at e1
 .simp only[jg,e1,Bool.false_and]
 .by_cases h2:o.ws.length=o.syms.length
  .have h2':((o.ws.length:Nat):Int)=((o.syms.length:Nat):Int):=by rw[h2]
   have key:=jBG o hw h2 0 (Nat.zero_le _);simp only[Int.natCast_zero,List.drop_zero]at key;cases h3:ZW 1 100 o.var<;>rw[h3]at e2
   .simp only[jg,e1,h2',e2,Bool.false_and,Bool.and_false]
   .simp only[jg,e1,h2,e2,key,Bool.true_and]
  .have h2':¬((o.ws.length:Nat):Int)=((o.syms.length:Nat):Int):=by omega
   simp only[jg,e1,h2',h2,Bool.false_and,Bool.true_and]
mutual
def js3(l:Xa):T->Bool
 |.mk n us=>(jr n || l.contains n) && juJ l us
def juJ(l:Xa):Xg->Bool
 | []=>true
 |t::ts=>js3 l t && juJ l ts
end
theorem jbA(l:Xa)(t:T):js3 l t=((jr t.name || l.contains t.name) && juJ l t.args):=by cases t;rfl
theorem jfP(l:Xa):∀ts,juJ l ts=ts.all (js3 l)
 | []=>rfl
 |t::ts=>by rw[juJ,jfP l ts,List.all_cons]
theorem qi{t:T}(h:qb t=true):∀u∈t.args,qb u=true:=by
 rw[qj]at h;intro u hu;split at h
 .rw [List.isEmpty_iff.1 h]at hu;cases hu
 .simp only[Bool.and_eq_true]at h;rw[Ze]at h;exact List.all_eq_true.1 h.2.2 u hu
theorem jry{t:T}(h:qb t=true):∃c r,t.name=c::r/\jr t.name=upc c/\(upc c=false->qz t.name=true):=by
 rw[qj]at h;cases hn:t.name with
 |nil=>rw[hn]at h;simp[jr,qz]at h
 |cons c r=>
  refine⟨c,r,rfl,?_,?_⟩
  .rw [hn]at h;cases hu:upc c with
   |false=>simp[jr,hu]
   |true=>
    cases hv:jr (c::r)with
    |true=>rfl
    |false=>
     rw[hv]at h;have:QO c=false:=by
      simp only[upc,ZW,QO,Bool.and_eq_true,decide_eq_true_eq]at hu⊢;have:¬(97<=(c.toNat:Int)):=by omega
      simp[this]
     simp[qz,this]at h
  .intro hu;rw[hn]at h;have:jr (c::r)=false:=by simp[jr,hu]
   rw[this]at h;simp at h;exact h.1
theorem jqv(t:T)(h:qb t=true):G 81 [tm t]=some (vb (jr t.name),[]):=by
 obtain⟨c,r,hn,hv,_⟩:=jry h;have e1:=QJ c;rw[<-hv]at e1;rw[g81];have hx:zj (sv t.name) (vi 0)=some (vy (c.toNat:Int)):=by rw[hn];exact yf
 simp only[jg,hx,e1]
theorem jBF(o:Ord')(ho:o.syms.length<=9223372036854775807):∀t:T,KZ t->G 201 [od o,tm t]=some (vb (js3 o.syms t),[]):=by
 refine T.ind λt ih hw=>?_;obtain⟨w1,w2,w3⟩:=(kQ t).1 hw;have w3:=(kK _).1 w3;have e1:=yc t.name w1;have e2:=jyd o t.name ho;have e2':=jCC t.name o.syms;have key:=upto (P:=λi=>jA7 (vi i) (strs o.syms) (ints o.ws) (vi o.var) (sv t.name) (jS t.args)=some (vb (juJ o.syms (t.args.drop i)),[])) (n:=t.args.length) ?_ ?_ 0 (Nat.zero_le _)
 .simp only[Int.natCast_zero,List.drop_zero]at key;rw[jFf,jbA];cases hv:jr t.name<;>rw[hv]at e1
  .cases hc:o.syms.contains t.name<;>rw[hc]at e2'
   .simp only[jg,e1,e2,e2',Bool.false_or,Bool.false_and]
   .simp only[jg,e1,e2,e2',key,Bool.false_or,Bool.true_and]
  .simp only[jg,e1,key,Bool.true_or,Bool.true_and]
 .rw [jC8,List.drop_length];simp only[jg,juJ]
 .intro i hi ih';have hlt:(i:Int)<((t.args.length:Nat):Int):=by omega
  have h5:=jy hi w2;have e3:=ih t.args[i] (List.getElem_mem _) (w3 _ (List.getElem_mem _));rw[jC8,js hi,juJ];cases hp:js3 o.syms t.args[i]<;>rw[hp]at e3
  .simp only[jg,hlt,jb hi,ji,e3,Bool.false_and]
  .simp only[jg,hlt,jb hi,ji,e3,h5,ih',Bool.true_and]
def ji0(o:Ord')(t:T):Bool:=kV t && js3 o.syms t
theorem jAY(o:Ord')(t:T)(ho:o.syms.length<=9223372036854775807)(hw:KZ t)(hs:tsz t<=1048576):G 171 [od o,tm t]=some (vb (ji0 o t),[]):=by
 have e1:=YV t hw hs;have e2:=jBF o ho t hw;rw[jFa,ji0];cases h:kV t<;>rw[h]at e1<;>simp only[jg,e1,e2,Bool.true_and,Bool.false_and]
def jAK(o:Ord')(n:Xb):Int:=match QC n o.syms with|some k=>o.ws.getD k 0|none=>0
mutual
def wt(o:Ord'):T->Int
 |.mk n us=>(if jr n then o.var else jAK o n)+wtL o us
def wtL(o:Ord'):Xg->Int
 | []=>0
 |t::ts=>wt o t+wtL o ts
end
theorem jBO(o:Ord')(t:T):wt o t=(if jr t.name then o.var else jAK o t.name)+wtL o t.args:=by cases t;rfl
theorem jen{o:Ord'}(h:jmi o=true):o.ws.length=o.syms.length/\1<=o.var/\o.var<=100/\ ∀i,i<o.syms.length->o.var<=o.ws.getD i 0/\o.ws.getD i 0<=100:=by
 simp only[jmi,Bool.and_eq_true,decide_eq_true_eq,ZW]at h;obtain⟨_,h2,⟨h3,h4⟩,h5⟩:=h;refine⟨h2,h3,h4,λi hi=>?_⟩;have:=List.all_eq_true.1 h5 i (by simpa using hi);simp only[jzt,Bool.and_eq_true,ZW,decide_eq_true_eq]at this;exact this.2.2
theorem jtz{o:Ord'}{n:Xb}(h:o.syms.contains n=true):∃k,QC n o.syms=some k/\k<o.syms.length:=by
 rw[<-jcr]at h;obtain⟨k,hk⟩:=Option.isSome_iff_exists.1 h;exact⟨k,hk,(jxQ hk).1⟩
theorem jBi{o:Ord'}(hv:jmi o=true){n:Xb}(h:o.syms.contains n=true):jz 1 (ints o.ws) (vi (Qo 0 (QC n o.syms)))=some (.elt (ci (jAK o n)) 0)/\1<=jAK o n/\jAK o n<=100:=by
 obtain⟨k,hk,hlt⟩:=jtz h;obtain⟨h1,h2,h3,h4⟩:=jen hv;have h5:=h4 k hlt;have hlt':k<o.ws.length:=by omega
 have e:jAK o n=o.ws[k]:=by simp[jAK,hk,List.getD_eq_getElem?_getD,hlt']
 rw[hk];have e2:Qo 0 (some k)=((k:Nat):Int):=by simp[Qo]
 rw[e2,jbx hlt',e];have e3:o.ws.getD k 0=o.ws[k]:=by simp[List.getD_eq_getElem?_getD,hlt']
 rw[e3]at h5;exact⟨rfl,by omega,by omega⟩
theorem jn6{o:Ord'}(hv:jmi o=true):∀t:T,js3 o.syms t=true->1<=wt o t/\wt o t<=100*nodes t:=by
 refine T.ind λt ih hc=>?_;rw[jbA,Bool.and_eq_true]at hc;obtain⟨h1,h2,h3,_⟩:=jen hv;have hL:∀ts:Xg,(∀u∈ts,1<=wt o u/\wt o u<=100*nodes u)->0<=wtL o ts/\wtL o ts<=100*jF ts:=by
  intro ts;induction ts with
  |nil=>intro _;simp[wtL,jF]
  |cons u us ih=>
   intro h;have a:=h u (by simp);have b:=ih λv hv=>h v (by simp[hv]);simp only[wtL,jF];omega
 have hb:=hL t.args λu hu=>ih u hu (by
  have:=hc.2;rw[jfP]at this;exact List.all_eq_true.1 this u hu)
 rw[jBO,jU];cases hn:jr t.name with
 |true=>simp only[if_true];omega
 |false=>
  have hcn:=hc.1;rw[hn,Bool.false_or]at hcn;have:=(jBi hv hcn).2;simp only[Bool.false_eq_true,if_false];omega
theorem jim{o:Ord'}(hv:jmi o=true){ts:Xg}(hc:juJ o.syms ts=true):0<=wtL o ts/\wtL o ts<=100*jF ts:=by
 induction ts with
 |nil=>simp[wtL,jF]
 |cons u us ih=>
  simp only[juJ,Bool.and_eq_true]at hc;have a:=jn6 hv u hc.1;have b:=ih hc.2;simp only[wtL,jF];omega
theorem jyU{l:Xa}{ts:Xg}(h:juJ l ts=true)(i:Nat):juJ l (ts.drop i)=true:=by
 rw[jfP]at h⊢;exact List.all_eq_true.2 λu hu=>List.all_eq_true.1 h u (List.mem_of_mem_drop hu)
theorem jbN{l:Xa}{ts:Xg}(h:juJ l ts=true){u:T}(hu:u∈ts):js3 l u=true:=by
 rw[jfP]at h;exact List.all_eq_true.1 h u hu
theorem jBN{o:Ord'}(hv:jmi o=true)(ts:Xg)(hl:ts.length<=9223372036854775807)(hn:jF ts<=1048577)(hc:juJ o.syms ts=true)(ih:∀t∈ts,G 221 [od o,tm t]=some (vi (wt o t),[])) :
  ∀i,i<=ts.length-> ∀a:Int,0<=a->a+wtL o (ts.drop i)<=200000000->jA9 (vi a) (jS ts) (vi (ts.length:Nat)) (vi i) (strs o.syms) (ints o.ws) (vi o.var)=some (vi (a+wtL o (ts.drop i)),[]):=by
 refine upto ?_ ?_
 .intro a ha hb;rw[jDc,List.drop_length];simp only[jg,wtL,Int.add_zero]
 .intro i hi ih' a ha hb;have hlt:(i:Int)<((ts.length:Nat):Int):=by omega
  have h5:=jy hi hl;have e1:=ih ts[i] (List.getElem_mem _);have b1:=jn6 hv ts[i] (jbN hc (List.getElem_mem _));have b2:=jim hv (jyU hc (i+1));rw[js hi]at hb⊢;simp only[wtL]at hb⊢;have hk:ck (a+wt o ts[i])=some (vi (a+wt o ts[i])):=jZ (by omega) (by omega);have ih':=ih' (a+wt o ts[i]) (by omega) (by omega);rw[jDc];simp only[jg,hlt,jb hi,ji,e1,hk,h5,ih',Int.add_assoc]
theorem jA4{o:Ord'}(hv:jmi o=true)(ho:o.syms.length<=9223372036854775807):∀t:T,KZ t->tsz t<=1048576->qb t=true->js3 o.syms t=true->G 221 [od o,tm t]=some (vi (wt o t),[]):=by
 refine T.ind λt ih hw hs hk hc=>?_;obtain⟨w1,w2,w3⟩:=(kQ t).1 hw;have w3:=(kK _).1 w3;have e1:=jqv t hk;have hb:=jn6 hv t hc;have hn:=Yk t;rw[jU]at hn;rw[jU]at hb;have hks:=qi hk;rw[qj]at hk;rw[jbA,Bool.and_eq_true]at hc;rw[jBO]at hb⊢;rw[jFm];cases hvn:jr t.name<;>rw[hvn]at e1 hc hk hb
 .have hcn:=hc.1;rw[Bool.false_or]at hcn;obtain⟨e2,e3,e4⟩:=jBi hv hcn;have e5:=jlj o.syms t.name ho;have hbl:=jim hv hc.2;have key:=jBN hv t.args w2 (by omega) hc.2 (λu hu=>ih u hu (w3 u hu) (by have:=yQ hu;rw[ze]at hs;omega) (hks u hu) (jbN hc.2 hu)) 0 (Nat.zero_le _) (jAK o t.name) (by omega) (by simp only[List.drop_zero];omega);simp only[Int.natCast_zero,List.drop_zero]at key;simp only[jg,e1,e5,e2,key]
 .simp only[if_true]at hk;have:t.args=[]:=List.isEmpty_iff.1 hk;rw[this];simp only[jg,e1,wtL,Int.add_zero]
theorem jy7{o:Ord'}(hv:jmi o=true)(n:Xb)(ts:Xg)(hl:ts.length<=9223372036854775807)(hc:juJ o.syms ts=true)(ih:∀t∈ts,G 203 [od o,tm t]=some (vi (wt o t),[])) :
  ∀i,i<=ts.length-> ∀a:Int,0<=a->a+wtL o (ts.drop i)<=200000000->jyO (vi a) (vi i) (strs o.syms) (ints o.ws) (vi o.var) (sv n) (jS ts)=some (vi (a+wtL o (ts.drop i)),[]):=by
 refine upto ?_ ?_
 .intro a ha hb;rw[jDa,List.drop_length];simp only[jg,wtL,Int.add_zero]
 .intro i hi ih' a ha hb;have hlt:(i:Int)<((ts.length:Nat):Int):=by omega
  have h5:=jy hi hl;have e1:=ih ts[i] (List.getElem_mem _);have b1:=jn6 hv ts[i] (jbN hc (List.getElem_mem _));have b2:=jim hv (jyU hc (i+1));rw[js hi]at hb⊢;simp only[wtL]at hb⊢;have hk:ck (a+wt o ts[i])=some (vi (a+wt o ts[i])):=jZ (by omega) (by omega);have ih':=ih' (a+wt o ts[i]) (by omega) (by omega);rw[jDa];simp only[jg,hlt,jb hi,ji,e1,hk,h5,ih',Int.add_assoc]
theorem jw4{o:Ord'}(hv:jmi o=true)(ho:o.syms.length<=9223372036854775807):∀t:T,KZ t->tsz t<=1048576->js3 o.syms t=true->G 203 [od o,tm t]=some (vi (wt o t),[]):=by
 refine T.ind λt ih hw hs hc=>?_;obtain⟨w1,w2,w3⟩:=(kQ t).1 hw;have w3:=(kK _).1 w3;have e1:=yc t.name w1;have hb:=jn6 hv t hc;have hn:=Yk t;rw[jU]at hn;rw[jU]at hb;obtain⟨_,v2,v3,_⟩:=jen hv;rw[jbA,Bool.and_eq_true]at hc;rw[jBO]at hb⊢;rw[jFh];have hbl:=jim hv hc.2;have key:=λa h1 h2=>jy7 hv t.name t.args w2 hc.2 (λu hu=>ih u hu (w3 u hu) (by have:=yQ hu;rw[ze]at hs;omega) (jbN hc.2 hu)) 0 (Nat.zero_le _) a h1 h2;simp only[Int.natCast_zero,List.drop_zero]at key;cases hvn:jr t.name<;>rw[hvn]at e1 hc hb
 .have hcn:=hc.1;rw[Bool.false_or]at hcn;obtain⟨e2,e3,e4⟩:=jBi hv hcn;have e5:=jyd o t.name ho;have key:=key (jAK o t.name) (by omega) (by omega);simp only[jg,e1,e5,e2,key]
 .have key:=key o.var (by omega) (by omega);simp only[jg,e1,key]
theorem jAU{o:Ord'}{t:T}(h:ji0 o t=true):qb t=true/\js3 o.syms t=true/\nodes t<=30:=by
 simp only[ji0,kV,jH,Bool.and_eq_true,decide_eq_true_eq]at h;exact⟨h.1.2,h.2,h.1.1.1⟩
def jwU(o:Ord')(t:T):A:=if jmi o && ji0 o t then .tup [vi (wt o t),vb true]else .tup [vi 0,vb false]
theorem juN(a b:A):jbr 2 (.elt [a,b] 0)=some (.agg [a,b]):=rfl
theorem juO(a b c:A):jbr 3 (.elt [a,b,c] 0)=some (.agg [a,b,c]):=rfl
noncomputable def dq{α:Type}(a b:α):Bool:=@decide (a=b) (Classical.propDecidable _)
theorem Kw{α:Type}{a b:α} :dq a b=true↔a=b:=by unfold dq;exact @decide_eq_true_iff _ (Classical.propDecidable _)
theorem jiR{α:Type}{a b:α} :dq a b=false↔ ¬a=b:=by unfold dq;exact @decide_eq_false_iff_not _ (Classical.propDecidable _)
theorem jhx{α:Type}(a:α):dq a a=true:=Kw.2 rfl
theorem jmS{α:Type}(a b:α)(l r:List α):dq (a::l) (b::r)=(dq a b && dq l r):=by
 rw[Bool.eq_iff_iff,Bool.and_eq_true,Kw,Kw,Kw,List.cons.injEq]
theorem jxL(s t:T):dq s t=(decide (s.name=t.name) && dq s.args t.args):=by
 cases s with
 |mk n us=>cases t with
  |mk m vs=>rw[Bool.eq_iff_iff,Bool.and_eq_true,Kw,Kw,decide_eq_true_iff,T.mk.injEq];rfl
theorem jp6{α:Type}{a b:List α}(h:¬a.length=b.length):dq a b=false:=jiR.2 λe=>h (by rw[e])
theorem jcT(ts us:Xg)(hl:ts.length<=9223372036854775807)(hlen:ts.length=us.length)(ih:∀t∈ts,∀u∈us,G 99 [tm t,tm u]=some (vb (dq t u),[])) :
  ∀i,i<=ts.length->jg8 (jS us) (.fn 99 []) (jS ts) (vi (ts.length:Nat)) (vi i)=some (vb (dq (ts.drop i) (us.drop i)),[]):=by
 refine upto ?_ ?_
 .rw [jqV,List.drop_length,hlen,List.drop_length,jhx];simp only[jg]
 .intro i hi ih';have hlt:(i:Int)<((ts.length:Nat):Int):=by omega
  have hi2:i<us.length:=by omega
  have h5:=jy hi hl;have e1:=ih ts[i] (List.getElem_mem _) us[i] (List.getElem_mem _);rw[jqV,js hi,js hi2,jmS];cases hp:dq ts[i] us[i]<;>rw[hp]at e1
  .simp only[jg,hlt,jb hi,jb hi2,ji,Je (f:=99) rfl,List.append_nil,e1,Bool.false_and]
  .simp only[jg,hlt,jb hi,jb hi2,ji,Je (f:=99) rfl,List.append_nil,e1,h5,ih',Bool.true_and]
theorem KP:∀s:T,KZ s-> ∀t:T,KZ t->G 99 [tm s,tm t]=some (vb (dq s t),[]):=by
 refine T.ind λs ih hw t hw'=>?_;obtain⟨w1,w2,w3⟩:=(kQ s).1 hw;have w3:=(kK _).1 w3;obtain⟨v1,v2,v3⟩:=(kQ t).1 hw';have v3:=(kK _).1 v3;rw[g99,jxL];by_cases hn:s.name=t.name
 .have e:G 148 [jS s.args,jS t.args,.fn 99 []]=some (vb (dq s.args t.args),[]):=by
   rw[jzX];by_cases hlen:s.args.length=t.args.length
   .have key:=jcT s.args t.args w2 hlen (λa ha b hb=>ih a ha (w3 a ha) b (v3 b hb)) 0 (Nat.zero_le _);simp only[Int.natCast_zero,List.drop_zero]at key;rw[hlen]at key;simp only[jg,hlen,key]
   .have hlen':¬((s.args.length:Nat):Int)=((t.args.length:Nat):Int):=by omega
    simp only[jg,hlen',jp6 hlen]
  simp only[jg,hn,e,Bool.true_and]
 .simp only[jg,hn,Bool.false_and]
theorem jjp(n m:Xb)(ts us:Xg)(hl:ts.length<=9223372036854775807)(hlen:ts.length=us.length)(ih:∀t∈ts,∀u∈us,G 91 [tm t,tm u]=some (vb (dq t u),[])) :
  ∀i,i<=ts.length->jmB (vi i) (sv n) (jS ts) (sv m) (jS us)=some (vb (dq (ts.drop i) (us.drop i)),[]):=by
 refine upto ?_ ?_
 .rw [jve,List.drop_length,hlen,List.drop_length,jhx];simp only[jg,hlen]
 .intro i hi ih';have hlt:(i:Int)<((ts.length:Nat):Int):=by omega
  have hi2:i<us.length:=by omega
  have h5:=jy hi hl;have e1:=ih ts[i] (List.getElem_mem _) us[i] (List.getElem_mem _);rw[jve,js hi,js hi2,jmS];cases hp:dq ts[i] us[i]<;>rw[hp]at e1
  .simp only[jg,hlt,jb hi,jb hi2,ji,e1,Bool.false_and]
  .simp only[jg,hlt,jb hi,jb hi2,ji,e1,h5,ih',Bool.true_and]
theorem jf7:∀s:T,KZ s-> ∀t:T,KZ t->G 91 [tm s,tm t]=some (vb (dq s t),[]):=by
 refine T.ind λs ih hw t hw'=>?_;obtain⟨w1,w2,w3⟩:=(kQ s).1 hw;have w3:=(kK _).1 w3;obtain⟨v1,v2,v3⟩:=(kQ t).1 hw';have v3:=(kK _).1 v3;rw[g91,jxL];by_cases hn:s.name=t.name
 .by_cases hlen:s.args.length=t.args.length
  .have key:=jjp t.name t.name s.args t.args w2 hlen (λa ha b hb=>ih a ha (w3 a ha) b (v3 b hb)) 0 (Nat.zero_le _);simp only[Int.natCast_zero,List.drop_zero]at key;simp only[jg,hn,hlen,key,Bool.true_and]
  .have hlen':¬((s.args.length:Nat):Int)=((t.args.length:Nat):Int):=by omega
   simp only[jg,hn,hlen',jp6 hlen,Bool.and_false]
 .simp only[jg,hn,Bool.false_and]
def rk(o:Ord')(t:T):Int:=Qo 0 (QC t.name o.syms)
def jxI(a b:Int):Int:=if a<b then -1 else if b<a then 1 else 0
def jnw(o:Ord')(s t:T):Int:=if rk o s=rk o t then jxI (s.args.length:Nat) (t.args.length:Nat)else jxI (rk o s) (rk o t)
theorem jDN(o:Ord')(s t:T)(ho:o.syms.length<=9223372036854775807):G 204 [od o,tm s,tm t]=some (vi (jnw o s t),[]):=by
 have e1:=jyd o s.name ho;have e2:=jyd o t.name ho;rw[jFi];by_cases h:rk o s=rk o t
 .have h':Qo 0 (QC s.name o.syms)=Qo 0 (QC t.name o.syms):=h;by_cases h1:((s.args.length:Nat):Int)<((t.args.length:Nat):Int)
  .simp only[jg,e1,e2,h',jnw,rk,jxI,h1]
  .by_cases h2:((t.args.length:Nat):Int)<((s.args.length:Nat):Int)
   .simp only[jg,e1,e2,h',jnw,rk,jxI,h1,h2]
   .simp only[jg,e1,e2,h',jnw,rk,jxI,h1,h2]
 .have h':¬Qo 0 (QC s.name o.syms)=Qo 0 (QC t.name o.syms):=h;by_cases h1:Qo 0 (QC s.name o.syms)<Qo 0 (QC t.name o.syms)
  .simp only[jg,e1,e2,h',jnw,rk,jxI,h1]
  .by_cases h2:Qo 0 (QC t.name o.syms)<Qo 0 (QC s.name o.syms)
   .simp only[jg,e1,e2,h',jnw,rk,jxI,h1,h2]
   .simp only[jg,e1,e2,h',jnw,rk,jxI,h1,h2]
theorem jBI(o:Ord')(s t:T)(ho:o.syms.length<=9223372036854775807):G 222 [od o,tm s,tm t]=some (vb (decide (jnw o s t<0)),[]):=by
 have e1:=jlj o.syms s.name ho;have e2:=jlj o.syms t.name ho;rw[jFn];by_cases h:rk o s=rk o t
 .have h':Qo 0 (QC s.name o.syms)=Qo 0 (QC t.name o.syms):=h;by_cases h1:((s.args.length:Nat):Int)<((t.args.length:Nat):Int)
  .simp only[jg,e1,e2,h',jnw,rk,jxI,h1]
  .by_cases h2:((t.args.length:Nat):Int)<((s.args.length:Nat):Int)
   .simp only[jg,e1,e2,h',jnw,rk,jxI,h1,h2];rfl
   .simp only[jg,e1,e2,h',jnw,rk,jxI,h1,h2]
 .have h':¬Qo 0 (QC s.name o.syms)=Qo 0 (QC t.name o.syms):=h;by_cases h1:Qo 0 (QC s.name o.syms)<Qo 0 (QC t.name o.syms)
  .simp only[jg,e1,e2,h',jnw,rk,jxI,h1]
  .have h2:Qo 0 (QC t.name o.syms)<Qo 0 (QC s.name o.syms):=by omega
   simp only[jg,e1,e2,h',jnw,rk,jxI,h1,h2];rfl
noncomputable def fd:Xg->Xg->Option (T×T)
 |a::l,b::r=>if dq a b=true then fd l r else some (a,b)
 |_,_=>none
theorem jBc:∀{l r:Xg}{a b:T},fd l r=some (a,b)->a∈l/\b∈r
 | [],_,_,_,h=>by simp[fd]at h
 |_::_,[],_,_,h=>by simp[fd]at h
 |x::l,y::r,a,b,h=>by
  simp only[fd]at h;split at h
  .have:=jBc h;exact⟨by simp[this.1],by simp[this.2]⟩
  .cases h;exact⟨by simp,by simp⟩
theorem jC1(s t:T)(hw:KZ s)(hw':KZ t)(hlen:s.args.length=t.args.length) :
  (fd s.args t.args=none/\G 205 [tm s,tm t]=some (vi (-1),[]))\/ ∃(k:Nat)(h1:k<s.args.length)(h2:k<t.args.length),fd s.args t.args=some (s.args[k],t.args[k])/\G 205 [tm s,tm t]=some (vi k,[]):=by
 obtain⟨w1,w2,w3⟩:=(kQ s).1 hw;have w3:=(kK _).1 w3;obtain⟨v1,v2,v3⟩:=(kQ t).1 hw';have v3:=(kK _).1 v3;have key:=upto (P:=λi=>(fd (s.args.drop i) (t.args.drop i)=none/\jyP (vi i) (sv s.name) (jS s.args) (sv t.name) (jS t.args)=some (vi (-1),[]))\/ ∃(k:Nat)(h1:k<s.args.length)(h2:k<t.args.length),fd (s.args.drop i) (t.args.drop i)=some (s.args[k],t.args[k])/\jyP (vi i) (sv s.name) (jS s.args) (sv t.name) (jS t.args)=some (vi k,[])) (n:=s.args.length) ?_ ?_ 0 (Nat.zero_le _)
 .simp only[Int.natCast_zero,List.drop_zero]at key;rw[jFj];rcases key with⟨h1,h2⟩|⟨k,h1,h2,h3,h4⟩
  .exact Or.inl ⟨h1,by simp only[jg,h2]⟩
  .exact Or.inr ⟨k,h1,h2,h3,by simp only[jg,h4]⟩
 .left;rw[jDb,List.drop_length];refine⟨by simp[fd],?_⟩;simp only[jg]
 .intro i hi ih;have hlt:(i:Int)<((s.args.length:Nat):Int):=by omega
  have hi2:i<t.args.length:=by omega
  have h5:=jy hi w2;have e1:=jf7 s.args[i] (w3 _ (List.getElem_mem _)) t.args[i] (v3 _ (List.getElem_mem _));rw[jDb,js hi,js hi2,fd];cases hp:dq s.args[i] t.args[i]<;>rw[hp]at e1
  .refine Or.inr ⟨i,hi,hi2,by simp,?_⟩;simp only[jg,hlt,jb hi,jb hi2,ji,e1]
  .simp only[jg,hlt,jb hi,jb hi2,ji,e1,h5];exact ih
def zT:A:= .agg [sv [],.sl 2 []]
noncomputable def fdR(s t:T):A:=match fd s.args t.args with|some (a,b)=>.tup [tm a,tm b,vb true]|none=>.tup [zT,zT,vb false]
theorem juw(s t:T)(hw:KZ s)(hw':KZ t)(hn:s.name=t.name)(hlen:s.args.length=t.args.length):G 223 [tm s,tm t]=some (fdR s t,[]):=by
 obtain⟨w1,w2,w3⟩:=(kQ s).1 hw;have w3:=(kK _).1 w3;obtain⟨v1,v2,v3⟩:=(kQ t).1 hw';have v3:=(kK _).1 v3;have key:=upto (P:=λi=>jBa (jS s.args) (vi (s.args.length:Nat)) (vi i) (sv t.name) (jS t.args) (sv []) (sv []) [] []=some ((match fd (s.args.drop i) (t.args.drop i)with|some (a,b)=>.tup [tm a,tm b,vb true]|none=>.tup [zT,zT,vb false]),[])) (n:=s.args.length) ?_ ?_ 0 (Nat.zero_le _)
 .simp only[Int.natCast_zero,List.drop_zero]at key;rw[jED,fdR];simp only[hlen]at key;simp only[jg,hn,hlen,key]
 .rw [jDd,List.drop_length];simp only[jg,fd,zT]
 .intro i hi ih;have hlt:(i:Int)<((s.args.length:Nat):Int):=by omega
  have hi2:i<t.args.length:=by omega
  have h5:=jy hi w2;have e1:=KP s.args[i] (w3 _ (List.getElem_mem _)) t.args[i] (v3 _ (List.getElem_mem _));rw[jDd,js hi,js hi2,fd];cases hp:dq s.args[i] t.args[i]<;>rw[hp]at e1
  .simp only[jg,hlt,jb hi,jb hi2,ji,e1]
  .simp only[jg,hlt,jb hi,jb hi2,ji,e1,h5,ih]
theorem juF(s t:T)(h:¬(s.name=t.name/\s.args.length=t.args.length)):G 223 [tm s,tm t]=some (.tup [zT,zT,vb false],[]):=by
 rw[jED];by_cases hn:s.name=t.name
 .have hlen':¬((s.args.length:Nat):Int)=((t.args.length:Nat):Int):=λe=>h ⟨hn,by omega⟩;simp only[jg,hn,hlen',zT]
 .simp only[jg,hn,zT]
noncomputable def joe(o:Ord'):Nat->T->T->Bool
 |0,_,_=>false
 |n+1,s,t=>if jr s.name then false else if(s.args.any λa=>dq a t || joe o n a t)then true else if jr t.name then false
   else if(t.args.any λb=> !joe o n s b)then false else if 0<jnw o s t then true else if jnw o s t<0 then false
   else match fd s.args t.args with|some (a,b)=>joe o n a b|none=>false
theorem jEl{o:Ord'}{s t:T}(h1:o.syms.contains s.name=true)(h2:o.syms.contains t.name=true)(h:rk o s=rk o t):s.name=t.name:=by
 obtain⟨k,hk,_⟩:=jtz h1;obtain⟨j,hj,_⟩:=jtz h2;have a1:=(jxQ hk).2;have a2:=(jxQ hj).2;simp only[rk,hk,hj,Qo,Nat.zero_add]at h;have:k=j:=by omega
 subst this;rw[a1]at a2;exact Option.some.inj a2
theorem jB3(o:Ord')(s t:T):jnw o t s = - jnw o s t:=by
 unfold jnw;by_cases h:rk o s=rk o t
 .rw [if_pos h,if_pos h.symm];unfold jxI;split<;>split<;>(try split)<;>omega
 .rw [if_neg h,if_neg (Ne.symm h)];unfold jxI;split<;>split<;>(try split)<;>omega
def juH(e g l:Bool):Int:=if e then 1 else if g then 2 else if l then 3 else 0
theorem jCE(e g l:Bool):G 172 [vb e,vb g,vb l]=some (vi (juH e g l),[]):=by
 rw[jFb];cases e<;>cases g<;>cases l<;>simp only[jg,juH]
theorem jyX{f g:FuncId}{caps caps':Xd}(hf:K.pureF f=true)(hg:K.pureF g=true)(e gr le:Bool)(h1:G f caps=some (vb gr,[]))(h2:G g caps'=some (vb le,[])) :
  G 178 [vb e,.fn f caps,.fn g caps']=some (vi (juH e gr le),[]):=by
 rw[jFe];cases e<;>cases gr<;>cases le<;>simp only[jg,Je hf,Je hg,List.nil_append,h1,h2,juH]
noncomputable def jv5(o:Ord')(s t:T):Int:=juH (dq s t) (joe o (nodes s+nodes t) s t) (joe o (nodes s+nodes t) t s)
noncomputable def jwa(o:Ord')(s t:T):A:=if jmi o && (ji0 o s && ji0 o t)then .tup [vi (jv5 o s t),vb true]else .tup [vi 0,vb false]
theorem jrf{left:Int}{n:Nat}(h0:0<=left)(h1:left<=1048576)(h:¬kL left (n:Int)<0):0<=kL left (n:Int)/\kL left (n:Int)<=1048576/\n<=1048576:=by
 unfold kL at h⊢;split at h
 .rename_i hc;rw[if_pos hc];omega
 .exact absurd jnj h
mutual
def ke:T->Xa
 |.mk n us=>if jr n then[n]else z7 us
def z7:Xg->Xa
 | []=>[]
 |t::ts=>ke t++z7 ts
end
theorem YI(t:T):ke t=if jr t.name then[t.name]else z7 t.args:=by cases t;rfl
theorem jaY{n:Nat}(h:n<=4000000):jO n 16=true:=by
 unfold jO;simp;omega
def jps(l:Xa)(vs:Xa)(k:Nat)(r:Xa):Prop:=(∀n,n∈r↔n∈l\/n∈vs)/\r.length<=l.length+k
theorem jy4(ts:Xg)(hl:ts.length<=9223372036854775807)(hn:jF ts<=1048577)(ih:∀t∈ts,∀l:Xa,l.length+nodes t<=2100000-> ∃r,jdm (sv t.name) (jS t.args) (l.map cs)=some (.top,[strs r])/\jps l (ke t) (nodes t) r) :
  ∀i,i<=ts.length-> ∀l:Xa,l.length+jF (ts.drop i)<=2100000-> ∃r,jag (jS ts) (vi (ts.length:Nat)) (vi i) (l.map cs)=some (.top,[strs r])/\jps l (z7 (ts.drop i)) (jF (ts.drop i)) r:=by
 refine upto ?_ ?_
 .intro l hb;rw[jec,List.drop_length];refine⟨l,?_,by simp[z7],by omega⟩;simp only[jg]
 .intro i hi ih' l hb;have hlt:(i:Int)<((ts.length:Nat):Int):=by omega
  have h5:=jy hi hl;rw[js hi]at hb⊢;simp only[jF,z7]at hb⊢;obtain⟨r1,e1,c1,c2⟩:=ih ts[i] (List.getElem_mem _) l (by omega);obtain⟨r2,e2,d1,d2⟩:=ih' r1 (by omega);rw[jec];refine⟨r2,?_,?_,by omega⟩
  .simp only[jg,hlt,jb hi,ji,e1,h5,e2]
  .intro n;rw[d1,c1,List.mem_append];exact or_assoc
theorem jBW:∀t:T,KZ t->qb t=true->nodes t<=1048577-> ∀l:Xa,l.length+nodes t<=2100000-> ∃r,jdm (sv t.name) (jS t.args) (l.map cs)=some (.top,[strs r])/\jps l (ke t) (nodes t) r:=by
 refine T.ind λt ih hw hk hn l hb=>?_;obtain⟨w1,w2,w3⟩:=(kQ t).1 hw;have w3:=(kK _).1 w3;have hks:=qi hk;have e1:=jqv t hk;rw[jvV,YI];have hpos:=Zc t;rw[jU]at hn hb⊢;cases hv:jr t.name<;>rw[hv]at e1
 .
  have ih':∀u∈t.args,∀l:Xa,l.length+nodes u<=2100000-> ∃r,jdm (sv u.name) (jS u.args) (l.map cs)=some (.top,[strs r])/\jps l (ke u) (nodes u) r:=λu hu=>ih u hu (w3 u hu) (hks u hu) (by have:=ZA hu;omega)
  have loop:=jy4 t.args w2 (by omega) ih';have start:∃r,jaf (jS t.args) (vi (t.args.length:Nat)) (vi 0) (l.map cs)=some (.top,[strs r])/\jps l (z7 t.args) (jF t.args) r:=by
   rw[jqU];by_cases h0:t.args.length=0
   .have ha:t.args=[]:=List.length_eq_zero_iff.1 h0;rw[ha];refine⟨l,?_,by simp[z7],by simp[jF]⟩;simp only[jg];rfl
   .have hi:0<t.args.length:=by omega
    have hlt:(0:Int)<((t.args.length:Nat):Int):=by omega
    have hix:jz 2 (jS t.args) (vi 0)=some (.elt (jm t.args[0]) 0):=jb (i:=0) hi;have h5:jq .add false (vi 0) (vi 1)=some (vi ((1:Nat):Int)):=by rw[Zf,jZ (by decide) (by decide)];rfl
    have hd:t.args=t.args[0]::t.args.drop 1:=by have:=js hi;simpa using this
    have hns:jF t.args=nodes t.args[0]+jF (t.args.drop 1):=by conv=>lhs;rw[hd,jF]
    have hvs:z7 t.args=ke t.args[0]++z7 (t.args.drop 1):=by conv=>lhs;rw[hd,z7]
    obtain⟨r1,e1,c1,c2⟩:=ih' t.args[0] (List.getElem_mem _) l (by omega);obtain⟨r2,e2,d1,d2⟩:=loop 1 (by omega) r1 (by omega);refine⟨r2,?_,?_,by omega⟩
    .simp only[jg,hlt,hix,ji,e1,h5,e2]
    .intro n;rw[d1,c1,hvs,List.mem_append];exact or_assoc
  obtain⟨r,e2,d1,d2⟩:=start;refine⟨r,?_,by simpa using d1,by omega⟩;cases h0:decide (((t.args.length:Nat):Int)=0)
  .simp only[jg,h0,e2]
  .simp only[jg,h0,e1,e2]
 .have ha:t.args=[]:=by
   rw[qj,hv]at hk;simpa using hk
  have h0:decide (((t.args.length:Nat):Int)=0)=true:=by rw[ha];rfl
  have e3:=Qm l t.name (by omega);cases hc:l.contains t.name<;>rw[hc]at e3
  .have hf:jO (l.length+1) 16=true:=jaY (by omega);refine⟨l++[t.name],?_,by simp,by simp⟩;have happ:j4 (l.map cs) [[sv t.name]]=(l++[t.name]).map cs:=by simp[j4]
   simp only[jg,h0,e1,e3,hf,happ]
  .refine ⟨l,?_,λn=>⟨λh=>Or.inl h,λh=>by
    rcases h with h|h
    .exact h
    .simp at h;subst h;simpa using hc⟩,by omega⟩
   simp only[jg,h0,e1,e3]
theorem jvw(t:T)(hw:KZ t)(hk:qb t=true)(hn:nodes t<=1048577):∃r,G 220 [tm t]=some (strs r,[])/\(∀n,n∈r↔n∈ke t)/\r.length<=9223372036854775807:=by
 obtain⟨r,e1,c1,c2⟩:=jBW t hw hk hn [] (by simp;omega)
 have e2:jyi (r.map cs)=some (.top,[strs (yG r)]):=by
  rw[jCW];simp only[jse,jl1];rw[if_pos (by simp at c2;omega)]
 refine⟨yG r,?_,λn=>?_,by simp[yG];simp at c2;omega⟩
 .rw [jFl];simp only[List.map_nil]at e1;simp only[jg,e1,e2]
 .unfold yG;rw[List.mem_mergeSort,c1];simp
mutual
def cnt(n:Xb):T->Nat
 |.mk m us=>(if m=n then 1 else 0)+ZU n us
def ZU(n:Xb):Xg->Nat
 | []=>0
 |t::ts=>cnt n t+ZU n ts
end
theorem jk9(n:Xb)(t:T):cnt n t=(if t.name=n then 1 else 0)+ZU n t.args:=by cases t;rfl
theorem jv6(n:Xb):∀t:T,cnt n t<=nodes t:=by
 refine T.ind λt ih=>?_;have:∀ts:Xg,(∀u∈ts,cnt n u<=nodes u)->ZU n ts<=jF ts:=by
  intro ts;induction ts with
  |nil=>intro _;simp[ZU]
  |cons u us ih=>
   intro h;have h1:=h u (by simp);have h2:=ih λv hv=>h v (by simp[hv]);simp only[ZU,jF];omega
 have h:=this t.args ih;rw[jk9,jU];split<;>omega
theorem js2(n:Xb)(ts:Xg):ZU n ts<=jF ts:=by
 induction ts with
 |nil=>simp[ZU]
 |cons u us ih=>have:=jv6 n u;simp only[ZU,jF];omega
theorem jdO(n:Xb)(ts:Xg)(hl:ts.length<=9223372036854775807)(hn:jF ts<=1048577)(ih:∀t∈ts,G 188 [tm t,sv n]=some (vi (cnt n t:Nat),[])) :
  ∀i,i<=ts.length-> ∀a:Nat,a+ZU n (ts.drop i)<=1048579->jdx (sv n) (vi a) (jS ts) (vi (ts.length:Nat)) (vi i)=some (vi ((a+ZU n (ts.drop i):Nat):Int),[]):=by
 refine upto ?_ ?_
 .intro a ha;rw[jq5,List.drop_length];simp only[jg,ZU,Nat.add_zero]
 .intro i hi ih' a ha;have hlt:(i:Int)<((ts.length:Nat):Int):=by omega
  have h5:=jy hi hl;have e1:=ih ts[i] (List.getElem_mem _);rw[js hi]at ha⊢;simp only[ZU]at ha⊢;have hk:ck ((a:Int)+((cnt n ts[i]:Nat):Int))=some (vi ((a+cnt n ts[i]:Nat):Int)):=by rw[jZ (by omega) (by omega)];rfl
  have ih':=ih' (a+cnt n ts[i]) (by omega);rw[jq5];simp only[jg,hlt,jb hi,ji,e1,hk,h5,ih',Nat.add_assoc]
theorem jhv(n:Xb):∀t:T,KZ t->nodes t<=1048577->G 188 [tm t,sv n]=some (vi (cnt n t:Nat),[]):=by
 refine T.ind λt ih hw hn=>?_;obtain⟨w1,w2,w3⟩:=(kQ t).1 hw;have w3:=(kK _).1 w3;rw[jU]at hn;have hc:=js2 n t.args;have key:=λa h=>jdO n t.args w2 (by omega) (λu hu=>ih u hu (w3 u hu) (by have:=ZA hu;omega)) 0 (Nat.zero_le _) a h;simp only[Int.natCast_zero,List.drop_zero]at key;rw[jAh,jk9];by_cases h:t.name=n
 .have key:=key 1 (by omega);simp only[Int.natCast_one]at key;simp only[jg,h,key]
 .have key:=key 0 (by omega);simp only[Int.natCast_zero]at key;simp only[jg,h,key]
theorem jBg(m n:Xb)(ts:Xg)(hl:ts.length<=9223372036854775807)(hn:jF ts<=1048577)(ih:∀t∈ts,G 245 [tm t,sv n]=some (vi (cnt n t:Nat),[])) :
  ∀i,i<=ts.length-> ∀a:Nat,a+ZU n (ts.drop i)<=1048579->jyQ (sv n) (vi a) (vi i) (sv m) (jS ts)=some (vi ((a+ZU n (ts.drop i):Nat):Int),[]):=by
 refine upto ?_ ?_
 .intro a ha;rw[jDf,List.drop_length];simp only[jg,ZU,Nat.add_zero]
 .intro i hi ih' a ha;have hlt:(i:Int)<((ts.length:Nat):Int):=by omega
  have h5:=jy hi hl;have e1:=ih ts[i] (List.getElem_mem _);rw[js hi]at ha⊢;simp only[ZU]at ha⊢;have hk:ck ((a:Int)+((cnt n ts[i]:Nat):Int))=some (vi ((a+cnt n ts[i]:Nat):Int)):=by rw[jZ (by omega) (by omega)];rfl
  have ih':=ih' (a+cnt n ts[i]) (by omega);rw[jDf];simp only[jg,hlt,jb hi,ji,e1,hk,h5,ih',Nat.add_assoc]
theorem jyV(n:Xb):∀t:T,KZ t->nodes t<=1048577->G 245 [tm t,sv n]=some (vi (cnt n t:Nat),[]):=by
 refine T.ind λt ih hw hn=>?_;obtain⟨w1,w2,w3⟩:=(kQ t).1 hw;have w3:=(kK _).1 w3;rw[jU]at hn;have hc:=js2 n t.args;have key:=λa h=>jBg t.name n t.args w2 (by omega) (λu hu=>ih u hu (w3 u hu) (by have:=ZA hu;omega)) 0 (Nat.zero_le _) a h;simp only[Int.natCast_zero,List.drop_zero]at key;rw[jFp,jk9];by_cases h:t.name=n
 .have key:=key 1 (by omega);simp only[Int.natCast_one]at key;rw[h]at key;simp only[jg,h,key]
 .have key:=key 0 (by omega);simp only[Int.natCast_zero]at key;simp only[jg,h,key]
theorem jq8(l:Xa)(s:Xb)(hl:l.length<=2100000):∃r,G 169 [strs l,sv s]=some (strs r,[])/\jps l [s] 1 r:=by
 have key:=upto (P:=λi=>∃r,jhe (strs l) (sv s) (vi i)=some (strs r,[])/\jps l [s] 1 r) (n:=l.length) ?_ ?_ 0 (Nat.zero_le _)
 .simp only[Int.natCast_zero]at key;rw[jAb];exact key
 .have hx:¬((l.length:Nat):Int)<((l.length:Nat):Int):=Int.lt_irrefl _;have s1:yt 1 (strs l) none (some (vi (l.length:Nat)))=some (strs l):=by rw[Yr (by simp),List.take_of_length_le (by simp)]
  have s2:yt 1 (strs l) (some (vi (l.length:Nat))) none=some (.sl 1 []):=by rw[Yq (by simp),List.drop_of_length_le (by simp)]
  have f1:jO l.length 16=true:=jaY (by omega);have f2:jO (l.length+1) 16=true:=jaY (by omega);have happ:j4 (j4 (l.map cs) [[sv s]]) []=(l++[s]).map cs:=by simp[j4]
  have hlen:(j4 (l.map cs) [[sv s]]).length=l.length+1:=by simp[j4]
  refine⟨l++[s],?_,by intro n;simp,by simp⟩
  rw[jq0];simp only[jg,hx,s1,s2,f1,f2,hlen,happ,Nat.add_zero]
 .intro i hi ih;have hlt:(i:Int)<((l.length:Nat):Int):=by omega
  have h5:=jy hi (by omega);rw[jq0];cases h1:zz l[i] s
  .by_cases h2:l[i]=s
   .refine ⟨l,?_,λn=>⟨λh=>Or.inl h,λh=>by
     rcases h with h|h
     .exact h
     .simp at h;rw[h,<-h2];exact List.getElem_mem _⟩,by omega⟩
    rw[h2]at h1;simp only[jg,hlt,jb hi,h2,h1]
   .have s1:yt 1 (strs l) none (some (vi i))=some (strs (l.take i)):=by rw[Yr (by simp;omega),<-List.map_take]
    have s2:yt 1 (strs l) (some (vi i)) none=some (strs (l.drop i)):=by rw[Yq (by simp;omega),<-List.map_drop]
    have ht:(l.take i).length=i:=by rw[List.length_take];omega
    have f1:jO i 16=true:=jaY (by omega);have f2:jO (i+1) 16=true:=jaY (by omega);have f3:jO (i+1+(l.drop i).length) 16=true:=jaY (by rw[List.length_drop];omega);have happ:j4 (j4 ((l.take i).map cs) [[sv s]]) ((l.drop i).map cs)=(l.take i++[s]++l.drop i).map cs:=by simp[j4]
    have hlen:(j4 ((l.take i).map cs) [[sv s]]).length=i+1:=by simp[j4];omega
    refine⟨l.take i++[s]++l.drop i,?_,λn=>?_,by simp;omega⟩
    .simp only[jg,hlt,jb hi,h1,h2,s1,s2,ht,f1,f2,f3,hlen,happ]
    .have hm:n∈l↔n∈l.take i\/n∈l.drop i:=by rw[<-List.mem_append,List.take_append_drop]
     simp only[List.mem_append,List.mem_singleton,hm];exact⟨λh=>by rcases h with(h|h)|h<;>simp[h],λh=>by rcases h with(h|h)|h<;>simp[h]⟩
  .obtain ⟨r,e,c⟩:=ih;refine⟨r,?_,c⟩;simp only[jg,hlt,jb hi,h1,h5,e]
theorem jn7:∀t:T,KZ t-> ∀l:Xa,l.length+nodes t<=2100000-> ∃r,G 183 [strs l,tm t]=some (strs r,[])/\jps l (ke t) (nodes t) r:=by
 refine T.ind λt ih hw l hb=>?_;obtain⟨w1,w2,w3⟩:=(kQ t).1 hw;have w3:=(kK _).1 w3;have e1:=yc t.name w1;rw[jAe,YI];rw[jU]at hb⊢;cases hv:jr t.name<;>rw[hv]at e1
 .have key:=upto (P:=λi=>∀l:Xa,l.length+jF (t.args.drop i)<=2100000-> ∃r,jhf (strs l) (vi i) (sv t.name) (jS t.args)=some (strs r,[])/\jps l (z7 (t.args.drop i)) (jF (t.args.drop i)) r) (n:=t.args.length) ?_ ?_ 0 (Nat.zero_le _)
  .simp only[Int.natCast_zero,List.drop_zero]at key;obtain⟨r,e,c1,c2⟩:=key l (by omega);refine⟨r,?_,by simpa using c1,by omega⟩;simp only[jg,e1,e]
  .intro l hb;rw[jq1,List.drop_length];refine⟨l,?_,by simp[z7],by omega⟩;simp only[jg]
  .intro i hi ih' l hb;have hlt:(i:Int)<((t.args.length:Nat):Int):=by omega
   have h5:=jy hi w2;rw[js hi]at hb⊢;simp only[jF,z7]at hb⊢;obtain⟨r1,a1,c1,c2⟩:=ih t.args[i] (List.getElem_mem _) (w3 _ (List.getElem_mem _)) l (by omega);obtain⟨r2,a2,d1,d2⟩:=ih' r1 (by omega);rw[jq1];refine⟨r2,?_,?_,by omega⟩
   .simp only[jg,hlt,jb hi,ji,a1,h5,a2]
   .intro n;rw[d1,c1,List.mem_append];exact or_assoc
 .obtain ⟨r,e,c1,c2⟩:=jq8 l t.name (by omega);refine⟨r,?_,by simpa using c1,by omega⟩;simp only[jg,e1,e]
theorem jn9(t:T)(hw:KZ t)(hn:nodes t<=1048577):∃r,G 138 [tm t]=some (strs r,[])/\(∀n,n∈r↔n∈ke t)/\r.length<=9223372036854775807:=by
 obtain⟨r,e,c1,c2⟩:=jn7 t hw [] (by simp;omega)
 have e:G 183 [.sl 1 [],tm t]=some (strs r,[]):=e;refine⟨r,?_,λn=>by rw[c1];simp,by simp at c2;omega⟩;rw[jzQ];simp only[jg,e]
def bal(s t:T):Bool:=(ke t).all λn=>decide (cnt n t<=cnt n s)
theorem jCV{r:Xa}{s t:T}(h:∀n,n∈r↔n∈ke t):(r.all λn=>decide (cnt n t<=cnt n s))=bal s t:=by
 unfold bal;rw[Bool.eq_iff_iff,List.all_eq_true,List.all_eq_true];exact⟨λa n hn=>a n ((h n).2 hn),λa n hn=>a n ((h n).1 hn)⟩
theorem jBy(s t:T)(hw:KZ s)(hw':KZ t)(hs:nodes s<=1048577)(ht:nodes t<=1048577):G 202 [tm s,tm t]=some (vb (bal s t),[]):=by
 obtain⟨r,e,c1,c2⟩:=jn9 t hw' ht;have key:=upto (P:=λi=>jA8 (strs r) (vi i) (sv s.name) (jS s.args) (sv t.name) (jS t.args)=some (vb ((r.drop i).all λn=>decide (cnt n t<=cnt n s)),[])) (n:=r.length) ?_ ?_ 0 (Nat.zero_le _)
 .simp only[Int.natCast_zero,List.drop_zero]at key;rw[jCV c1]at key;rw[jFg];simp only[jg,e,key]
 .rw [jC9,List.drop_length];simp only[jg]
 .intro i hi ih;have hlt:(i:Int)<((r.length:Nat):Int):=by omega
  have h5:=jy hi c2;have e1:=jyV r[i] s hw hs;have e2:=jyV r[i] t hw' ht;rw[jC9,js hi,List.all_cons];by_cases h:cnt r[i] t<=cnt r[i] s
  .have h':¬((cnt r[i] s:Nat):Int)<((cnt r[i] t:Nat):Int):=by omega
   simp only[jg,hlt,jb hi,e1,e2,h',h,h5,ih,Bool.true_and]
  .have h':((cnt r[i] s:Nat):Int)<((cnt r[i] t:Nat):Int):=by omega
   simp only[jg,hlt,jb hi,e1,e2,h',h,Bool.false_and]
noncomputable def jtB(o:Ord'):Nat->T->T->Bool
 |0,_,_=>false
 |n+1,s,t=>if bal s t then(if wt o s=wt o t then(if jr s.name || jr t.name then false else if jnw o s t=0 then(match fd s.args t.args with|some (a,b)=>jtB o n a b|none=>false)else decide (0<jnw o s t))else decide (wt o t<wt o s))else false
theorem jBB{s t a b:T}{n:Nat}(ha:a∈s.args)(hb:b∈t.args)(h:nodes s+nodes t<=n+1):nodes a+nodes b<=n:=by
 have h1:=ZA ha;have h2:=ZA hb;rw[jU s,jU t]at h;omega
theorem jA1{o:Ord'}{s t:T}(h:jnw o s t=0):rk o s=rk o t/\s.args.length=t.args.length:=by
 unfold jnw jxI at h;split at h
 .rename_i h1;refine⟨h1,?_⟩;split at h
  .cases h
  .split at h
   .cases h
   .omega
 .split at h
  .cases h
  .split at h
   .cases h
   .omega
theorem jyW{o:Ord'}(hv:jmi o=true)(ho:o.syms.length<=9223372036854775807):∀(n:Nat)(s t:T),nodes s+nodes t<=n->KZ s->KZ t->tsz s<=1048576->tsz t<=1048576->js3 o.syms s=true->js3 o.syms t=true->G 173 [od o,tm s,tm t]=some (vb (jtB o n s t),[])
 |0,s,t,h,_,_,_,_,_,_=>by have:=Zc s;omega
 |n+1,s,t,h,hw,hw',hs,ht,hc,hc'=>by
  obtain⟨w1,w2,w3⟩:=(kQ s).1 hw;have w3:=(kK _).1 w3;obtain⟨v1,v2,v3⟩:=(kQ t).1 hw';have v3:=(kK _).1 v3;have hns:=Yk s;have hnt:=Yk t;have e1:=jBy s t hw hw' (by omega) (by omega);have e2:=jw4 hv ho s hw hs hc;have e3:=jw4 hv ho t hw' ht hc';have e4:=yc s.name w1;have e5:=yc t.name v1;have e6:=jDN o s t ho;have cs1:∀a∈s.args,js3 o.syms a=true:=λa ha=>by rw[jbA,Bool.and_eq_true]at hc;exact jbN hc.2 ha
  have cs2:∀a∈t.args,js3 o.syms a=true:=λa ha=>by rw[jbA,Bool.and_eq_true]at hc';exact jbN hc'.2 ha
  rw[jFc,jtB];cases hb:bal s t<;>rw[hb]at e1
  .simp only[jg,e1]
  by_cases hwt:wt o s=wt o t;rotate_left
  .simp only[jg,e1,e2,e3,hwt]
  cases hv1:jr s.name<;>rw[hv1]at e4
  rotate_left
  .simp only[jg,e1,e2,e3,hwt,e4,Bool.true_or]
  cases hv2:jr t.name<;>rw[hv2]at e5
  rotate_left
  .simp only[jg,e1,e2,e3,hwt,e4,e5,Bool.false_or]
  by_cases hr:jnw o s t=0;rotate_left
  .simp only[jg,e1,e2,e3,hwt,e4,e5,e6,hr,Bool.false_or]
  obtain⟨_,hlen⟩:=jA1 hr;rcases jC1 s t hw hw' hlen with⟨f1,f2⟩|⟨k,k1,k2,f1,f2⟩
  .have:¬(0:Int)<= -1:=by decide
   simp only[jg,e1,e2,e3,hwt,e4,e5,e6,hr,Bool.false_or,f1,f2,this]
  .have m1:=List.getElem_mem k1;have m2:=List.getElem_mem k2;have e7:=jyW hv ho n s.args[k] t.args[k] (jBB m1 m2 h) (w3 _ m1) (v3 _ m2) (by have:=yQ m1;rw[ze]at hs;omega) (by have:=yQ m2;rw[ze]at ht;omega) (cs1 _ m1) (cs2 _ m2);have:(0:Int)<=(k:Int):=by omega
   simp only[jg,e1,e2,e3,hwt,e4,e5,e6,hr,Bool.false_or,f1,f2,this,jb k1,jb k2,ji,e7]
theorem jBZ{o:Ord'}(hv:jmi o=true)(ho:o.syms.length<=9223372036854775807):∀(n:Nat)(s t:T),nodes s+nodes t<=n->KZ s->KZ t->tsz s<=1048576->tsz t<=1048576->qb s=true->qb t=true->js3 o.syms s=true->js3 o.syms t=true->G 180 [od o,tm s,tm t]=some (vb (jtB o n s t),[])
 |0,s,t,h,_,_,_,_,_,_,_,_=>by have:=Zc s;omega
 |n+1,s,t,h,hw,hw',hs,ht,hk,hk',hc,hc'=>by
  obtain⟨w1,w2,w3⟩:=(kQ s).1 hw;have w3:=(kK _).1 w3;obtain⟨v1,v2,v3⟩:=(kQ t).1 hw';have v3:=(kK _).1 v3;have hns:=Yk s;have hnt:=Yk t;have ks:=qi hk;have ks':=qi hk';have e2:=jA4 hv ho s hw hs hk hc;have e3:=jA4 hv ho t hw' ht hk' hc';have e4:=jqv s hk;have e5:=jqv t hk';have e6:=jBI o t s ho;rw[jB3]at e6;have cs1:∀a∈s.args,js3 o.syms a=true:=λa ha=>by rw[jbA,Bool.and_eq_true]at hc;exact jbN hc.2 ha
  have cs2:∀a∈t.args,js3 o.syms a=true:=λa ha=>by rw[jbA,Bool.and_eq_true]at hc';exact jbN hc'.2 ha
  obtain⟨r,er,c1,c2⟩:=jvw t hw' hk' (by omega);have tail:jyM (strs r) (vi (r.length:Nat)) (vi (r.length:Nat)) (strs o.syms) (ints o.ws) (vi o.var) (sv s.name) (jS s.args) (sv t.name) (jS t.args)=some (vb (if wt o s=wt o t then(if jr s.name || jr t.name then false else if jnw o s t=0 then(match fd s.args t.args with|some (a,b)=>jtB o n a b|none=>false)else decide (0<jnw o s t))else decide (wt o t<wt o s)),[]):=by
   rw[jB0];by_cases hwt:wt o s=wt o t;rotate_left
   .simp only[jg,e2,e3,hwt]
   have hnlt:¬wt o t<wt o s:=by omega
   cases hv1:jr s.name<;>rw[hv1]at e4
   rotate_left
   .simp only[jg,e2,e3,hwt,e4,Bool.true_or]
   cases hv2:jr t.name<;>rw[hv2]at e5
   rotate_left
   .simp only[jg,e2,e3,hwt,e4,e5,Bool.false_or]
   by_cases hr:jnw o s t=0
   .have hr':¬ -jnw o s t<0:=by omega
    obtain⟨hrk,hlen⟩:=jA1 hr;have hcn:o.syms.contains s.name=true:=by rw[jbA,hv1,Bool.false_or,Bool.and_eq_true]at hc;exact hc.1
    have hcn':o.syms.contains t.name=true:=by rw[jbA,hv2,Bool.false_or,Bool.and_eq_true]at hc';exact hc'.1
    have e7:=juw s t hw hw' (jEl hcn hcn' hrk) hlen;cases hf:fd s.args t.args with
    |none=>
     have:fdR s t = .tup [zT,zT,vb false]:=by unfold fdR;rw[hf]
     rw[this]at e7;simp only[hr]at e6;simp only[jg,e2,e3,hwt,e4,e5,e6,hr,Bool.false_or,e7,zT,Int.neg_zero]
    |some p=>
     obtain⟨a,b⟩:=p;have:fdR s t = .tup [tm a,tm b,vb true]:=by unfold fdR;rw[hf]
     rw[this]at e7;obtain⟨ma,mb⟩:=jBc hf;have e8:=jBZ hv ho n a b (jBB ma mb h) (w3 a ma) (v3 b mb) (by have:=yQ ma;rw[ze]at hs;omega) (by have:=yQ mb;rw[ze]at ht;omega) (ks a ma) (ks' b mb) (cs1 a ma) (cs2 b mb);simp only[hr]at e6;simp only[jg,e2,e3,hwt,e4,e5,e6,hr,Bool.false_or,e7,e8,Int.neg_zero]
   .by_cases hg:0<jnw o s t
    .have hg': -jnw o s t<0:=by omega
     simp only[jg,e2,e3,hwt,e4,e5,e6,hr,hg,hg',Bool.false_or]
    .have hg':¬ -jnw o s t<0:=by omega
     have hno:¬(s.name=t.name/\s.args.length=t.args.length):=by
      rintro⟨q1,q2⟩;apply hr;have:rk o s=rk o t:=by unfold rk;rw[q1]
      unfold jnw jxI;rw[if_pos this,q2];simp
     have e7:=juF s t hno;simp only[jg,e2,e3,hwt,e4,e5,e6,hr,hg,hg',Bool.false_or,e7,zT]
  have key:=upto (P:=λi=>jyM (strs r) (vi (r.length:Nat)) (vi i) (strs o.syms) (ints o.ws) (vi o.var) (sv s.name) (jS s.args) (sv t.name) (jS t.args)=some (vb (if((r.drop i).all λn=>decide (cnt n t<=cnt n s))then(if wt o s=wt o t then(if jr s.name || jr t.name then false else if jnw o s t=0 then(match fd s.args t.args with|some (a,b)=>jtB o n a b|none=>false)else decide (0<jnw o s t))else decide (wt o t<wt o s))else false),[])) (n:=r.length) ?_ ?_ 0 (Nat.zero_le _)
  .simp only[Int.natCast_zero,List.drop_zero]at key;rw[jCV c1]at key;rw[jEB,jtB];simp only[jg,er];exact key
  .rw [tail,List.drop_length];rfl
  .intro i hi ih;have hlt:(i:Int)<((r.length:Nat):Int):=by omega
   have h5:=jy hi c2;have a1:=jhv r[i] s hw (by omega);have a2:=jhv r[i] t hw' (by omega);rw[jB0,js hi,List.all_cons];by_cases hcn:cnt r[i] t<=cnt r[i] s
   .have h':¬((cnt r[i] s:Nat):Int)<((cnt r[i] t:Nat):Int):=by omega
    simp only[jg,hlt,jb hi,a1,a2,h',hcn,h5,ih,Bool.true_and]
   .have h':((cnt r[i] s:Nat):Int)<((cnt r[i] t:Nat):Int):=by omega
    simp only[jg,hlt,jb hi,a1,a2,h',hcn,Bool.false_and]
noncomputable def jv4(o:Ord')(s t:T):Int:=juH (dq s t) (jtB o (nodes s+nodes t) s t) (jtB o (nodes s+nodes t) t s)
noncomputable def jv9(o:Ord')(s t:T):A:=if jmi o && (ji0 o s && ji0 o t)then .tup [vi (jv4 o s t),vb true]else .tup [vi 0,vb false]
theorem jw9(o:Ord')(s t:T)(ho:owf o)(hw:KZ s)(hs:tsz s<=1048576)(hw':KZ t)(hs':tsz t<=1048576):G 125 [od o,tm s,tm t]=some (jv9 o s t,[]):=by
 have e1:=jCF o ho;have e2:=jAY o s ho.1.2 hw hs;have e3:=jAY o t ho.1.2 hw' hs';have e4:=jf7 s hw t hw';have e7:=jCE (dq s t) (jtB o (nodes s+nodes t) s t) (jtB o (nodes s+nodes t) t s);rw[jE8,jv9];cases h:jmi o<;>rw[h]at e1
 .simp only[jg,e1,Bool.false_and]
 .cases h2:ji0 o s<;>rw[h2]at e2
  .simp only[jg,e1,e2,Bool.and_false,Bool.false_and]
  .cases h3:ji0 o t<;>rw[h3]at e3
   .simp only[jg,e1,e2,e3,Bool.and_false]
   .have g2:=jAU h2;have g3:=jAU h3;have e5:=jyW h ho.1.2 (nodes s+nodes t) s t (Nat.le_refl _) hw hw' hs hs' g2.2.1 g3.2.1;have e6:=jyW h ho.1.2 (nodes s+nodes t) t s (by omega) hw' hw hs' hs g3.2.1 g2.2.1;simp only[jg,e1,e2,e3,e4,e5,e6,e7,jv4]
theorem jw6{o:Ord'}(hv:jmi o=true)(s t:T)(ho:owf o)(hw:KZ s)(hs:tsz s<=1048576)(hw':KZ t)(hs':tsz t<=1048576)(hk:qb s=true)(hk':qb t=true)(hc:js3 o.syms s=true)(hc':js3 o.syms t=true):G 131 [od o,tm s,tm t]=some (vi (jv4 o s t),[]):=by
 have e4:=KP s hw t hw';have e5:=jBZ hv ho.1.2 (nodes s+nodes t) s t (Nat.le_refl _) hw hw' hs hs' hk hk' hc hc';have e6:=jBZ hv ho.1.2 (nodes s+nodes t) t s (by omega) hw' hw hs' hs hk' hk hc' hc;have c1:G 179 [.elt (jAB o) 0,.elt [sv s.name,.sl 2 (s.args.map jm)] 0,.elt [sv t.name,.sl 2 (t.args.map jm)] 0]=some (vb (jtB o (nodes s+nodes t) s t),[]):=by
  rw[jEA];simp only[jg,juN,juO,e5]
 have c2:G 181 [.elt (jAB o) 0,.elt [sv t.name,.sl 2 (t.args.map jm)] 0,.elt [sv s.name,.sl 2 (s.args.map jm)] 0]=some (vb (jtB o (nodes s+nodes t) t s),[]):=by
  rw[jEC];simp only[jg,juN,juO,e6]
 have e7:=jyX (f:=179) (g:=181) rfl rfl (dq s t) _ _ c1 c2;rw[jEz];simp only[jg,e4,e7,jv4]
def QA(t:T):T:=t.args.getD 0 (.mk [] [])
def jbD(t:T):T:=t.args.getD 1 (.mk [] [])
def jfo(t:T):Bool:=decide (t.args.length=2) && (jH t && (qb (QA t) && qb (jbD t)))
theorem K3{t:T}(hl:t.args.length=2):jz 2 (jS t.args) (vi 0)=some (.elt (jm (QA t)) 0)/\jz 2 (jS t.args) (vi 1)=some (.elt (jm (jbD t)) 0)/\QA t∈t.args/\jbD t∈t.args:=by
 have e0:QA t=t.args[0]:=by unfold QA;simp[List.getD_eq_getElem?_getD,hl]
 have e1:jbD t=t.args[1]:=by unfold jbD;simp[List.getD_eq_getElem?_getD,hl]
 rw[e0,e1];exact⟨jb (i:=0) (by omega),jb (i:=1) (by omega),List.getElem_mem _,List.getElem_mem _⟩
theorem jed(t:T)(hw:KZ t)(hs:tsz t<=1048576)(he:t.name=[61]):G 86 [tm t]=some (vb (jfo t),[]):=by
 obtain⟨w1,w2,w3⟩:=(kQ t).1 hw;have w3:=(kK _).1 w3;have het:(t.name=[61])=True:=eq_true he;unfold jfo;rw[g86];by_cases hl:t.args.length=2;rotate_left
 .have hl':¬((t.args.length:Nat):Int)=2:=by omega
  simp only[jg,het,hl',hl,Bool.false_and]
 have hl':((t.args.length:Nat):Int)=2:=by omega
 rw[decide_eq_true hl,Bool.true_and];obtain⟨i0,i1,ma,mb⟩:=K3 hl;have p1:=jf6 t hw hs;have p2:=QM _ (w3 _ ma);have p3:=QM _ (w3 _ mb);cases h1:jH t<;>rw[h1]at p1
 .simp only[jg,het,hl',p1,Bool.false_and]
 .cases h2:qb (QA t)<;>rw[h2]at p2
  .simp only[jg,het,hl',p1,i0,ji,p2,Bool.false_and,Bool.and_false]
  .simp only[jg,het,hl',p1,i0,i1,ji,p2,p3,Bool.true_and]
theorem KR(t:T):G 56 [tm t]=some (vb (decide (t.name=[61])),[]):=by
 rw[g56];simp only[jg]
theorem jcV(t:T)(hw:KZ t)(hs:tsz t<=1048576)(he:t.name=[61]):G 108 [tm t]=some (vb (jfo t),[]):=by
 obtain⟨w1,w2,w3⟩:=(kQ t).1 hw;have w3:=(kK _).1 w3;have q0:=KR t;rw[decide_eq_true he]at q0;unfold jfo;rw[jxU];by_cases hl:t.args.length=2;rotate_left
 .have hl':¬((t.args.length:Nat):Int)=2:=by omega
  simp only[jg,q0,hl',hl,Bool.false_and]
 have hl':((t.args.length:Nat):Int)=2:=by omega
 rw[decide_eq_true hl,Bool.true_and];obtain⟨i0,i1,ma,mb⟩:=K3 hl;have p1:=QI t hw hs;have p2:=Ya _ (w3 _ ma);have p3:=Ya _ (w3 _ mb);cases h1:jH t<;>rw[h1]at p1
 .simp only[jg,q0,hl',p1,Bool.false_and]
 .cases h2:qb (QA t)<;>rw[h2]at p2
  .simp only[jg,q0,hl',p1,i0,ji,p2,Bool.false_and,Bool.and_false]
  .simp only[jg,q0,hl',p1,i0,i1,ji,p2,p3,Bool.true_and]
def jBr(o:Ord')(t:T):Bool:=decide (t.name=[61]) && (jfo t && (js3 o.syms (QA t) && js3 o.syms (jbD t)))
theorem jwW:∀t:T,tsz t<=1048576->KZ t:=by
 refine T.ind λt ih h=>?_;have h':=h;rw[ze]at h';exact(kQ t).2 ⟨by omega,by omega,(kK _).2 λu hu=>ih u hu (by have:=yQ hu;omega)⟩
theorem jtW{n:Nat}(h:n<=4194304):jO n 40=true:=by
 unfold jO;exact decide_eq_true ⟨by omega,by omega⟩
theorem jhZ(t:T):tsz t<=1048576->G 104 [tm t]=some (tm t,[]):=by
 refine T.ind (p:=λt=>tsz t<=1048576->G 104 [tm t]=some (tm t,[])) ?_ t;intro t ih h;rw[ze]at h;have key:=(upto (P:=λi=>jgY (vi i) (sv t.name) (jS t.args) (sv []) (sv t.name) [] ((t.args.take i).map jm)=some (tm t,[])) (n:=t.args.length) ?_ ?_ 0 (Nat.zero_le _))
 .rw [jzy];simp only[Int.natCast_zero,List.take_zero,List.map_nil]at key;simp only[jg,key]
 .rw [jqE,List.take_length];simp only[jg]
 .intro i hi ih';have hlt:(i:Int)<((t.args.length:Nat):Int):=by omega
  have h5:=jy hi (by show t.args.length<=9223372036854775807;omega)
  have e1:=ih t.args[i] (List.getElem_mem _) (by have:=yQ (List.getElem_mem hi);omega)
  have hf:jO (i+1) 40=true:=jtW (by omega);have hl:((t.args.take i).map jm).length=i:=by rw[List.length_map,List.length_take];omega
  have ha:j4 ((t.args.take i).map jm) [[sv t.args[i].name,jS t.args[i].args]]=(t.args.take (i+1)).map jm:=by
   rw[show[sv t.args[i].name,jS t.args[i].args]=jm t.args[i] from(kR _).symm,List.take_add_one,List.getElem?_eq_getElem hi,List.map_append];rfl
  rw[jqE];simp only[jg,hlt,jb hi,ji,e1,hl,hf,ha,h5,ih']
theorem jDK(o:Ord')(s t:T):jnw o s t=0↔rk o s=rk o t/\s.args.length=t.args.length:=by
 unfold jnw jxI;constructor
 .intro h;split at h
  .rename_i h1;refine⟨h1,?_⟩;split at h
   .omega
   .split at h<;>omega
  .split at h
   .omega
   .split at h<;>omega
 .rintro ⟨h1,h2⟩;rw[if_pos h1,if_neg (by omega),if_neg (by omega)]
theorem jDJ(o:Ord')(s:T):jnw o s s=0:=(jDK o s s).2 ⟨rfl,rfl⟩
theorem jCk:∀l:Xg,fd l l=none
 | []=>rfl
 |x::l=>by rw[fd,if_pos (Kw.2 rfl),jCk l]
def Lp(o:Ord')(s t:T):Prop:=joe o (nodes s+nodes t) s t=true
theorem jof{s a:T}(h:a∈s.args):nodes a<nodes s:=by
 have:=ZA h;rw[jU s];omega
def Kp(o:Ord')(s t:T):Prop:=jtB o (nodes s+nodes t) s t=true
theorem jri(o:Ord'):∀(n m:Nat)(s t:T),nodes s+nodes t<=n->nodes s+nodes t<=m->jtB o n s t=jtB o m s t
 |0,_,s,t,h,_=>by have:=Zc s;omega
 |_+1,0,s,t,_,h=>by have:=Zc s;omega
 |n+1,m+1,s,t,h1,h2=>by
  rw[jtB,jtB];cases hf:fd s.args t.args with
  |none=>rfl
  |some p=>
   obtain⟨a,b⟩:=p;have hm:=jBc hf;have h3:=jof hm.1;have h4:=jof hm.2;simp only[jri o n m a b (by omega) (by omega)]
theorem jCR(o:Ord')(s t:T):Kp o s t↔bal s t=true/\(wt o t<wt o s\/(wt o s=wt o t/\(jr s.name=false/\jr t.name=false)/\(0<jnw o s t\/(jnw o s t=0/\ ∃a b,fd s.args t.args=some (a,b)/\Kp o a b)))):=by
 unfold Kp;obtain⟨n,hn⟩:∃n,nodes s+nodes t=n+1:=⟨nodes s+nodes t-1,by have:=Zc s;omega⟩;rw[hn,jtB];have e3:(match fd s.args t.args with|some (a,b)=>jtB o n a b|none=>false)=true↔ ∃a b,fd s.args t.args=some (a,b)/\jtB o (nodes a+nodes b) a b=true:=by
  cases hf:fd s.args t.args with
  |none=>simp
  |some p=>
   obtain⟨a,b⟩:=p;have hm:=jBc hf;have h3:=jof hm.1;have h4:=jof hm.2;dsimp only;rw[jri o n (nodes a+nodes b) a b (by omega) (Nat.le_refl _)];constructor
   .intro h;exact⟨a,b,rfl,h⟩
   .rintro ⟨a',b',h,h'⟩;cases h;exact h'
 cases hb:bal s t
 .simp
 .rw [if_pos rfl];simp only[true_and];by_cases hw:wt o s=wt o t
  .rw [if_pos hw];have hw':¬wt o t<wt o s:=by omega
   cases hv:jr s.name
   .cases hv2:jr t.name
    .simp only[Bool.or_self,Bool.false_eq_true,if_false,true_and,and_self];by_cases hr:jnw o s t=0
     .rw [if_pos hr];refine Iff.trans e3 ?_;constructor
      .intro h;exact Or.inr ⟨hw,Or.inr ⟨hr,h⟩⟩
      .rintro (h|⟨_,h|⟨_,h⟩⟩)
       .exact (hw' h).elim
       .omega
       .exact h
     .rw [if_neg hr,decide_eq_true_iff];constructor
      .intro h;exact Or.inr ⟨hw,Or.inl h⟩
      .rintro (h|⟨_,h|⟨h,_⟩⟩)
       .exact (hw' h).elim
       .exact h
       .exact (hr h).elim
    .simp [hw']
   .simp [hw']
  .rw [if_neg hw,decide_eq_true_iff];constructor
   .intro h;exact Or.inl h
   .rintro (h|⟨h,_⟩)
    .exact h
    .exact (hw h).elim
theorem jsv{n:Xb} :∀t:T,n∈ke t->jr n=true:=by
 refine T.ind λt ih h=>?_;rw[YI]at h;cases hv:jr t.name
 .rw [hv,if_neg Bool.false_ne_true]at h;have:∀ts:Xg,(∀u∈ts,n∈ke u->jr n=true)->n∈z7 ts->jr n=true:=by
   intro ts;induction ts with
   |nil=>intro _ h;simp[z7]at h
   |cons u us ih2=>
    intro h h2;simp only[z7,List.mem_append]at h2;rcases h2 with h2|h2
    .exact h u (by simp) h2
    .exact ih2 (λv hv=>h v (by simp[hv])) h2
  exact this t.args ih h
 .rw [hv,if_pos rfl,List.mem_singleton]at h;rw[h];exact hv
theorem jD8(o:Ord')(x:T):¬Kp o x x:=by
 intro h;obtain⟨_,h|⟨_,_,h|⟨_,_,_,h,_⟩⟩⟩:=(jCR o x x).1 h
 .omega
 .rw [jDJ]at h;omega
 .rw [jCk]at h;cases h
theorem jCy(o:Ord')(s t:T):jv4 o s t=juH (dq s t) (@decide (Kp o s t) (Classical.propDecidable _)) (@decide (Kp o t s) (Classical.propDecidable _)):=by
 have e1:jtB o (nodes s+nodes t) s t = @decide (Kp o s t) (Classical.propDecidable _):=by
  unfold Kp;cases jtB o (nodes s+nodes t) s t<;>simp
 have e2:jtB o (nodes s+nodes t) t s = @decide (Kp o t s) (Classical.propDecidable _):=by
  rw[jri o (nodes s+nodes t) (nodes t+nodes s) t s (by omega) (Nat.le_refl _)];unfold Kp;cases jtB o (nodes t+nodes s) t s<;>simp
 unfold jv4;rw[e1,e2]
def rbI(c:Int):Int:=if c=2 then 3 else if c=3 then 2 else c
open Classical in
open Classical in
theorem jCY{R:T->T->Prop}{s t:T}(hir:∀x,¬R x x):juH (dq s t) (decide (R s t)) (decide (R t s))=2↔R s t:=by
 unfold juH;cases hd:dq s t
 .by_cases h1:R s t
  .simp [h1]
  .by_cases h2:R t s<;>simp[h1,h2]
 .have:=Kw.1 hd;subst this;simp[hir s]
theorem jDF(o:Ord')(s t:T):jv4 o s t=2↔Kp o s t:=by
 rw[jCy];exact jCY (R:=Kp o) (jD8 o)
def look:List (Xb×T)->Xb->Option T
 | [],_=>none
 |p::u,n=>if p.1=n then some p.2 else look u n
def jc1(u:List (Xb×T))(n:Xb):T:=(look u n).getD (.mk n [])
mutual
def sub(u:List (Xb×T)):T->T
 |.mk n us=>if jr n then jc1 u n else .mk n (jo3 u us)
def jo3(u:List (Xb×T)):Xg->Xg
 | []=>[]
 |t::ts=>sub u t::jo3 u ts
end
theorem jkv(u:List (Xb×T)):∀ts:Xg,jo3 u ts=ts.map (sub u)
 | []=>rfl
 |t::ts=>by rw[jo3,jkv u ts,List.map_cons]
theorem KI{u:List (Xb×T)}{t:T}(h:jr t.name=true):sub u t=jc1 u t.name:=by
 obtain⟨n,us⟩:=t;have h:jr n=true:=h;show(if jr n then jc1 u n else T.mk n (jo3 u us))=_;rw[if_pos h];rfl
theorem Jb{u:List (Xb×T)}{t:T}(h:jr t.name=false):sub u t = .mk t.name (t.args.map (sub u)):=by
 obtain⟨n,us⟩:=t;have h:jr n=false:=h;show(if jr n then jc1 u n else T.mk n (jo3 u us))=_;rw[h,if_neg Bool.false_ne_true,jkv];rfl
theorem je5{u:List (Xb×T)}{t:T}(h:jr t.name=false):(sub u t).name=t.name:=by rw[Jb h];rfl
theorem jbm{u:List (Xb×T)}{t:T}(h:jr t.name=false):(sub u t).args=t.args.map (sub u):=by rw[Jb h];rfl
theorem jbp{t:T}(h:qb t=true)(hv:jr t.name=true):t.args=[]:=by
 rw[qj,hv,if_pos rfl]at h;exact List.isEmpty_iff.1 h
def jAJ(f:Xb->Int):Xa->Int
 | []=>0
 |x::l=>f x+jAJ f l
theorem jDq{o:Ord'}(hv:jmi o=true){n:Xb}(h:o.syms.contains n=true):o.var<=jAK o n:=by
 obtain⟨k,hk,hlt⟩:=jtz h;obtain⟨h1,h2,h3,h4⟩:=jen hv;have h5:=h4 k hlt;have hlt':k<o.ws.length:=by omega
 have e:jAK o n=o.ws.getD k 0:=by simp[jAK,hk]
 rw[e];exact h5.1
theorem jEm{o:Ord'}(hv:jmi o=true){t:T}(hc:js3 o.syms t=true):o.var<=wt o t:=by
 have hc':=hc;rw[jbA,Bool.and_eq_true]at hc';have hb:=(jim hv hc'.2).1;rw[jBO];cases hn:jr t.name with
 |true=>simp only[if_true];omega
 |false=>
  have hcn:=hc'.1;rw[hn,Bool.false_or]at hcn;have:=jDq hv hcn;simp only[Bool.false_eq_true,if_false];omega
abbrev bc(p:Xb×T):Xd:=[sv p.1,sv p.2.name,.sl 2 (p.2.args.map jm)]
abbrev JY(u:List (Xb×T)):A:= .sl 3 (u.map bc)
abbrev sb(u:List (Xb×T)):A:= .agg [JY u]
theorem ZC(p:Xb×T):jbr 2 (.elt (bc p) 1)=some (tm p.2):=rfl
def Sz(z:Nat)(u:List (Xb×T)):Prop:=u.length<=z/\ ∀p∈u,p.1.length<=z/\tsz p.2<=z
theorem jf8(u:List (Xb×T))(hl:u.length<=1048576)(n:Xb):(look u n=none/\G 121 [sb u,sv n]=some (vi (-1),[]))\/ ∃k,∃h:k<u.length,look u n=some u[k].2/\G 121 [sb u,sv n]=some (vi (k:Nat),[]):=by
 have key:=upto (P:=λi=>(look (u.drop i) n=none/\jdr (sv n) (vi i) (JY u)=some (vi (-1),[]))\/ ∃k,∃h:k<u.length,look (u.drop i) n=some u[k].2/\jdr (sv n) (vi i) (JY u)=some (vi (k:Nat),[])) (n:=u.length) ?_ ?_ 0 (Nat.zero_le _)
 .rw [jzH];exact key
 .left;rw[List.drop_length,jqJ];exact⟨rfl,by simp only[jg]⟩
 .intro i hi ih;have hlt:(i:Int)<((u.length:Nat):Int):=by omega
  have h5:=jy hi (by show u.length<=9223372036854775807;omega)
  rw[jqJ,js hi,look];by_cases he:u[i].1=n
  .right;rw[if_pos he];exact⟨i,hi,rfl,by simp only[jg,hlt,jb hi,he]⟩
  .rw [if_neg he];rcases ih with⟨h1,h2⟩|⟨k,hk,h1,h2⟩
   .left;exact⟨h1,by simp only[jg,hlt,jb hi,he,h5,h2]⟩
   .right;exact⟨k,hk,h1,by simp only[jg,hlt,jb hi,he,h5,h2]⟩
theorem QN(u:List (Xb×T))(hu:Sz 1048576 u)(t:T):tsz t<=1048576->G 74 [sb u,tm t]=some (tm (sub u t),[]):=by
 refine T.ind (p:=λt=>tsz t<=1048576->G 74 [sb u,tm t]=some (tm (sub u t),[])) ?_ t;intro t ih hs;have h:=hs;rw[ze]at h;have e1:=yc t.name (by show t.name.length<=9223372036854775807;omega);rw[g74];cases hv:jr t.name<;>rw[hv]at e1
 .have key:=(upto (P:=λi=>jmA (vi i) (JY u) (sv t.name) (jS t.args) (sv []) (sv t.name) [] (((t.args.map (sub u)).take i).map jm)=some (tm (sub u t),[])) (n:=t.args.length) ?_ ?_ 0 (Nat.zero_le _))
  .simp only[Int.natCast_zero,List.take_zero,List.map_nil]at key;simp only[jg,e1,key]
  .rw [jvc,List.take_of_length_le (by rw[List.length_map];omega),Jb hv]
   simp only[jg];rfl
  .intro i hi ih';have hlt:(i:Int)<((t.args.length:Nat):Int):=by omega
   have h5:=jy hi (by show t.args.length<=9223372036854775807;omega)
   have e2:=ih t.args[i] (List.getElem_mem _) (by have:=yQ (List.getElem_mem hi);omega)
   have hf:jO (i+1) 40=true:=jtW (by omega);have hi2:i<(t.args.map (sub u)).length:=by rw[List.length_map];exact hi
   have hl:(((t.args.map (sub u)).take i).map jm).length=i:=by rw[List.length_map,List.length_take,List.length_map];omega
   have ha:j4 (((t.args.map (sub u)).take i).map jm) [[sv (sub u t.args[i]).name,jS (sub u t.args[i]).args]]=((t.args.map (sub u)).take (i+1)).map jm:=by
    rw[show[sv (sub u t.args[i]).name,jS (sub u t.args[i]).args]=jm (sub u t.args[i]) from(kR _).symm,List.take_add_one,List.getElem?_eq_getElem hi2,List.map_append,List.getElem_map];rfl
   generalize ((t.args.map (sub u)).take i).map jm=R at *;rw[jvc];simp only[jg,hlt,jb hi,ji,e2,hl,hf,ha,h5,ih']
 .rw [KI hv,jc1];rcases jf8 u hu.1 t.name with⟨h1,h2⟩|⟨k,hk,h1,h2⟩
  .rw [h1];simp only[jg,e1,h2];rfl
  .rw [h1];have hm:=hu.2 _ (List.getElem_mem hk);have e3:=jhZ u[k].2 hm.2;have hk0:(0:Int)<=((k:Nat):Int):=by omega
   simp only[jg,e1,h2,hk0,jb hk,ZC,e3,Option.getD_some]
end Go.Proofs.YtkkcepmpbackoaaGreatDoor
