/- Pa -/
import Derived.Test.YtcmflcpoohgmmaaGreatDoorKt
import Derived.Test.YtcmflcpoohgmmaaGreatDoorPq
import Derived.Test.YtcmflcpoohgmmaaGreatDoorEd
import Derived.ChangeSame
import Derived.Sort.Walk0
import Derived.Lib.ItoaNum
namespace Go.Proofs.YtcmflcpoohgmmaaGreatDoor
open Go Go.RowKit Go.Proofs.YtcmflcpoohgmmaaGreatDoor.Abs
set_option linter.unusedSimpArgs false
set_option linter.unusedVariables false
abbrev ci(n:Int):Xd:=[vi n]
abbrev cs(s:Xb):Xd:=[sv s]
abbrev ints(l:Xi):A:= .sl 1 (l.map ci)
abbrev strs(l:Xa):A:= .sl 1 (l.map cs)
section
theorem jm3{α:Type}(x y:α):brn true x y=x:=rfl
theorem jk4{α:Type}(x y:α):brn false x y=y:=rfl
theorem jpx{α:Type}(b:Bool)(x y:α):brn b x y=if b=true then x else y:=rfl
theorem jkB:(-1:Int)<0:=by decide
theorem jot(b:Bool):zm (vb b)=some b:=rfl
theorem joz(b:Bool)(x y:A):yY (vb b) x y=some (if b=true then x else y):=rfl
theorem juw(b w:Bool)(x:Xl):pG (vb b) w x=if b=w then x else some (.val undef):=rfl
theorem joD(b w:Bool):z7 (vb b) w=some (decide (b=w)):=rfl
theorem jov(w:Bool)(x:Xl):pG (.val undef) w x=some (.val undef):=rfl
theorem jhk(w:Bool):z7 (.val undef) w=some false:=rfl
theorem jow(k:Nat)(xs:Xc):yX (.sl k xs)=some (vi xs.length):=rfl
theorem jqj(xs:Xc):KW xs=vi xs.length:=rfl
theorem joJ(xs:Xc):jO xs=xs.length:=rfl
theorem Zk(l:Xb):Qz (sv l)=some (vi l.length):=rfl
theorem jnv(a:A):fin false (a,[])=some a:=rfl
theorem jso(b c:Bool):fin c (vb b,[])=some (vb b):=by cases c<;>rfl
theorem jsp(c:Bool)(n:Int):fin c (vi n,[])=some (vi n):=by cases c<;>rfl
theorem jqh(b:Bool):pUn .not (vb b)=some (vb (!b)):=rfl
theorem jop(b:Bool)(x y:Int):jz .lss b (vi x) (vi y)=some (vb (decide (x<y))):=rfl
theorem joo(b:Bool)(x y:Int):jz .leq b (vi x) (vi y)=some (vb (decide (x<=y))):=rfl
theorem jon(b:Bool)(x y:Int):jz .gtr b (vi x) (vi y)=some (vb (decide (y<x))):=rfl
theorem jom(b:Bool)(x y:Int):jz .geq b (vi x) (vi y)=some (vb (decide (y<=x))):=rfl
theorem jol(b:Bool)(x y:Int):jz .eql b (vi x) (vi y)=some (vb (decide (x=y))):=rfl
theorem jor(b:Bool)(x y:Int):jz .neq b (vi x) (vi y)=some (vb (!decide (x=y))):=rfl
theorem jlM(b:Bool)(x y:Int):jz .lss b (vy x) (vy y)=some (vb (decide (x<y))):=rfl
theorem jlL(b:Bool)(x y:Int):jz .leq b (vy x) (vy y)=some (vb (decide (x<=y))):=rfl
theorem jlK(b:Bool)(x y:Int):jz .gtr b (vy x) (vy y)=some (vb (decide (y<x))):=rfl
theorem jlJ(b:Bool)(x y:Int):jz .geq b (vy x) (vy y)=some (vb (decide (y<=x))):=rfl
theorem jlI(b:Bool)(x y:Int):jz .eql b (vy x) (vy y)=some (vb (decide (x=y))):=rfl
theorem jlN(b:Bool)(x y:Int):jz .neq b (vy x) (vy y)=some (vb (!decide (x=y))):=rfl
theorem jlO(x y:Bool):jz .eql true (vb x) (vb y)=some (vb (decide (x=y))):=rfl
theorem jlP(x y:Bool):jz .neq true (vb x) (vb y)=some (vb (!decide (x=y))):=rfl
theorem JY(b:Bool)(x y:Int):jz .add b (vi x) (vi y)=ck (x+y):=by cases b<;>rfl
theorem jos(b:Bool)(x y:Int):jz .sub b (vi x) (vi y)=ck (x-y):=by cases b<;>rfl
theorem joq(b:Bool)(x y:Int):jz .mul b (vi x) (vi y)=ck (x*y):=by cases b<;>rfl
theorem k9{n:Int}(h1: -9223372036854775808<=n)(h2:n<=9223372036854775807):ck n=some (vi n):=if_pos ⟨h1,h2⟩
theorem ZJ(b:Bool)(x y:Xb):jz .add b (sv x) (sv y)=if x.length+y.length<=9223372036854775807 then some (sv (x++y))else none:=by cases b<;>rfl
theorem jlQ(b:Bool)(x y:Xb):jz .eql b (sv x) (sv y)=some (vb (decide (x=y))):=rfl
theorem jlS(b:Bool)(x y:Xb):jz .neq b (sv x) (sv y)=some (vb (!decide (x=y))):=rfl
theorem jlR(b:Bool)(x y:Xb):jz .lss b (sv x) (sv y)=some (vb (Jz x y)):=rfl
theorem joy(a:A)(l:Xd):jZ (.elt (a::l) 0)=some a:=rfl
theorem ko(cs:Xd)(off n:Nat):kQ (.elt cs off) n=some (.elt cs (off+n)):=rfl
theorem jiV(off:Nat)(cs:Xd):jcH off (.agg cs)=cs[off]? :=rfl
theorem jiT(n:Nat)(ds:Xd):jaf n (.agg ds)=if ds.length=n/\ds.all kJ=true then some ds else none:=rfl
theorem jk6(a:A)(l:Xd):jc (a::l) 0=a:=rfl
theorem jm6(a b:A)(l:Xd):jc (a::b::l) 1=b:=rfl
theorem jm7(a b c:A)(l:Xd):jc (a::b::c::l) 2=c:=rfl
theorem jie(a b c d:A)(l:Xd):jc (a::b::c::d::l) 3=d:=rfl
theorem joc(k:Nat)(xs:Xc):kJ (.sl k xs)=true:=rfl
theorem jqa(cs:Xd)(o:Nat):kJ (.elt cs o)=true:=rfl
theorem jsB(f:FuncId)(l:Xd):kJ (.fn f l)=true:=rfl
theorem jsE(n:Int):kJ (vi n)=true:=rfl
theorem jsD(b:Bool):kJ (vb b)=true:=rfl
theorem jsC(l:Xb):kJ (sv l)=true:=rfl
theorem jsM(n:Nat)(i:Int):pIx n (vi i)=if 0<=i/\i<(n:Int)then some i.toNat else none:=rfl
theorem YD{n i:Nat}(h:i<n):pIx n (vi i)=some i:=by
 rw[jsM,if_pos ⟨by omega,by omega⟩];simp
theorem joC(k:Nat)(xs:Xc):yZ k (.sl k xs)=some xs:=if_pos rfl
theorem jsO(a:A)(l:Xd):YE (.tup (a::l)) 0=some a:=rfl
theorem jsP(a b:A)(l:Xd):YE (.tup (a::b::l)) 1=some b:=rfl
theorem jsQ(a b c:A)(l:Xd):YE (.tup (a::b::c::l)) 2=some c:=rfl
theorem jqf(x y:Int):jiW (vi x) (vi y)=some (vi (if x<y then y else x)):=by
 unfold jiW;simp
theorem jqg(x y:Int):jlU (vi x) (vi y)=some (vi (if y<x then y else x)):=by
 unfold jlU;simp
theorem jub(a:A)(l:Xd)(i:Nat):hD (a,l) i=l[i]? :=rfl
theorem jv9(k:Nat)(a:A)(xs:Xc)(l:Xd):hR k (a,.sl k xs::l) 0=some xs:=by simp[hR]
theorem jwa(k:Nat)(a b:A)(xs:Xc)(l:Xd):hR k (a,b:: .sl k xs::l) 1=some xs:=by simp[hR]
theorem jwb(k:Nat)(a b c:A)(xs:Xc)(l:Xd):hR k (a,b::c:: .sl k xs::l) 2=some xs:=by simp[hR]
theorem yT{f:FuncId}{caps args:Xd}{c:Bool}(h:K.pureF f=true):DX.run K (MM K) (.callc (.fn f caps) args c)=(G f (args++caps)).bind (fin c):=by
 simp only[DX.run,h,if_true]
theorem jb{α:Type}{k:Nat}{f:α->Xd}{xs:List α}{i:Nat}(h:i<xs.length):jk k (.sl k (xs.map f)) (vi i)=some (.elt (f xs[i]) 0):=by
 simp only[jk,if_true,List.length_map,YD h,Option.map_some];simp[List.getD_eq_getElem?_getD,h]
theorem js{i n:Nat}(h:i<n)(hn:n<=9223372036854775807):jz .add false (vi i) (vi 1)=some (vi ((i+1:Nat):Int)):=by
 rw[JY,k9 (by omega) (by omega)];rfl
theorem jeY{b:Int}{n:Nat}(h0:0<=b)(h1:b<=9223372036854775807)(hn:n<=9223372036854775807):ck (b-n)=some (vi (b-n)):=k9 (by omega) (by omega)
theorem upto{P:Nat->Prop}{n:Nat}(h0:P n)(hs:∀i,i<n->P (i+1)->P i):∀i,i<=n->P i:=by
 intro i hi;obtain⟨k,hk⟩:∃k,n=i+k:=⟨n-i,by omega⟩;induction k generalizing i with
 |zero=>rw[show i=n by omega];exact h0
 |succ k ih=>exact hs i (by omega) (ih (i+1) (by omega) (by omega))
theorem jr{α:Type}{xs:List α}{i:Nat}(h:i<xs.length):xs.drop i=xs[i]::xs.drop (i+1):=List.drop_eq_getElem_cons h
theorem evs :
  ((-1:Int)<0)/\
  (∀{α:Type}(x y:α),brn true x y=x)/\
  (∀{α:Type}(x y:α),brn false x y=y)/\
  (∀{α:Type}(b:Bool)(x y:α),brn b x y=if b=true then x else y)/\
  (∀{α β:Type}(a:α)(f:α->Option β),(some a).bind f=f a)/\
  (∀{α β:Type}(f:α->Option β),none.bind f=none)/\
  (∀(b:Bool),zm (vb b)=some b)/\
  (∀(b:Bool)(x y:A),yY (vb b) x y=some (if b=true then x else y))/\
  (∀(b w:Bool)(x:Xl),pG (vb b) w x=if b=w then x else some (A.val undef))/\
  (∀(b w:Bool),z7 (vb b) w=some (decide (b=w)))/\
  (∀(w:Bool)(x:Xl),pG (A.val undef) w x=some (A.val undef))/\
  (∀(w:Bool),z7 (A.val undef) w=some false)/\
  (∀(k:Nat)(xs:Xc),yX (A.sl k xs)=some (vi ↑xs.length))/\
  (∀(xs:Xc),KW xs=vi ↑xs.length)/\
  (∀(xs:Xc),jO xs=xs.length)/\
  (∀(l:Xb),Qz (sv l)=some (vi ↑l.length))/\
  (∀(a:A),fin false (a,[])=some a)/\
  (∀(b c:Bool),fin c (vb b,[])=some (vb b))/\
  (∀(c:Bool)(n:Int),fin c (vi n,[])=some (vi n))/\
  (∀(b:Bool),pUn UnOp.not (vb b)=some (vb !b))/\
  (∀(b:Bool)(x y:Int),jz BinOp.lss b (vi x) (vi y)=some (vb (decide (x<y))))/\
  (∀(b:Bool)(x y:Int),jz BinOp.leq b (vi x) (vi y)=some (vb (decide (x<=y))))/\
  (∀(b:Bool)(x y:Int),jz BinOp.gtr b (vi x) (vi y)=some (vb (decide (y<x))))/\
  (∀(b:Bool)(x y:Int),jz BinOp.geq b (vi x) (vi y)=some (vb (decide (y<=x))))/\
  (∀(b:Bool)(x y:Int),jz BinOp.eql b (vi x) (vi y)=some (vb (decide (x=y))))/\
  (∀(b:Bool)(x y:Int),jz BinOp.neq b (vi x) (vi y)=some (vb !decide (x=y)))/\
  (∀(b:Bool)(x y:Int),jz BinOp.lss b (vy x) (vy y)=some (vb (decide (x<y))))/\
  (∀(b:Bool)(x y:Int),jz BinOp.leq b (vy x) (vy y)=some (vb (decide (x<=y))))/\
  (∀(b:Bool)(x y:Int),jz BinOp.gtr b (vy x) (vy y)=some (vb (decide (y<x))))/\
  (∀(b:Bool)(x y:Int),jz BinOp.geq b (vy x) (vy y)=some (vb (decide (y<=x))))/\
  (∀(b:Bool)(x y:Int),jz BinOp.eql b (vy x) (vy y)=some (vb (decide (x=y))))/\
  (∀(b:Bool)(x y:Int),jz BinOp.neq b (vy x) (vy y)=some (vb !decide (x=y)))/\
  (∀(x y:Bool),jz BinOp.eql true (vb x) (vb y)=some (vb (decide (x=y))))/\
  (∀(x y:Bool),jz BinOp.neq true (vb x) (vb y)=some (vb !decide (x=y)))/\
  (∀(b:Bool)(x y:Int),jz BinOp.add b (vi x) (vi y)=ck (x+y))/\
  (∀(b:Bool)(x y:Int),jz BinOp.sub b (vi x) (vi y)=ck (x-y))/\
  (∀(b:Bool)(x y:Int),jz BinOp.mul b (vi x) (vi y)=ck (x*y))/\
  (∀(b:Bool)(x y:Xb),jz BinOp.eql b (sv x) (sv y)=some (vb (decide (x=y))))/\
  (∀(b:Bool)(x y:Xb),jz BinOp.neq b (sv x) (sv y)=some (vb !decide (x=y)))/\
  (∀(b:Bool)(x y:Xb),jz BinOp.lss b (sv x) (sv y)=some (vb (Jz x y)))/\
  (∀(a:A)(l:Xd),jZ (A.elt (a::l) 0)=some a)/\
  (∀(cs:Xd)(off n:Nat),kQ (A.elt cs off) n=some (A.elt cs (off+n)))/\
  (∀(off:Nat)(cs:Xd),jcH off (A.agg cs)=cs[off]?)/\
  (∀(n:Nat)(ds:Xd),jaf n (A.agg ds)=if ds.length=n/\ds.all kJ=true then some ds else none)/\
  (∀(a:A)(l:Xd),jc (a::l) 0=a)/\
  (∀(a b:A)(l:Xd),jc (a::b::l) 1=b)/\
  (∀(a b c:A)(l:Xd),jc (a::b::c::l) 2=c)/\
  (∀(a b c d:A)(l:Xd),jc (a::b::c::d::l) 3=d)/\
  (∀(k:Nat)(xs:Xc),kJ (A.sl k xs)=true)/\
  (∀(cs:Xd)(o:Nat),kJ (A.elt cs o)=true)/\
  (∀(f:FuncId)(l:Xd),kJ (A.fn f l)=true)/\
  (∀(n:Int),kJ (vi n)=true)/\
  (∀(b:Bool),kJ (vb b)=true)/\
  (∀(l:Xb),kJ (sv l)=true)/\
  (∀(k:Nat)(xs:Xc),yZ k (A.sl k xs)=some xs)/\
  (∀(a:A)(l:Xd),YE (A.tup (a::l)) 0=some a)/\
  (∀(a b:A)(l:Xd),YE (A.tup (a::b::l)) 1=some b)/\
  (∀(a b c:A)(l:Xd),YE (A.tup (a::b::c::l)) 2=some c)/\
  (∀(x y:Int),jiW (vi x) (vi y)=some (vi (if x<y then y else x)))/\
  (∀(x y:Int),jlU (vi x) (vi y)=some (vi (if y<x then y else x)))/\
  (∀(a:A)(l:Xd)(i:Nat),hD (a,l) i=l[i]?)/\
  (∀(k:Nat)(a:A)(xs:Xc)(l:Xd),hR k (a,A.sl k xs::l) 0=some xs)/\
  (∀(k:Nat)(a b:A)(xs:Xc)(l:Xd),hR k (a,b::A.sl k xs::l) 1=some xs)/\
  (∀(k:Nat)(a b c:A)(xs:Xc)(l:Xd),hR k (a,b::c::A.sl k xs::l) 2=some xs)/\
  (∀{α:Type}{a:α}{l:List α}{f:α->Bool},(a::l).all f=(f a && l.all f))/\
  (∀{α:Type}{f:α->Bool},([]:List α).all f=true)/\
  (∀{α:Type}{a:α}{l:List α},(a::l).length=l.length+1)/\
  (∀{α:Type},([]:List α).length=0)/\
  (∀{α β:Type}{l:List α}(f:α->β),(List.map f l).length=l.length)/\
  (∀(n:Nat),0+n=n)/\
  (∀(b:Bool),(b && b)=b)/\
  (∀(b:Bool),(b && true)=b)/\
  (∀(p:Prop),(p/\p)=p)/\
  (∀{α:Type}{_x:Decidable True}(t e:α),(if True then t else e)=t)/\
  (∀{α:Type}{_x:Decidable False}(t e:α),(if False then t else e)=e)/\
  ((true=false)=False)/\
  ((false=true)=False)/\
  (∀(_h:Decidable True),decide True=true)/\
  (∀(_h:Decidable False),decide False=false)/\
  ((!true)=false)/\
  ((!false)=true)/\
  (∀(b:Bool),((!b)=true)=(b=false))/\
  (∀{p:Prop} [Decidable p],(decide p=true)=p)/\
  (∀{p:Prop}{x:Decidable p},decide p=false↔ ¬p)/\
  (∀(a:Int),¬a<a)/\
  ((¬True)=False)/\
  ((¬False)=True)/\
  (∀{α:Type}(a b:α),(if True then a else b)=a)/\
  (∀{α:Type}(a b:α),(if False then a else b)=b):=
 ⟨@jkB,@jm3,@jk4,@jpx,@Option.bind_some.{0,0},@Option.bind_none.{0,0},@jot,@joz,@juw,@joD,@jov,@jhk,@jow,@jqj,@joJ,@Zk,@jnv,@jso,@jsp,@jqh,@jop,@joo,@jon,@jom,@jol,@jor,@jlM,@jlL,@jlK,@jlJ,@jlI,@jlN,@jlO,@jlP,@JY,@jos,@joq,@jlQ,@jlS,@jlR,@joy,@ko,@jiV,@jiT,@jk6,@jm6,@jm7,@jie,@joc,@jqa,@jsB,@jsE,@jsD,@jsC,@joC,@jsO,@jsP,@jsQ,@jqf,@jqg,@jub,@jv9,@jwa,@jwb,@List.all_cons.{0},@List.all_nil.{0},@List.length_cons.{0},@List.length_nil.{0},@List.length_map.{0,0},@Nat.zero_add,@Bool.and_self,@Bool.and_true,@and_self,@if_true.{1},@if_false.{1},@Bool.true_eq_false,@Bool.false_eq_true,@decide_true,@decide_false,@Bool.not_true,@Bool.not_false,@Bool.not_eq_true',@decide_eq_true_eq,@decide_eq_false_iff_not,@Int.lt_irrefl,@not_true_eq_false,@not_false_eq_true,@ite_true.{1},@ite_false.{1}⟩
end
theorem jt6:(∀{α:Type}{h:Decidable True}(a b:α),@ite α True h a b=a)/\(∀{α:Type}{h:Decidable False}(a b:α),@ite α False h a b=b)/\(1+1=2/\1+2=3/\1+3=4/\1+4=5/\2+1=3/\2+2=4/\2+3=5/\2+4=6/\3+1=4/\3+2=5/\3+3=6/\3+4=7/\4+1=5/\4+2=6/\4+3=7/\4+4=8/\5+1=6/\5+2=7/\5+3=8/\5+4=9/\6+1=7/\6+2=8/\6+3=9/\6+4=10/\7+1=8/\7+2=9/\7+3=10/\7+4=11/\8+1=9/\8+2=10/\8+3=11/\8+4=12/\9+1=10/\9+2=11/\9+3=12/\9+4=13/\10+1=11/\10+2=12/\10+3=13/\10+4=14/\11+1=12/\11+2=13/\11+3=14/\11+4=15/\12+1=13/\12+2=14/\12+3=15/\12+4=16):=by refine⟨?_,?_,by decide⟩<;>intros<;>simp
theorem jo:type_of% (And.intro evs (And.intro cev jt6)):=And.intro evs (And.intro cev jt6)
open Go Go.RowKit Go.ChangeShapes Go.Deep Go.Proofs.YtcmflcpoohgmmaaGreatDoor.Abs
section
variable{P:Program}{t:Nat}{H:Type}{enc:TypeId×Value->H}{w:World}{base:Nat}{spare:Nat->Bool}{held:Bool}{fuel:Nat}{cs:Xh}{x:DataW H×List MemPlace}
theorem jje{α:Type}{g0:α->Xd}{p0:α->Prop}{f0:Field}{k0:Nat}(ht:P.underlying t=some (.struct #[f0]))
  (o0:f0.offset=0) (c0:P.cellsOf f0.type=k0) (c:P.cellsOf t=k0)
  (h0:∀n cs x,n<fuel->DataW.trod enc P w base spare held n f0.type cs=some x-> ∃a,p0 a/\jl w (λ_=>False) (g0 a) cs/\ji cs)
  (h:DataW.trod enc P w base spare held fuel t cs=some x):∃a,p0 a/\jl w (λ_=>False) (g0 a) cs/\ji cs:=by
 obtain⟨xs,n,hfn,rfl,hl,hlen,hf⟩:=DataW.trod_struct ht h;have e0:=hf 0 f0 rfl;rw[o0,c0]at e0;have hlen:xs.length=1:=hlen;have hx0:xs[0]? = some xs[0]:=List.getElem?_eq_getElem (by omega);rw[hx0]at e0;obtain⟨a,q1,q2,q3⟩:=h0 n _ _ (by omega) e0;rw[List.drop_zero,List.take_of_length_le (by omega)]at q2 q3;exact⟨a,q1,q2,q3⟩
theorem jjf{α β:Type}{g0:α->Xd}{g1:β->Xd}{p0:α->Prop}{p1:β->Prop}{f0 f1:Field}{k0 k1:Nat}(ht:P.underlying t=some (.struct #[f0,f1]))
  (o0:f0.offset=0) (o1:f1.offset=k0) (c0:P.cellsOf f0.type=k0) (c1:P.cellsOf f1.type=k1) (c:P.cellsOf t=k0+k1)
  (h0:∀n cs x,n<fuel->DataW.trod enc P w base spare held n f0.type cs=some x-> ∃a,p0 a/\jl w (λ_=>False) (g0 a) cs/\ji cs)
  (h1:∀n cs x,n<fuel->DataW.trod enc P w base spare held n f1.type cs=some x-> ∃a,p1 a/\jl w (λ_=>False) (g1 a) cs/\ji cs)
  (h:DataW.trod enc P w base spare held fuel t cs=some x):∃a b,p0 a/\p1 b/\jl w (λ_=>False) (g0 a++g1 b) cs/\ji cs:=by
 obtain⟨xs,n,hfn,rfl,hl,hlen,hf⟩:=DataW.trod_struct ht h;have e0:=hf 0 f0 rfl;have e1:=hf 1 f1 rfl;rw[o0,c0]at e0;rw[o1,c1]at e1;have hlen:xs.length=2:=hlen;have hx0:xs[0]? = some xs[0]:=List.getElem?_eq_getElem (by omega);have hx1:xs[1]? = some xs[1]:=List.getElem?_eq_getElem (by omega);rw[hx0]at e0;rw[hx1]at e1;obtain⟨a,q1,q2,q3⟩:=h0 n _ _ (by omega) e0;obtain⟨b,r1,r2,r3⟩:=h1 n _ _ (by omega) e1;have e:cs=(cs.drop 0).take k0++(cs.drop k0).take k1:=by
  rw[List.take_of_length_le (l:=cs.drop k0) (by simp;omega),List.drop_zero,List.take_append_drop]
 rw[e];exact⟨a,b,q1,r1,kh q2 r2,ji.append q3 r3⟩
end
inductive T where
 |mk (name:Xb) (args:List T)
abbrev Xg:=List T
def T.name:T->Xb|.mk n _=>n
def T.args:T->Xg|.mk _ us=>us
mutual
def jq:T->Xd
 |.mk n us=>[sv n,.sl 2 (jbH us)]
def jbH:Xg->Xc
 | []=>[]
 |t::ts=>jq t::jbH ts
end
theorem Zx:∀ts:Xg,jbH ts=ts.map jq
 | []=>rfl
 |t::ts=>by simp[jbH,Zx ts]
theorem kU(t:T):jq t=[sv t.name,.sl 2 (t.args.map jq)]:=by
 cases t;simp[jq,T.name,T.args,Zx]
theorem jdF(t:T):(jq t).length=2:=by rw[kU];rfl
abbrev tm(t:T):A:= .agg [sv t.name,.sl 2 (t.args.map jq)]
abbrev jW(ts:Xg):A:= .sl 2 (ts.map jq)
theorem jp(t:T):jL 2 (.elt (jq t) 0)=some (.agg [sv t.name,.sl 2 (t.args.map jq)]):=by rw[kU];rfl
mutual
def tsz:T->Nat
 |.mk n us=>n.length+us.length+qy us
def qy:Xg->Nat
 | []=>0
 |t::ts=>tsz t+qy ts
end
theorem kC(t:T):tsz t=t.name.length+t.args.length+qy t.args:=by cases t;simp[tsz,T.name,T.args]
theorem yS:∀{ts:Xg}{t:T},t∈ts->tsz t<=qy ts
 | [],_,h=>by cases h
 |u::us,t,h=>by
  simp only[qy];rcases List.mem_cons.1 h with rfl|h
  .omega
  .have:=yS h;omega
mutual
def KC:T->Prop
 |.mk n us=>n.length<=9223372036854775807/\us.length<=9223372036854775807/\jmq us
def jmq:Xg->Prop
 | []=>True
 |t::ts=>KC t/\jmq ts
end
theorem kS(t:T):KC t↔t.name.length<=9223372036854775807/\t.args.length<=9223372036854775807/\jmq t.args:=by cases t;simp[KC,T.name,T.args]
theorem kz:∀ts:Xg,jmq ts↔ ∀t∈ts,KC t
 | []=>by simp[jmq]
 |t::ts=>by simp[jmq,kz ts]
theorem T.ind{p:T->Prop}(h:∀t,(∀u∈t.args,p u)->p t):∀t,p t:=by
 intro t;induction hn:SizeOf.sizeOf t using Nat.strongRecOn generalizing t with
 |ind n ih=>
  subst hn;refine h t λu hu=>ih (SizeOf.sizeOf u) ?_ u rfl;cases t with
  |mk nm us=>
   have:=List.sizeOf_lt_of_mem hu;simp only[T.args]at this;simp only[T.mk.sizeOf_spec];omega
section
variable{P:Program}{tT tS:Nat}
theorem jl4{H:Type}{enc:TypeId×Value->H}{w:World}{base:Nat}{spare:Nat->Bool}{held:Bool}{f0 f1:Field}(ht:P.underlying tT=some (.struct #[f0,f1]))(h0:P.underlying f0.type=some .string)(h1:P.underlying f1.type=some (.slice tT))
  (o0:f0.offset=0) (o1:f1.offset=1) (c0:P.cellsOf f0.type=1) (c1:P.cellsOf f1.type=1) (c2:P.cellsOf tT=2) :
  ∀(fuel:Nat)(cs:Xh)(x:DataW H×List MemPlace),DataW.trod enc P w base spare held fuel tT cs=some x-> ∃t,KC t/\jl w (λ_=>False) (jq t) cs/\ji cs:=by
 intro fuel;induction fuel using Nat.strongRecOn with
 |ind fuel ih=>
  intro cs x h;obtain⟨xs,n,hfn,rfl,hl,hlen,hf⟩:=DataW.trod_struct ht h;have e0:=hf 0 f0 rfl;have e1:=hf 1 f1 rfl;rw[o0,c0]at e0;rw[o1,c1]at e1;rw[c2]at hl
  match cs,hl with
  | [u,v],_=>
   match xs,hlen with
   | [y0,y1],_=>
    simp only[List.drop_zero,List.take_succ_cons,List.take_zero,List.getElem?_cons_zero]at e0;simp only[List.drop_succ_cons,List.drop_zero,List.take_succ_cons,List.take_zero,List.getElem?_cons_succ,List.getElem?_cons_zero]at e1;obtain⟨s,hs,_,hsz⟩:=DataW.trod_string h0 e0;obtain⟨ts,⟨hts,htl⟩,hr,ho⟩:=jhG (P:=P) (t:=f1.type) (e:=tT) (f:=jq) (p:=KC) jdF (by decide) h1 c2 (λm cs' x' hm hx'=>ih m (by omega) cs' x' hx') e1;have hbs:∀s:ByteArray,(⟨⟨bs s⟩⟩:ByteArray)=s:=λs=>rfl;refine⟨.mk (bs s) ts,by simp only[KC];exact⟨by show(bs s).length<=_;rw[<-ZQ];simpa[maxLen]using hsz,htl,(kz ts).2 hts⟩,?_,?_⟩
    .simp only[jq,Zx];simp only[List.cons.injEq,and_true]at hs;subst hs;simp only[jl,List.cons.injEq]at hr;obtain⟨v',r',⟨rfl,rfl⟩,h3,_⟩:=hr;simp only[jl];exact⟨_,_,rfl,by simp[rel,hbs],_,_,rfl,h3,rfl⟩
    .simp only[List.cons.injEq,and_true]at hs;subst hs;intro z hz;rcases List.mem_cons.1 hz with rfl|hz
     .simp [Value.oneCell']
     .exact ho z hz
end
theorem jqm:Rdr Tryz.prog 84 jq KC:=λ_ _ _ _ _ _ fuel cs x h=>
 jl4 Tryz.underlying84 Tryz.underlying9 Tryz.underlying82 rfl rfl (by kernel_rfl) (by kernel_rfl) (by kernel_rfl) fuel cs x h
theorem jqk:Rdr Tryz.prog 4 (λb=>[vb b]) (λ_=>True):=Rdr.bool Tryz.underlying4
structure Ord' where
 syms:Xa
 ws:Xi
 var:Int
abbrev jwp(o:Ord'):Xd:=[strs o.syms,ints o.ws,vi o.var]
abbrev od(o:Ord'):A:= .agg [strs o.syms,ints o.ws,vi o.var]
def owf(o:Ord'):Prop:=((∀s∈o.syms,s.length<=9223372036854775807)/\o.syms.length<=9223372036854775807)/\((∀x∈o.ws,I64 x)/\o.ws.length<=9223372036854775807)/\I64 o.var
set_option maxHeartbeats 1000000
def jX(left n:Int):Int:=if 0<=left-n then left-n else -1
theorem zv{left n:Int}(h:left<n):jX left n = -1:=if_neg (by omega)
theorem ZH{left n:Int}(h:n<=left):jX left n=left-n:=if_pos (by omega)
theorem Yt{b:Int}(h:0<=b):jX b ((0:Nat):Int)=b:=by unfold jX;simp[h]
theorem JU(b m n:Int):jX (b-m) n=jX b (m+n):=by unfold jX;rw[Int.sub_sub]
theorem jcv(b n:Int): -1<=jX b n:=by unfold jX;split<;>omega
theorem jad{b m n:Int}(h:m<=b):jX (jX b m) n=jX b (m+n):=by rw[ZH h,JU]
def part{α:Type}(f:α->Xd)(z:Xd)(xs:List α)(i:Nat):Xc:=(xs.take i).map f++List.replicate (xs.length-i) z
section
variable{α:Type}{f:α->Xd}{z:Xd}{xs:List α}
theorem ZL:jal xs.length z=part f z xs 0:=by simp[part,jal]
theorem QA:part f z xs xs.length=xs.map f:=by simp[part]
theorem Ji{i:Nat}(h:i<=xs.length):(part f z xs i).length=xs.length:=by simp[part];omega
theorem QB{i:Nat}(h:i<xs.length):QD (part f z xs i) i=some z:=by
 unfold QD part;rw[List.getElem?_append_right (by simp;omega)];simp;rw[List.getElem?_replicate,if_pos (by omega)]
theorem QC{i:Nat}(h:i<xs.length):kx (part f z xs i) i (f xs[i])=part f z xs (i+1):=by
 unfold kx part;have e:xs.length-i=(xs.length-(i+1))+1:=by omega
 rw[List.set_append_right _ _ (by simp;omega),e,List.replicate_succ]
 simp only[List.length_map,List.length_take,Nat.min_eq_left (Nat.le_of_lt h),Nat.sub_self,List.set_cons_zero];rw[<-List.take_append_getElem h,List.map_append];simp
end
theorem jj0(a b c d:A):jJ [a,b] 0 [c,d]=[c,d]:=rfl
theorem ZK{b n:Nat}(hb:(b:Int)*(n:Int)<=281474976710656)(hn:n<=1048576):jaZ b (vi n) (vi n)=some n:=by
 show(if _ then _ else _)=_;rw[if_pos (show jrX b n n from⟨by omega,Int.le_refl _,hb,by omega⟩),Int.toNat_natCast]
theorem jhj{k:Nat}{xs:Xc}{i:Nat}(h:i<=xs.length):Jv k (.sl k xs) (some (vi i)) none=some (.sl k (xs.drop i)):=by
 simp only[Jv,qc,Option.bind_some];rw[if_pos ⟨trivial,by omega,by omega,by omega⟩];simp
def jwd(k:Int):Nat->Xi
 |0=>[]
 |n+1=>k::jwd (k+1) n
section
variable{α:Type}{f:α->Xd}(M r:List α)(x:α)
theorem Zh{k:Nat} :jk k (.sl k ((M++x::r).map f)) (vi (M.length:Nat))=some (.elt (f x) 0):=by
 rw[jb (by simp)];simp
theorem jcC:((M.length:Nat):Int)<(((M++x::r).length:Nat):Int):=by simp only[List.length_append,List.length_cons];omega
end
section
variable(M R:Xc)(x y:Xd)
theorem yo:QD (M++x::R) M.length=some x:=by
 unfold QD;rw[List.getElem?_append_right (Nat.le_refl _)];simp
theorem yp:kx (M++x::R) M.length y=M++y::R:=by
 unfold kx;rw[List.set_append_right _ _ (by simp)];simp
theorem qU:pIx (M++x::R).length (vi (M.length:Nat))=some M.length:=YD (by simp)
end
def jo0:Xa->Nat
 | []=>0
 |s::l=>s.length+jo0 l
def osz(o:Ord'):Nat:=o.syms.length+jo0 o.syms+o.ws.length
theorem jo5(ts:Xg)(hl:ts.length<=9223372036854775807)(ih:∀t∈ts,∀left:Int,0<=left->left<=1048576->G 73 [tm t,vi left]=some (vi (jX left ((tsz t:Nat):Int)),[]))
  (left:Int) (h0:0<=left) (h1:left<=1048576):G 92 [jW ts,vi left]=some (vi (jX left ((ts.length+qy ts:Nat):Int)),[]):=by
 have loop:∀(a:Int),0<=a->a<=1048576->jf3 (jW ts) (vi a) (vi 0)=some (vi (jX a (qy ts)),[]):=by
  have key:=(upto (P:=λi=>∀a:Int,0<=a->a<=1048576->jf3 (jW ts) (vi a) (vi i)=some (vi (jX a (qy (ts.drop i))),[])) (n:=ts.length) ?_ ?_ 0 (Nat.zero_le _))
  .simp only[List.drop_zero,Int.natCast_zero]at key;exact key
  .intro b hb hb';rw[jrw,List.drop_length];simp only[jo,qy];rw[Yt hb]
  .intro i hi ih' b hb hb';have e1:=ih ts[i] (List.getElem_mem _) b hb hb';rw[jrw,jr hi];simp only[jo,hi,Int.ofNat_lt,jb hi,jp,e1,js hi hl,qy];by_cases hc:b<(tsz ts[i]:Nat)
   .rw [zv hc,zv (by omega)];rfl
   .have hp:=ZH (Int.not_lt.1 hc);have ih':=ih' (jX b (tsz ts[i]:Nat)) (by omega) (by omega);have hn:¬jX b ((tsz ts[i]:Nat):Int)<0:=by omega
    simp only[jo,hn,ih'];rw[jad (Int.not_lt.1 hc),<-Int.natCast_add]
 have hk:=jeY h0 (Int.le_trans h1 (by decide)) hl;rw[g92];simp only[jo,hk];by_cases hc:left-ts.length<0
 .simp only[jo,hc];rw[zv (by omega)]
 .have hl:=loop (left-ts.length) (by omega) (by omega);simp only[jo,hc,hl];rw[JU,<-Int.natCast_add]
theorem jqF(t:T):KC t-> ∀left:Int,0<=left->left<=1048576->G 73 [tm t,vi left]=some (vi (jX left ((tsz t:Nat):Int)),[]):=by
 refine T.ind (p:=λt=>KC t-> ∀left:Int,0<=left->left<=1048576->G 73 [tm t,vi left]=some (vi (jX left ((tsz t:Nat):Int)),[])) ?_ t;intro t ih hw left h0 h1;obtain⟨w1,w2,w3⟩:=(kS t).1 hw;have w3:=(kz _).1 w3;have hk:=jeY h0 (Int.le_trans h1 (by decide)) w1;rw[g73,kC];simp only[jo,hk];by_cases hc:left-t.name.length<0
 .simp only[jo,hc];rw[zv (by omega)]
 .have e2:=jo5 t.args w2 (λu hu=>ih u hu (w3 u hu)) (left-t.name.length) (by omega) (by omega);simp only[jo,hc,e2];rw[JU,<-Int.natCast_add,<-Nat.add_assoc];by_cases h2:jX left ((t.name.length+t.args.length+qy t.args:Nat):Int)<0
  .have:jX left ((t.name.length+t.args.length+qy t.args:Nat):Int) = -1:=by have:=jcv left (t.name.length+t.args.length+qy t.args:Nat);omega
   simp only[jo,this]
  .simp only[jo,h2]
theorem jby(l:Xi)(hl:l.length<=9223372036854775807):G 24 [ints l,ints l]=some (vb true,[]):=by
 have key:=(upto (P:=λi=>jjy (ints l) (ints l) (vi i)=some (vb true,[])) (n:=l.length) ?_ ?_ 0 (Nat.zero_le _))
 .rw [g24];simp only[Int.natCast_zero]at key;simp only[jo,key]
 .rw [jq3];simp only[jo]
 .intro i hi ih;have h5:=js hi hl;rw[jq3];simp only[jo,hi,Int.ofNat_lt,jb hi,h5,ih]
theorem jns(ts:Xg)(hl:ts.length<=9223372036854775807)(ih:∀t∈ts,G 90 [tm t,tm t]=some (vb true,[])):G 110 [jW ts,jW ts]=some (vb true,[]):=by
 have key:=(upto (P:=λi=>jeI (jW ts) (jW ts) (vi i)=some (vb true,[])) (n:=ts.length) ?_ ?_ 0 (Nat.zero_le _))
 .rw [jvO];simp only[Int.natCast_zero]at key;simp only[jo,key]
 .rw [jnR];simp only[jo]
 .intro i hi ih';have h5:=js hi hl;have e1:=ih ts[i] (List.getElem_mem _);rw[jnR];simp only[jo,hi,Int.ofNat_lt,jb hi,jp,e1,h5,ih']
theorem jpJ(t:T):KC t->G 90 [tm t,tm t]=some (vb true,[]):=by
 refine T.ind (p:=λt=>KC t->G 90 [tm t,tm t]=some (vb true,[])) ?_ t;intro t ih h;obtain⟨w1,w2,w3⟩:=(kS t).1 h;have w3:=(kz _).1 w3;have e1:=jns t.args w2 λu hu=>ih u hu (w3 u hu);rw[g90];simp only[jo,e1]
theorem qO{l:Xb}{i:Nat}(h:i<l.length):kG (sv l) (vi i)=some (vy (l[i].toNat:Int)):=by
 show(if _ then _ else _)=_;rw[if_pos ⟨by omega,by simpa using h⟩];simp[List.getD_eq_getElem?_getD,h]
theorem zh{c:UInt8}{l:Xb} :kG (sv (c::l)) (vi 0)=some (vy (c.toNat:Int)):=qO (i:=0) (l:=c::l) (by simp)
def KG(lo hi x:Int):Bool:=decide (lo<=x) && decide (x<=hi)
theorem ZT(x a b:Int):G 129 [vi x,vi a,vi b]=some (vb (KG a b x),[]):=by
 rw[jv5];by_cases h:a<=x<;>simp only[jo,h,KG,Bool.true_and,Bool.false_and]
theorem jbB(x a b:Int):G 96 [vi x,vi a,vi b]=some (vb (KG a b x),[]):=by
 rw[g96];by_cases h:a<=x<;>simp only[jo,h,KG,Bool.true_and,Bool.false_and]
def upc(c:UInt8):Bool:=KG 65 90 (c.toNat:Int)
def Yu(c:UInt8):Bool:=KG 97 122 (c.toNat:Int)
def jlb(c:UInt8):Bool:=KG 48 57 (c.toNat:Int)
def zX(c:UInt8):Bool:=Yu c || jlb c
theorem Kh(c:UInt8):G 121 [vy (c.toNat:Int)]=some (vb (upc c),[]):=by
 rw[jvX];by_cases h:65<=(c.toNat:Int)<;>simp only[jo,h,upc,KG,Bool.true_and,Bool.false_and]
theorem Yr(c:UInt8):G 127 [vy (c.toNat:Int)]=some (vb (Yu c),[]):=by
 rw[jv3];by_cases h:97<=(c.toNat:Int)<;>simp only[jo,h,Yu,KG,Bool.true_and,Bool.false_and]
theorem jch(c:UInt8):G 128 [vy (c.toNat:Int)]=some (vb (jlb c),[]):=by
 rw[jv4];by_cases h:48<=(c.toNat:Int)<;>simp only[jo,h,jlb,KG,Bool.true_and,Bool.false_and]
theorem jcu(c:UInt8):G 97 [vy (c.toNat:Int)]=some (vb (zX c),[]):=by
 rw[g97];by_cases h:97<=(c.toNat:Int)<;>by_cases h2:(c.toNat:Int)<=122<;>by_cases h3:48<=(c.toNat:Int)<;>simp only[jo,h,h2,h3,zX,Yu,jlb,KG,Bool.true_and,Bool.false_and,Bool.or_false,Bool.true_or,Bool.false_or]
def jA:Xb->Bool
 | []=>false
 |c::r=>upc c && (r.all zX && decide (r.length<=3))
theorem jbA(r:Xb)(k:Nat)(hk:k<=9):KG 1 (k+1:Nat) (((r.length+1:Nat)):Int)=decide (r.length<=k):=by
 unfold KG;have:decide ((1:Int)<=((r.length+1:Nat):Int))=true:=by simp;omega
 rw[this,Bool.true_and];by_cases h:r.length<=k<;>simp[h]<;>omega
theorem jbd(s:Xb)(hs:s.length<=9223372036854775807):∀i,i<=s.length->1<=i->jbO (sv s) (vi (s.length:Nat)) (vi i)=some (vb ((s.drop i).all zX && KG 1 4 (s.length:Nat)),[]):=by
 refine upto (P:=λi=>1<=i->jbO (sv s) (vi (s.length:Nat)) (vi i)=some (vb ((s.drop i).all zX && KG 1 4 (s.length:Nat)),[])) ?_ ?_
 .intro _;rw[jfc,List.drop_length];have e:=ZT (s.length:Nat) 1 4;simp only[jo,e,Bool.true_and]
 .intro i hi ih h1;have ih:=ih (by omega);have hn:¬((i:Int)=0):=by omega
  have hp:(0:Int)<(i:Int):=by omega
  have hlt:(i:Int)<((s.length:Nat):Int):=by omega
  have h5:=js hi hs;have hx:=qO hi;have e1:=Yr s[i];have e2:=jch s[i];rw[jfc,jr hi];generalize s[i]=ch at *;rw[List.all_cons];cases h8:Yu ch<;>cases h9:jlb ch<;>rw[h8]at e1<;>rw[h9]at e2<;>simp only[jo,hn,hp,hlt,hx,e1,e2,h5,ih,zX,h8,h9,Bool.true_and,Bool.false_and,Bool.or_true,Bool.or_false]
theorem jdv(s:Xb)(hs:s.length<=9223372036854775807):G 124 [sv s]=some (vb (jA s),[]):=by
 rw[jv0];show(Qz (sv s)).bind _=_;rw[Zk,Option.bind_some];cases s with
 |nil=>
  rw[jfc];have e:=ZT ((0:Nat):Int) 1 4;simp only[jo,e];rfl
 |cons c r=>
  have key:=jbd (c::r) hs 1 (by simp) (Nat.le_refl _);simp only[List.drop_succ_cons,List.drop_zero]at key;have e':KG 1 4 (((c::r).length:Nat):Int)=decide (r.length<=3):=jbA r 3 (by decide);rw[e']at key;rw[jfc];have h5:jz .add false (vi 0) (vi 1)=some (vi ((1:Nat):Int)):=by rw[JY,k9 (by decide) (by decide)];rfl
  have h6:(0:Int)<(((c::r).length:Nat):Int):=Int.natCast_pos.2 (Nat.succ_pos _);have e1:=Kh c;generalize ((((c::r).length:Nat)):Int)=n at *;cases hu:upc c<;>rw[hu]at e1<;>simp only[jo,h6,zh,e1,h5,key,jA,hu,Bool.true_and,Bool.false_and]
theorem jiE(s:Xb)(hs:s.length<=9223372036854775807):∀i,i<=s.length->jdK (sv s) (vi i)=some (vb ((s.drop i).all zX),[]):=by
 refine upto (P:=λi=>jdK (sv s) (vi i)=some (vb ((s.drop i).all zX),[])) ?_ ?_
 .rw [jry,List.drop_length];simp only[jo]
 .intro i hi ih;have hlt:(i:Int)<((s.length:Nat):Int):=by omega
  have h5:=js hi hs;have hx:=qO hi;have e1:=jcu s[i];rw[jry,jr hi];generalize s[i]=ch at *;rw[List.all_cons];cases h8:zX ch<;>rw[h8]at e1<;>simp only[jo,hlt,hx,e1,h5,ih,Bool.true_and,Bool.false_and]
theorem Zf(s:Xb)(hs:s.length<=9223372036854775807):G 95 [sv s]=some (vb (jA s),[]):=by
 rw[g95];show(Qz (sv s)).bind _=_;rw[Zk,Option.bind_some];cases s with
 |nil=>
  have e:=jbB ((0:Nat):Int) 1 4;simp only[jo,e];rfl
 |cons c r=>
  have e:=jbB (((c::r).length:Nat):Int) 1 4;have e':KG 1 4 (((c::r).length:Nat):Int)=decide (r.length<=3):=jbA r 3 (by decide);rw[e']at e;have key:=jiE (c::r) hs 1 (by simp);simp only[List.drop_succ_cons,List.drop_zero]at key;have key:jdK (sv (c::r)) (vi 1)=some (vb (r.all zX),[]):=key;generalize ((((c::r).length:Nat)):Int)=n at *;by_cases h3:r.length<=3
  .rw [decide_eq_true h3]at e;by_cases ha:(c.toNat:Int)<65
   .have:¬(65<=(c.toNat:Int)):=by omega
    simp only[jo,e,zh,ha,jA,upc,KG,this,Bool.false_and]
   .have h65:65<=(c.toNat:Int):=by omega
    by_cases hb:90<(c.toNat:Int)
    .have:¬((c.toNat:Int)<=90):=by omega
     simp only[jo,e,zh,ha,hb,jA,upc,KG,this,Bool.false_and,Bool.and_false]
    .have:(c.toNat:Int)<=90:=by omega
     simp only[jo,e,zh,ha,hb,jA,upc,KG,this,h65,key,h3,Bool.true_and]
  .rw [decide_eq_false h3]at e;simp only[jo,e,jA,h3,Bool.and_false]
def Yk(s:Xb):Xa->Option Nat
 | []=>none
 |x::l=>if s=x then some 0 else(Yk s l).map (· + 1)
def Z2(i:Nat):Option Nat->Int
 |none=> -1
 |some k=>((i+k:Nat):Int)
theorem jaN(s:Xb):∀l,(Yk s l).isSome=l.contains s
 | []=>rfl
 |x::l=>by
  simp only[Yk,List.contains_cons];by_cases h:s=x
  .simp [h]
  .have:=jaN s l;simp[h,this]
theorem je2(s:Xb)(l:Xa):decide (0<=Z2 0 (Yk s l))=l.contains s:=by
 rw[<-jaN];cases Yk s l<;>simp[Z2]
theorem jis{s x:Xb}{l:Xa}{i:Nat}(h:¬s=x):Z2 (i+1) (Yk s l)=Z2 i (Yk s (x::l)):=by
 simp only[Yk,h,if_false];cases Yk s l<;>simp[Z2];omega
theorem jiv(l:Xa)(s:Xb)(hl:l.length<=9223372036854775807):G 132 [strs l,sv s]=some (vi (Z2 0 (Yk s l)),[]):=by
 have key:=upto (P:=λi=>jeM (strs l) (sv s) (vi (l.length:Nat)) (vi i)=some (vi (Z2 i (Yk s (l.drop i))),[])) (n:=l.length) ?_ ?_ 0 (Nat.zero_le _)
 .simp only[Int.natCast_zero,List.drop_zero]at key;rw[jv7];simp only[jo,key]
 .rw [jnU,List.drop_length];simp only[jo,Yk,Z2]
 .intro i hi ih;have hlt:(i:Int)<((l.length:Nat):Int):=by omega
  have h5:=js hi hl;rw[jnU,jr hi];by_cases h:s=l[i]
  .simp only[jo,hlt,jb hi,h,Yk,Z2,Nat.add_zero]
  .simp only[jo,hlt,jb hi,h,h5,ih,jis h]
theorem ZZ(l:Xa)(s:Xb)(hl:l.length<=9223372036854775807):G 119 [strs l,sv s]=some (vb (l.contains s),[]):=by
 have e:=jiv l s hl;rw[jvW];simp only[jo,e,je2]
theorem jpZ(l:Xa)(s:Xb)(hl:l.length<=9223372036854775807):G 99 [strs l,sv s]=some (vb (l.contains s),[]):=by
 have key:=upto (P:=λi=>jjT (strs l) (sv s) (vi i)=some (vb ((l.drop i).contains s),[])) (n:=l.length) ?_ ?_ 0 (Nat.zero_le _)
 .simp only[Int.natCast_zero,List.drop_zero]at key;rw[g99];exact key
 .rw [jrz,List.drop_length];simp only[jo,List.contains_nil]
 .intro i hi ih;have hlt:(i:Int)<((l.length:Nat):Int):=by omega
  have h5:=js hi hl;rw[jrz,jr hi,List.contains_cons];by_cases h:l[i]=s
  .have:(s == l[i])=true:=by simp[h]
   simp only[jo,hlt,jb hi,h];simp
  .have:(s == l[i])=false:=by simp;exact λe=>h e.symm
   simp only[jo,hlt,jb hi,h,this,h5,ih,Bool.false_or]
def jhw:Xa:=[[116,114,117,101],[102,97,108,115,101],[116,114,117,116,104],[98,111,116,104],[101,105,116,104,101,114],[105,102],[97,108,108],[115,111,109,101]]
def jfK(c:UInt8):Bool:=zX c || decide ((c.toNat:Int)=95)
def qf:Xb->Bool
 | []=>false
 |c::r=>Yu c && (r.all jfK && (decide (r.length<=5) && !jhw.contains (c::r)))
theorem jpv(a b:Xb):(a == b)=decide (a=b):=by by_cases h:a=b<;>simp[h]
theorem jdu(s:Xb)(hs:s.length<=9223372036854775807):∀i,i<=s.length->1<=i->jbN (sv s) (vi (s.length:Nat)) (vi i)=some (vb ((s.drop i).all jfK && (KG 1 6 (s.length:Nat) && !jhw.contains s)),[]):=by
 refine upto (P:=λi=>1<=i->jbN (sv s) (vi (s.length:Nat)) (vi i)=some (vb ((s.drop i).all jfK && (KG 1 6 (s.length:Nat) && !jhw.contains s)),[])) ?_ ?_
 .intro _;rw[jfb,List.drop_length];have e:=ZT (s.length:Nat) 1 6;have e2:=ZZ jhw s (by decide);have e3:G 130 []=some (strs jhw,[]):=jv6;cases h:KG 1 6 (s.length:Nat)<;>rw[h]at e<;>simp only[jo,e,e2,e3,Bool.true_and,Bool.false_and]
 .intro i hi ih h1;have ih:=ih (by omega);have hn:¬((i:Int)=0):=by omega
  have hlt:(i:Int)<((s.length:Nat):Int):=by omega
  have h5:=js hi hs;have hx:=qO hi;have e1:=Yr s[i];have e2:=jch s[i];rw[jfb,jr hi];generalize s[i]=ch at *;rw[List.all_cons];cases h7:decide ((ch.toNat:Int)=95)<;>cases h8:Yu ch<;>cases h9:jlb ch<;>rw[h8]at e1<;>rw[h9]at e2<;>
   simp only[jo,hn,hlt,hx,e1,e2,h5,ih,jfK,zX,h7,h8,h9,Bool.true_and,Bool.false_and,Bool.or_true,Bool.or_false]
theorem jaQ(s:Xb)(hs:s.length<=9223372036854775807):G 114 [sv s]=some (vb (qf s),[]):=by
 rw[jvS];show(Qz (sv s)).bind _=_;rw[Zk,Option.bind_some];cases s with
 |nil=>
  rw[jfb];have e:G 129 [vi ((0:Nat):Int),vi 1,vi 6]=some (vb false,[]):=ZT ((0:Nat):Int) 1 6;simp only[jo,e];rfl
 |cons c r=>
  have key:=jdu (c::r) hs 1 (by simp) (Nat.le_refl _);simp only[List.drop_succ_cons,List.drop_zero]at key;have e':KG 1 6 (((c::r).length:Nat):Int)=decide (r.length<=5):=jbA r 5 (by decide);rw[e']at key;rw[jfb];have h5:jz .add false (vi 0) (vi 1)=some (vi ((1:Nat):Int)):=by rw[JY,k9 (by decide) (by decide)];rfl
  have h6:(0:Int)<(((c::r).length:Nat):Int):=Int.natCast_pos.2 (Nat.succ_pos _);have e1:=Yr c;generalize ((((c::r).length:Nat)):Int)=n at *;cases hu:Yu c<;>rw[hu]at e1<;>simp only[jo,h6,zh,e1,h5,key,qf,hu,Bool.true_and,Bool.false_and]
theorem jdx(s:Xb)(hs:s.length<=9223372036854775807):∀i,i<=s.length->JF (sv s) (vi i)=some (vb ((s.drop i).all jfK),[]):=by
 refine upto (P:=λi=>JF (sv s) (vi i)=some (vb ((s.drop i).all jfK),[])) ?_ ?_
 .rw [jrq,List.drop_length];simp only[jo]
 .intro i hi ih;have hlt:(i:Int)<((s.length:Nat):Int):=by omega
  have h5:=js hi hs;have hx:=qO hi;have e1:=jcu s[i];rw[jrq,jr hi];generalize s[i]=ch at *;rw[List.all_cons];cases h7:decide ((ch.toNat:Int)=95)<;>cases h8:zX ch<;>rw[h8]at e1<;>simp only[jo,hlt,hx,e1,h5,ih,jfK,h7,h8,Bool.true_and,Bool.false_and,Bool.or_true,Bool.or_false]
theorem jaT(s:Xb)(hs:s.length<=9223372036854775807):G 76 [sv s]=some (vb (qf s),[]):=by
 rw[g76];show(Qz (sv s)).bind _=_;rw[Zk,Option.bind_some];cases s with
 |nil=>
  have e:G 96 [vi ((0:Nat):Int),vi 1,vi 6]=some (vb false,[]):=jbB ((0:Nat):Int) 1 6;simp only[jo,e];rfl
 |cons c r=>
  have e:=jbB (((c::r).length:Nat):Int) 1 6;have e':KG 1 6 (((c::r).length:Nat):Int)=decide (r.length<=5):=jbA r 5 (by decide);rw[e']at e;have key:=jdx (c::r) hs 1 (by simp);simp only[List.drop_succ_cons,List.drop_zero]at key;have key:JF (sv (c::r)) (vi 1)=some (vb (r.all jfK),[]):=key;generalize ((((c::r).length:Nat)):Int)=n at *;have hres:jhw.contains (c::r)=(decide (c::r=[116,114,117,101]) || (decide (c::r=[102,97,108,115,101]) || (decide (c::r=[116,114,117,116,104]) || (decide (c::r=[98,111,116,104]) || (decide (c::r=[101,105,116,104,101,114]) || (decide (c::r=[105,102]) || (decide (c::r=[97,108,108]) || decide (c::r=[115,111,109,101])))))))):=by
   simp only[jhw,List.contains_cons,List.contains_nil,Bool.or_false,jpv]
  by_cases h3:r.length<=5
  .rw [decide_eq_true h3]at e;by_cases ha:(c.toNat:Int)<97
   .have:¬(97<=(c.toNat:Int)):=by omega
    simp only[jo,e,zh,ha,qf,Yu,KG,this,Bool.false_and]
   .have h65:97<=(c.toNat:Int):=by omega
    by_cases hb:122<(c.toNat:Int)
    .have:¬((c.toNat:Int)<=122):=by omega
     simp only[jo,e,zh,ha,hb,qf,Yu,KG,this,Bool.false_and,Bool.and_false]
    .have h122:(c.toNat:Int)<=122:=by omega
     have e0:qf (c::r)=(r.all jfK && !jhw.contains (c::r)):=by
      simp[qf,Yu,KG,h65,h122,h3]
     rw[e0,hres];have hx0:=zh (c:=c) (l:=r);clear hres e0;generalize c::r=s at *;cases q0:decide (s=[116,114,117,101]);rotate_left
     .simp only[jo,e,hx0,ha,hb,q0,Bool.true_or,Bool.and_false]
     cases q1:decide (s=[102,97,108,115,101]);rotate_left
     .simp only[jo,e,hx0,ha,hb,q0,q1,Bool.true_or,Bool.false_or,Bool.and_false]
     cases q2:decide (s=[116,114,117,116,104]);rotate_left
     .simp only[jo,e,hx0,ha,hb,q0,q1,q2,Bool.true_or,Bool.false_or,Bool.and_false]
     cases q3:decide (s=[98,111,116,104]);rotate_left
     .simp only[jo,e,hx0,ha,hb,q0,q1,q2,q3,Bool.true_or,Bool.false_or,Bool.and_false]
     cases q4:decide (s=[101,105,116,104,101,114]);rotate_left
     .simp only[jo,e,hx0,ha,hb,q0,q1,q2,q3,q4,Bool.true_or,Bool.false_or,Bool.and_false]
     cases q5:decide (s=[105,102]);rotate_left
     .simp only[jo,e,hx0,ha,hb,q0,q1,q2,q3,q4,q5,Bool.true_or,Bool.false_or,Bool.and_false]
     cases q6:decide (s=[97,108,108]);rotate_left
     .simp only[jo,e,hx0,ha,hb,q0,q1,q2,q3,q4,q5,q6,Bool.true_or,Bool.false_or,Bool.and_false]
     cases q7:decide (s=[115,111,109,101]);rotate_left
     .simp only[jo,e,hx0,ha,hb,q0,q1,q2,q3,q4,q5,q6,q7,Bool.false_or,Bool.and_false]
     simp only[jo,e,hx0,ha,hb,q0,q1,q2,q3,q4,q5,q6,q7,Bool.or_false,key]
  .rw [decide_eq_false h3]at e;simp only[jo,e,qf,h3,Bool.false_and,Bool.and_false]
mutual
def nodes:T->Nat
 |.mk _ us=>1+jE us
def jE:Xg->Nat
 | []=>0
 |t::ts=>nodes t+jE ts
end
theorem j6(t:T):nodes t=1+jE t.args:=by cases t;rfl
mutual
def Yj:T->Nat
 |.mk _ us=>1+K6 us
def K6:Xg->Nat
 | []=>0
 |t::ts=>max (Yj t) (K6 ts)
end
theorem jb2(t:T):Yj t=1+K6 t.args:=by cases t;rfl
mutual
def yH:T->Bool
 |.mk n us=>if jA n then us.isEmpty else qf n && (decide (us.length<=4) && Qv us)
def Qv:Xg->Bool
 | []=>true
 |t::ts=>yH t && Qv ts
end
theorem qN(t:T):yH t=if jA t.name then t.args.isEmpty else qf t.name && (decide (t.args.length<=4) && Qv t.args):=by cases t;rfl
theorem JX:∀ts,Qv ts=ts.all yH
 | []=>rfl
 |t::ts=>by rw[Qv,JX ts,List.all_cons]
theorem Qs:∀t:T,nodes t<=1+tsz t:=by
 refine T.ind λt ih=>?_;have:∀ts:Xg,(∀u∈ts,nodes u<=1+tsz u)->jE ts<=ts.length+qy ts:=by
  intro ts;induction ts with
  |nil=>intro _;simp[jE]
  |cons u us ih=>
   intro h;have h1:=h u (by simp);have h2:=ih λv hv=>h v (by simp[hv]);simp only[jE,qy,List.length_cons];omega
 have h:=this t.args ih;rw[j6,kC];omega
theorem jlF(t:T):1<=nodes t:=by rw[j6];omega
theorem Yz{ts:Xg}{t:T}(h:t∈ts):nodes t<=jE ts:=by
 induction ts with
 |nil=>cases h
 |cons u us ih=>
  simp only[jE];rcases List.mem_cons.1 h with rfl|h
  .omega
  .have:=ih h;omega
theorem jni:∀t:T,Yj t<=nodes t:=by
 refine T.ind λt ih=>?_;have:∀ts:Xg,(∀u∈ts,Yj u<=nodes u)->K6 ts<=jE ts:=by
  intro ts;induction ts with
  |nil=>intro _;simp[K6]
  |cons u us ih=>
   intro h;have h1:=h u (by simp);have h2:=ih λv hv=>h v (by simp[hv]);simp only[jE,K6];omega
 have h:=this t.args ih;rw[j6,jb2];omega
theorem jmf(ts:Xg)(hl:ts.length<=9223372036854775807)(hn:jE ts<=1048577)(ih:∀t∈ts,∃r:Nat,G 122 [tm t]=some (vi r,[])/\r<=nodes t/\(nodes t<=30->r=nodes t)/\(30<nodes t->30<r)) :
  ∀i,i<=ts.length-> ∀a:Nat,a+jE (ts.drop i)<=1048578-> ∃r:Nat,jeK (vi a) (jW ts) (vi (ts.length:Nat)) (vi i)=some (vi r,[])/\r<=a+jE (ts.drop i)/\(a+jE (ts.drop i)<=30->r=a+jE (ts.drop i))/\(30<a+jE (ts.drop i)->30<r):=by
 refine upto ?_ ?_
 .intro a ha;rw[jiB,List.drop_length];simp only[jo,jE,Nat.add_zero];exact⟨a,rfl,Nat.le_refl _,λ_=>rfl,λh=>h⟩
 .intro i hi ih' a ha;have hlt:(i:Int)<((ts.length:Nat):Int):=by omega
  have h5:=js hi hl;rw[jr hi]at ha⊢;simp only[jE]at ha⊢;obtain⟨r1,e1,b1,b2,b3⟩:=ih ts[i] (List.getElem_mem _);by_cases hc:(30:Int)<(a:Int)
  .refine ⟨a,?_,by omega,by omega,by omega⟩;rw[jiB];simp only[jo,hlt,jb hi,jp,hc]
  .have hk:ck ((a:Int)+(r1:Int))=some (vi ((a+r1:Nat):Int)):=by rw[k9 (by omega) (by omega)];rfl
   obtain⟨r2,e2,c1,c2,c3⟩:=ih' (a+r1) (by omega);refine⟨r2,?_,by omega,by omega,by omega⟩;rw[jiB];simp only[jo,hlt,jb hi,jp,hc,e1,hk,h5,e2]
theorem size_eq:∀t:T,KC t->tsz t<=1048576-> ∃r:Nat,G 122 [tm t]=some (vi r,[])/\r<=nodes t/\(nodes t<=30->r=nodes t)/\(30<nodes t->30<r):=by
 refine T.ind λt ih hw hs=>?_;obtain⟨w1,w2,w3⟩:=(kS t).1 hw;have w3:=(kz _).1 w3;have hn:=Qs t;rw[j6]at hn;rw[kC]at hs;obtain⟨r,h1,h2,h3,h4⟩:=jmf t.args w2 (by rw[kC]at hn;omega) (λu hu=>ih u hu (w3 u hu) (by have:=yS hu;omega)) 0 (Nat.zero_le _) 1 (by rw[kC]at hn;simp;omega);simp only[List.drop_zero,Int.natCast_zero,Int.natCast_one]at h1 h2 h3 h4;refine⟨r,?_,by rw[j6];exact h2,by rw[j6];exact h3,by rw[j6];exact h4⟩;rw[jvY];simp only[jo,h1]
theorem jlC(n:Xb)(most:Int)(hm1: -1048600<=most)(hm:most<=1048576)(ts:Xg)(hl:ts.length<=9223372036854775807)(ih:∀t∈ts,∀m:Int,-1048600<=m->m<=1048576-> ∃r:Nat,G 93 [tm t,vi m]=some (vi r,[])/\1<=r/\r<=nodes t/\((nodes t:Int)<=m->r=nodes t)/\(m<nodes t->m<r)) :
  ∀i,i<=ts.length-> ∀a:Nat,1<=a->a+jE (ts.drop i)<=1048578-> ∃r:Nat,jjR (vi most) (vi a) (vi i) (sv n) (jW ts)=some (vi r,[])/\1<=r/\r<=a+jE (ts.drop i)/\(((a+jE (ts.drop i):Nat):Int)<=most->r=a+jE (ts.drop i))/\(most<((a+jE (ts.drop i):Nat):Int)->most<r):=by
 refine upto ?_ ?_
 .intro a h1 ha;rw[jn0,List.drop_length];simp only[jo,jE,Nat.add_zero];exact⟨a,rfl,h1,Nat.le_refl _,λ_=>rfl,λh=>h⟩
 .intro i hi ih' a h1 ha;have hlt:(i:Int)<((ts.length:Nat):Int):=by omega
  have h5:=js hi hl;rw[jr hi]at ha⊢;simp only[jE]at ha⊢;by_cases hc:(a:Int)<=most
  .obtain ⟨r1,e1,b0,b1,b2,b3⟩:=ih ts[i] (List.getElem_mem _) (most-a) (by omega) (by omega);have hk0:ck (most-(a:Int))=some (vi (most-a)):=k9 (by omega) (by omega);have hk:ck ((a:Int)+(r1:Int))=some (vi ((a+r1:Nat):Int)):=by rw[k9 (by omega) (by omega)];rfl
   obtain⟨r2,e2,c0,c1,c2,c3⟩:=ih' (a+r1) (by omega) (by omega);refine⟨r2,?_,by omega,by omega,by omega,by omega⟩;rw[jn0];simp only[jo,hlt,jb hi,jp,hc,hk0,e1,hk,h5,e2]
  .refine ⟨a,?_,h1,by omega,by omega,by omega⟩;rw[jn0];simp only[jo,hlt,hc]
theorem jp1:∀t:T,KC t->tsz t<=1048576-> ∀m:Int,-1048600<=m->m<=1048576-> ∃r:Nat,G 93 [tm t,vi m]=some (vi r,[])/\1<=r/\r<=nodes t/\((nodes t:Int)<=m->r=nodes t)/\(m<nodes t->m<r):=by
 refine T.ind λt ih hw hs m hm1 hm=>?_;obtain⟨w1,w2,w3⟩:=(kS t).1 hw;have w3:=(kz _).1 w3;have hn:=Qs t;rw[j6]at hn;obtain⟨r,h1,h0,h2,h3,h4⟩:=jlC t.name m hm1 hm t.args w2 (λu hu m h1 h2=>ih u hu (w3 u hu) (by have:=yS hu;rw[kC]at hs;omega) m h1 h2) 0 (Nat.zero_le _) 1 (Nat.le_refl _) (by simp;omega);simp only[List.drop_zero,Int.natCast_zero,Int.natCast_one]at h1 h2 h3 h4;refine⟨r,?_,h0,by rw[j6];exact h2,by rw[j6];exact h3,by rw[j6];exact h4⟩;rw[g93];simp only[jo,h1]
theorem jil(ts:Xg)(hl:ts.length<=9223372036854775807)(hn:jE ts<=1048577)(ih:∀t∈ts,G 123 [tm t]=some (vi (Yj t:Nat),[])) :
  ∀i,i<=ts.length-> ∀a:Nat,a<=1048577->jeL (vi a) (jW ts) (vi (ts.length:Nat)) (vi i)=some (vi ((max a (K6 (ts.drop i))+1:Nat):Int),[]):=by
 refine upto ?_ ?_
 .intro a ha;have hk:ck ((a:Int)+1)=some (vi ((a+1:Nat):Int)):=by rw[k9 (by omega) (by omega)];rfl
  rw[jnT,List.drop_length];simp only[jo,K6,hk,Nat.max_zero]
 .intro i hi ih' a ha;have hlt:(i:Int)<((ts.length:Nat):Int):=by omega
  have h5:=js hi hl;have e1:=ih ts[i] (List.getElem_mem _);have hd:Yj ts[i]<=1048577:=Nat.le_trans (jni _) (Nat.le_trans (Yz (List.getElem_mem hi)) hn);have hmx:(if(a:Int)<((Yj ts[i]:Nat):Int)then((Yj ts[i]:Nat):Int)else(a:Int))=((max a (Yj ts[i]):Nat):Int):=by split<;>omega
  have ih':=ih' (max a (Yj ts[i])) (by omega);rw[jnT,jr hi];simp only[jo,hlt,jb hi,jp,e1,hmx,h5,ih',K6,Nat.max_assoc]
theorem jnj:∀t:T,KC t->tsz t<=1048576->G 123 [tm t]=some (vi (Yj t:Nat),[]):=by
 refine T.ind λt ih hw hs=>?_;obtain⟨w1,w2,w3⟩:=(kS t).1 hw;have w3:=(kz _).1 w3;have hn:=Qs t;rw[j6]at hn;have h1:=jil t.args w2 (by omega) (λu hu=>ih u hu (w3 u hu) (by have:=yS hu;rw[kC]at hs;omega)) 0 (Nat.zero_le _) 0 (by omega);simp only[List.drop_zero,Int.natCast_zero,Nat.zero_max]at h1;rw[jvZ,jb2,Nat.add_comm];simp only[jo,h1]
theorem jp3(a b:Nat):G 111 [vi a,vi b]=some (vi ((max a b:Nat):Int),[]):=by
 rw[jvP];by_cases h:(b:Int)<(a:Int)
 .simp only[jo,h];rw[Nat.max_eq_left (by omega)]
 .simp only[jo,h];rw[Nat.max_eq_right (by omega)]
theorem jfe(n:Xb)(ts:Xg)(hl:ts.length<=9223372036854775807)(hn:jE ts<=1048577)(ih:∀t∈ts,G 94 [tm t]=some (vi (Yj t:Nat),[])) :
  ∀i,i<=ts.length-> ∀a:Nat,a<=1048577->jjS (vi a) (vi i) (sv n) (jW ts)=some (vi ((max a (K6 (ts.drop i))+1:Nat):Int),[]):=by
 refine upto ?_ ?_
 .intro a ha;have hk:ck ((a:Int)+1)=some (vi ((a+1:Nat):Int)):=by rw[k9 (by omega) (by omega)];rfl
  rw[jrx,List.drop_length];simp only[jo,K6,hk,Nat.max_zero]
 .intro i hi ih' a ha;have hlt:(i:Int)<((ts.length:Nat):Int):=by omega
  have h5:=js hi hl;have e1:=ih ts[i] (List.getElem_mem _);have e2:=jp3 a (Yj ts[i]);have hd:Yj ts[i]<=1048577:=Nat.le_trans (jni _) (Nat.le_trans (Yz (List.getElem_mem hi)) hn);have ih':=ih' (max a (Yj ts[i])) (by omega);rw[jrx,jr hi];simp only[jo,hlt,jb hi,jp,e1,e2,h5,ih',K6,Nat.max_assoc]
theorem jiD:∀t:T,KC t->tsz t<=1048576->G 94 [tm t]=some (vi (Yj t:Nat),[]):=by
 refine T.ind λt ih hw hs=>?_;obtain⟨w1,w2,w3⟩:=(kS t).1 hw;have w3:=(kz _).1 w3;have hn:=Qs t;rw[j6]at hn;have h1:=jfe t.name t.args w2 (by omega) (λu hu=>ih u hu (w3 u hu) (by have:=yS hu;rw[kC]at hs;omega)) 0 (Nat.zero_le _) 0 (by omega);simp only[List.drop_zero,Int.natCast_zero,Nat.zero_max]at h1;rw[g94,jb2,Nat.add_comm];simp only[jo,h1]
def kO(t:T):Bool:=decide (nodes t<=30) && decide (Yj t<=8)
def zH(t:T):Bool:=kO t && yH t
theorem jcj(t:T)(hw:KC t)(hs:tsz t<=1048576):G 112 [tm t]=some (vb (kO t),[]):=by
 obtain⟨r,h1,h2,h3,h4⟩:=size_eq t hw hs;have hd:=jnj t hw hs;rw[jvQ];by_cases h:nodes t<=30
 .have:(r:Int)<=30:=by have:=h3 h;omega
  have e:decide (((Yj t:Nat):Int)<=8)=decide (Yj t<=8):=by congr 1;exact propext (by omega)
  simp only[jo,h1,hd,this,kO,h,e,Bool.true_and]
 .have:¬(r:Int)<=30:=by have:=h4 (by omega);omega
  simp only[jo,h1,this,kO,h,Bool.false_and]
theorem jdZ(t:T)(hw:KC t)(hs:tsz t<=1048576):G 74 [tm t]=some (vb (kO t),[]):=by
 obtain⟨r,h1,h0,h2,h3,h4⟩:=jp1 t hw hs 30 (by decide) (by decide);have hd:=jiD t hw hs;rw[g74];by_cases h:nodes t<=30
 .have:(r:Int)<=30:=by have:=h3 (by omega);omega
  have e:decide (((Yj t:Nat):Int)<=8)=decide (Yj t<=8):=by congr 1;exact propext (by omega)
  simp only[jo,h1,hd,this,kO,h,e,Bool.true_and]
 .have:¬(r:Int)<=30:=by have:=h4 (by omega);omega
  simp only[jo,h1,this,kO,h,Bool.false_and]
theorem jba{f:FuncId}{caps:Xd}(hsig:K.pureF f=true)(p:T->Bool)(ts:Xg)(hl:ts.length<=9223372036854775807)(h:∀t∈ts,G f (tm t::caps)=some (vb (p t),[])) :
  ∃r:Int,G 137 [jW ts,.fn f caps]=some (vi r,[])/\decide (0<=r)=ts.any p:=by
 have key:=upto (P:=λi=>∃r:Int,jeN (jW ts) (.fn f caps) (vi (ts.length:Nat)) (vi i)=some (vi r,[])/\decide (0<=r)=(ts.drop i).any p) (n:=ts.length) ?_ ?_ 0 (Nat.zero_le _)
 .obtain ⟨r,h1,h2⟩:=key;simp only[Int.natCast_zero,List.drop_zero]at h1 h2;refine⟨r,?_,h2⟩;rw[jv8];simp only[jo,h1]
 .refine ⟨-1,?_,by simp⟩;rw[jnV];simp only[jo]
 .intro i hi ih;obtain⟨r,h1,h2⟩:=ih;have hlt:(i:Int)<((ts.length:Nat):Int):=by omega
  have h5:=js hi hl;have e1:=h ts[i] (List.getElem_mem _);rw[jnV,jr hi,List.any_cons];cases hp:p ts[i]<;>rw[hp]at e1
  .refine ⟨r,?_,by rw[h2,Bool.false_or]⟩;simp only[jo,hlt,jb hi,jp,yT hsig,List.cons_append,List.nil_append,e1,h5,h1]
  .refine ⟨i,?_,by simp⟩;simp only[jo,hlt,jb hi,jp,yT hsig,List.cons_append,List.nil_append,e1]
theorem jb0{f:FuncId}{caps:Xd}(hsig:K.pureF f=true)(p:T->Bool)(ts:Xg)(hl:ts.length<=9223372036854775807)(h:∀t∈ts,G f (tm t::caps)=some (vb (p t),[])) :
  G 125 [jW ts,.fn f caps]=some (vb (ts.any p),[]):=by
 obtain⟨r,h1,h2⟩:=jba hsig p ts hl h;rw[jv1];simp only[jo,h1,h2]
theorem jga(p:T->Bool)(ts:Xg):(ts.any λt=> !p t)=!ts.all p:=by
 induction ts with
 |nil=>rfl
 |cons t ts ih=>rw[List.any_cons,List.all_cons,ih];cases p t<;>rfl
theorem K9:∀t:T,KC t->G 113 [tm t]=some (vb (yH t),[]):=by
 refine T.ind λt ih hw=>?_;obtain⟨w1,w2,w3⟩:=(kS t).1 hw;have w3:=(kz _).1 w3;have e1:=jdv t.name w1;have e2:=jaQ t.name w1;have e3:=jb0 (f:=126) (caps:=[]) rfl (λu=> !yH u) t.args w2 (λu hu=>by
  have:=ih u hu (w3 u hu);rw[jv2];simp only[jo,this])
 rw[jga,<-JX]at e3;rw[jvR,qN];have e4:decide (((t.args.length:Nat):Int)=0)=t.args.isEmpty:=by cases t.args<;>simp;omega
 have e5:decide (((t.args.length:Nat):Int)<=4)=decide (t.args.length<=4):=by congr 1;exact propext (by omega)
 cases hv:jA t.name<;>rw[hv]at e1
 .cases hy:qf t.name<;>rw[hy]at e2
  .simp only[jo,e1,e2,Bool.false_and]
  .cases ha:decide (t.args.length<=4)<;>rw[ha]at e5
   .simp only[jo,e1,e2,e5,Bool.false_and,Bool.true_and]
   .simp only[jo,e1,e2,e5,e3,Bool.true_and,Bool.not_not]
 .simp only[jo,e1,e4]
theorem Ys:∀t:T,KC t->G 75 [tm t]=some (vb (yH t),[]):=by
 refine T.ind λt ih hw=>?_;obtain⟨w1,w2,w3⟩:=(kS t).1 hw;have w3:=(kz _).1 w3;have e1:=Zf t.name w1;have e2:=jaT t.name w1;have key:=upto (P:=λi=>jjO (vi i) (sv t.name) (jW t.args)=some (vb (Qv (t.args.drop i)),[])) (n:=t.args.length) ?_ ?_ 0 (Nat.zero_le _)
 .simp only[Int.natCast_zero,List.drop_zero]at key;rw[g75,qN];have e4:decide (((t.args.length:Nat):Int)=0)=t.args.isEmpty:=by cases t.args<;>simp;omega
  cases hv:jA t.name<;>rw[hv]at e1
  .cases hy:qf t.name<;>rw[hy]at e2
   .simp only[jo,e1,e2,Bool.false_and]
   .by_cases ha:4<((t.args.length:Nat):Int)
    .have:¬t.args.length<=4:=by omega
     simp only[jo,e1,e2,ha,this,Bool.false_and,Bool.and_false]
    .have:t.args.length<=4:=by omega
     simp only[jo,e1,e2,ha,this,key,Bool.true_and]
  .simp only[jo,e1,e4]
 .rw [jrp,List.drop_length];simp only[jo,Qv]
 .intro i hi ih';have hlt:(i:Int)<((t.args.length:Nat):Int):=by omega
  have h5:=js hi w2;have e3:=ih t.args[i] (List.getElem_mem _) (w3 _ (List.getElem_mem _));rw[jrp,jr hi,Qv];cases hp:yH t.args[i]<;>rw[hp]at e3
  .simp only[jo,hlt,jb hi,jp,e3,Bool.false_and]
  .simp only[jo,hlt,jb hi,jp,e3,h5,ih',Bool.true_and]
theorem jcm(t:T)(hw:KC t)(hs:tsz t<=1048576):G 115 [tm t]=some (vb (zH t),[]):=by
 have e1:=jcj t hw hs;have e2:=K9 t hw;rw[jvT,zH];cases h:kO t<;>rw[h]at e1<;>simp only[jo,e1,e2,Bool.true_and,Bool.false_and]
theorem jlo(t:T)(hw:KC t)(hs:tsz t<=1048576):G 77 [tm t]=some (vb (zH t),[]):=by
 have e1:=jdZ t hw hs;have e2:=Ys t hw;rw[g77,zH];cases h:kO t<;>rw[h]at e1<;>simp only[jo,e1,e2,Bool.true_and,Bool.false_and]
def jvH(o:Ord')(i:Nat):Bool:=qf (o.syms.getD i []) && (!(o.syms.take i).contains (o.syms.getD i []) && KG o.var 100 (o.ws.getD i 0))
def jjs(o:Ord'):Bool:=KG 1 12 (o.syms.length:Nat) && (decide (o.ws.length=o.syms.length) && (KG 1 100 o.var && (List.range o.syms.length).all (jvH o)))
mutual
def jpF(l:Xa):T->Bool
 |.mk n us=>(jA n || l.contains n) && jqV l us
def jqV(l:Xa):Xg->Bool
 | []=>true
 |t::ts=>jpF l t && jqV l ts
end
theorem qM{t:T}(h:yH t=true):∀u∈t.args,yH u=true:=by
 rw[qN]at h;intro u hu;split at h
 .rw [List.isEmpty_iff.1 h]at hu;cases hu
 .simp only[Bool.and_eq_true]at h;rw[JX]at h;exact List.all_eq_true.1 h.2.2 u hu
theorem joe{t:T}(h:yH t=true):∃c r,t.name=c::r/\jA t.name=upc c/\(upc c=false->qf t.name=true):=by
 rw[qN]at h;cases hn:t.name with
 |nil=>rw[hn]at h;simp[jA,qf]at h
 |cons c r=>
  refine⟨c,r,rfl,?_,?_⟩
  .rw [hn]at h;cases hu:upc c with
   |false=>simp[jA,hu]
   |true=>
    cases hv:jA (c::r)with
    |true=>rfl
    |false=>
     rw[hv]at h;have:Yu c=false:=by
      simp only[upc,KG,Yu,Bool.and_eq_true,decide_eq_true_eq]at hu⊢;have:¬(97<=(c.toNat:Int)):=by omega
      simp[this]
     simp[qf,this]at h
  .intro hu;rw[hn]at h;have:jA (c::r)=false:=by simp[jA,hu]
   rw[this]at h;simp at h;exact h.1
theorem jcn(t:T)(h:yH t=true):G 109 [tm t]=some (vb (jA t.name),[]):=by
 obtain⟨c,r,hn,hv,_⟩:=joe h;have e1:=Kh c;rw[<-hv]at e1;rw[jsq];have hx:kG (sv t.name) (vi 0)=some (vy (c.toNat:Int)):=by rw[hn];exact zh
 simp only[jo,hx,e1]
def good(o:Ord')(t:T):Bool:=zH t && jpF o.syms t
def jwG(o:Ord')(n:Xb):Int:=match Yk n o.syms with|some k=>o.ws.getD k 0|none=>0
mutual
def wt(o:Ord'):T->Int
 |.mk n us=>(if jA n then o.var else jwG o n)+wtL o us
def wtL(o:Ord'):Xg->Int
 | []=>0
 |t::ts=>wt o t+wtL o ts
end
def js1(o:Ord')(t:T):A:=if jjs o && good o t then .tup [vi (wt o t),vb true]else .tup [vi 0,vb false]
noncomputable def dq{α:Type}(a b:α):Bool:=@decide (a=b) (Classical.propDecidable _)
theorem Jd{α:Type}{a b:α} :dq a b=true↔a=b:=by unfold dq;exact @decide_eq_true_iff _ (Classical.propDecidable _)
theorem jnk{α:Type}{a b:α} :dq a b=false↔ ¬a=b:=by unfold dq;exact @decide_eq_false_iff_not _ (Classical.propDecidable _)
theorem Y7{α:Type}(a:α):dq a a=true:=Jd.2 rfl
theorem jj5{α:Type}(a b:α)(l r:List α):dq (a::l) (b::r)=(dq a b && dq l r):=by
 rw[Bool.eq_iff_iff,Bool.and_eq_true,Jd,Jd,Jd,List.cons.injEq]
theorem jt1(s t:T):dq s t=(decide (s.name=t.name) && dq s.args t.args):=by
 cases s with
 |mk n us=>cases t with
  |mk m vs=>rw[Bool.eq_iff_iff,Bool.and_eq_true,Jd,Jd,decide_eq_true_iff,T.mk.injEq];rfl
theorem jnl{α:Type}{a b:List α}(h:¬a.length=b.length):dq a b=false:=jnk.2 λe=>h (by rw[e])
theorem ja9(ts us:Xg)(hl:ts.length<=9223372036854775807)(hlen:ts.length=us.length)(ih:∀t∈ts,∀u∈us,G 67 [tm t,tm u]=some (vb (dq t u),[])) :
  ∀i,i<=ts.length->jjP (jW us) (.fn 67 []) (jW ts) (vi (ts.length:Nat)) (vi i)=some (vb (dq (ts.drop i) (us.drop i)),[]):=by
 refine upto ?_ ?_
 .rw [jru,List.drop_length,hlen,List.drop_length,Y7];simp only[jo]
 .intro i hi ih';have hlt:(i:Int)<((ts.length:Nat):Int):=by omega
  have hi2:i<us.length:=by omega
  have h5:=js hi hl;have e1:=ih ts[i] (List.getElem_mem _) us[i] (List.getElem_mem _);rw[jru,jr hi,jr hi2,jj5];cases hp:dq ts[i] us[i]<;>rw[hp]at e1
  .simp only[jo,hlt,jb hi,jb hi2,jp,yT (f:=67) rfl,List.append_nil,e1,Bool.false_and]
  .simp only[jo,hlt,jb hi,jb hi2,jp,yT (f:=67) rfl,List.append_nil,e1,h5,ih',Bool.true_and]
theorem yO:∀s:T,KC s-> ∀t:T,KC t->G 67 [tm s,tm t]=some (vb (dq s t),[]):=by
 refine T.ind λs ih hw t hw'=>?_;obtain⟨w1,w2,w3⟩:=(kS s).1 hw;have w3:=(kz _).1 w3;obtain⟨v1,v2,v3⟩:=(kS t).1 hw';have v3:=(kz _).1 v3;rw[g67,jt1];by_cases hn:s.name=t.name
 .have e:G 88 [jW s.args,jW t.args,.fn 67 []]=some (vb (dq s.args t.args),[]):=by
   rw[g88];by_cases hlen:s.args.length=t.args.length
   .have key:=ja9 s.args t.args w2 hlen (λa ha b hb=>ih a ha (w3 a ha) b (v3 b hb)) 0 (Nat.zero_le _);simp only[Int.natCast_zero,List.drop_zero]at key;rw[hlen]at key;simp only[jo,hlen,key]
   .have hlen':¬((s.args.length:Nat):Int)=((t.args.length:Nat):Int):=by omega
    simp only[jo,hlen',jnl hlen]
  simp only[jo,hn,e,Bool.true_and]
 .simp only[jo,hn,Bool.false_and]
theorem jgS(n m:Xb)(ts us:Xg)(hl:ts.length<=9223372036854775807)(hlen:ts.length=us.length)(ih:∀t∈ts,∀u∈us,G 59 [tm t,tm u]=some (vb (dq t u),[])) :
  ∀i,i<=ts.length->jjJ (vi i) (sv n) (jW ts) (sv m) (jW us)=some (vb (dq (ts.drop i) (us.drop i)),[]):=by
 refine upto ?_ ?_
 .rw [jri,List.drop_length,hlen,List.drop_length,Y7];simp only[jo,hlen]
 .intro i hi ih';have hlt:(i:Int)<((ts.length:Nat):Int):=by omega
  have hi2:i<us.length:=by omega
  have h5:=js hi hl;have e1:=ih ts[i] (List.getElem_mem _) us[i] (List.getElem_mem _);rw[jri,jr hi,jr hi2,jj5];cases hp:dq ts[i] us[i]<;>rw[hp]at e1
  .simp only[jo,hlt,jb hi,jb hi2,jp,e1,Bool.false_and]
  .simp only[jo,hlt,jb hi,jb hi2,jp,e1,h5,ih',Bool.true_and]
theorem jac:∀s:T,KC s-> ∀t:T,KC t->G 59 [tm s,tm t]=some (vb (dq s t),[]):=by
 refine T.ind λs ih hw t hw'=>?_;obtain⟨w1,w2,w3⟩:=(kS s).1 hw;have w3:=(kz _).1 w3;obtain⟨v1,v2,v3⟩:=(kS t).1 hw';have v3:=(kz _).1 v3;rw[g59,jt1];by_cases hn:s.name=t.name
 .by_cases hlen:s.args.length=t.args.length
  .have key:=jgS t.name t.name s.args t.args w2 hlen (λa ha b hb=>ih a ha (w3 a ha) b (v3 b hb)) 0 (Nat.zero_le _);simp only[Int.natCast_zero,List.drop_zero]at key;simp only[jo,hn,hlen,key,Bool.true_and]
  .have hlen':¬((s.args.length:Nat):Int)=((t.args.length:Nat):Int):=by omega
   simp only[jo,hn,hlen',jnl hlen,Bool.and_false]
 .simp only[jo,hn,Bool.false_and]
def rk(o:Ord')(t:T):Int:=Z2 0 (Yk t.name o.syms)
def jtX(a b:Int):Int:=if a<b then -1 else if b<a then 1 else 0
def jkJ(o:Ord')(s t:T):Int:=if rk o s=rk o t then jtX (s.args.length:Nat) (t.args.length:Nat)else jtX (rk o s) (rk o t)
noncomputable def fd:Xg->Xg->Option (T×T)
 |a::l,b::r=>if dq a b=true then fd l r else some (a,b)
 |_,_=>none
def zT:A:= .agg [sv [],.sl 2 []]
noncomputable def fdR(s t:T):A:=match fd s.args t.args with|some (a,b)=>.tup [tm a,tm b,vb true]|none=>.tup [zT,zT,vb false]
noncomputable def jly(o:Ord'):Nat->T->T->Bool
 |0,_,_=>false
 |n+1,s,t=>if jA s.name then false else if(s.args.any λa=>dq a t || jly o n a t)then true else if jA t.name then false
   else if(t.args.any λb=> !jly o n s b)then false else if 0<jkJ o s t then true else if jkJ o s t<0 then false
   else match fd s.args t.args with|some (a,b)=>jly o n a b|none=>false
def jqT(e g l:Bool):Int:=if e then 1 else if g then 2 else if l then 3 else 0
noncomputable def jsg(o:Ord')(s t:T):Int:=jqT (dq s t) (jly o (nodes s+nodes t) s t) (jly o (nodes s+nodes t) t s)
noncomputable def jsi(o:Ord')(s t:T):A:=if jjs o && (good o s && good o t)then .tup [vi (jsg o s t),vb true]else .tup [vi 0,vb false]
theorem jn1{left:Int}{n:Nat}(h0:0<=left)(h1:left<=1048576)(h:¬jX left (n:Int)<0):0<=jX left (n:Int)/\jX left (n:Int)<=1048576/\n<=1048576:=by
 unfold jX at h⊢;split at h
 .rename_i hc;rw[if_pos hc];omega
 .exact absurd jkB h
mutual
def jdh:T->Xa
 |.mk n us=>if jA n then[n]else jdi us
def jdi:Xg->Xa
 | []=>[]
 |t::ts=>jdh t++jdi ts
end
def jvh(l:Xa)(vs:Xa)(k:Nat)(r:Xa):Prop:=(∀n,n∈r↔n∈l\/n∈vs)/\r.length<=l.length+k
mutual
def cnt(n:Xb):T->Nat
 |.mk m us=>(if m=n then 1 else 0)+jtY n us
def jtY(n:Xb):Xg->Nat
 | []=>0
 |t::ts=>cnt n t+jtY n ts
end
def bal(s t:T):Bool:=(jdh t).all λn=>decide (cnt n t<=cnt n s)
noncomputable def jpU(o:Ord'):Nat->T->T->Bool
 |0,_,_=>false
 |n+1,s,t=>if bal s t then(if wt o s=wt o t then(if jA s.name || jA t.name then false else if jkJ o s t=0 then(match fd s.args t.args with|some (a,b)=>jpU o n a b|none=>false)else decide (0<jkJ o s t))else decide (wt o t<wt o s))else false
noncomputable def jsf(o:Ord')(s t:T):Int:=jqT (dq s t) (jpU o (nodes s+nodes t) s t) (jpU o (nodes s+nodes t) t s)
noncomputable def jsh(o:Ord')(s t:T):A:=if jjs o && (good o s && good o t)then .tup [vi (jsf o s t),vb true]else .tup [vi 0,vb false]
def jeW(t:T):T:=t.args.getD 0 (.mk [] [])
def jib(t:T):T:=t.args.getD 1 (.mk [] [])
def jgq(t:T):Bool:=decide (t.args.length=2) && (kO t && (yH (jeW t) && yH (jib t)))
theorem Q1{t:T}(hl:t.args.length=2):jk 2 (jW t.args) (vi 0)=some (.elt (jq (jeW t)) 0)/\jk 2 (jW t.args) (vi 1)=some (.elt (jq (jib t)) 0)/\jeW t∈t.args/\jib t∈t.args:=by
 have e0:jeW t=t.args[0]:=by unfold jeW;simp[List.getD_eq_getElem?_getD,hl]
 have e1:jib t=t.args[1]:=by unfold jib;simp[List.getD_eq_getElem?_getD,hl]
 rw[e0,e1];exact⟨jb (i:=0) (by omega),jb (i:=1) (by omega),List.getElem_mem _,List.getElem_mem _⟩
theorem jiC(t:T)(hw:KC t)(hs:tsz t<=1048576)(he:t.name=[61]):G 55 [tm t]=some (vb (jgq t),[]):=by
 obtain⟨w1,w2,w3⟩:=(kS t).1 hw;have w3:=(kz _).1 w3;have het:(t.name=[61])=True:=eq_true he;unfold jgq;rw[g55];by_cases hl:t.args.length=2;rotate_left
 .have hl':¬((t.args.length:Nat):Int)=2:=by omega
  simp only[jo,het,hl',hl,Bool.false_and]
 have hl':((t.args.length:Nat):Int)=2:=by omega
 rw[decide_eq_true hl,Bool.true_and];obtain⟨i0,i1,ma,mb⟩:=Q1 hl;have p1:=jdZ t hw hs;have p2:=Ys _ (w3 _ ma);have p3:=Ys _ (w3 _ mb);cases h1:kO t<;>rw[h1]at p1
 .simp only[jo,het,hl',p1,Bool.false_and]
 .cases h2:yH (jeW t)<;>rw[h2]at p2
  .simp only[jo,het,hl',p1,i0,jp,p2,Bool.false_and,Bool.and_false]
  .simp only[jo,het,hl',p1,i0,i1,jp,p2,p3,Bool.true_and]
theorem Jr(t:T):G 66 [tm t]=some (vb (decide (t.name=[61])),[]):=by
 rw[g66];simp only[jo]
theorem jbc(t:T)(hw:KC t)(hs:tsz t<=1048576)(he:t.name=[61]):G 102 [tm t]=some (vb (jgq t),[]):=by
 obtain⟨w1,w2,w3⟩:=(kS t).1 hw;have w3:=(kz _).1 w3;have q0:=Jr t;rw[decide_eq_true he]at q0;unfold jgq;rw[jt8];by_cases hl:t.args.length=2;rotate_left
 .have hl':¬((t.args.length:Nat):Int)=2:=by omega
  simp only[jo,q0,hl',hl,Bool.false_and]
 have hl':((t.args.length:Nat):Int)=2:=by omega
 rw[decide_eq_true hl,Bool.true_and];obtain⟨i0,i1,ma,mb⟩:=Q1 hl;have p1:=jcj t hw hs;have p2:=K9 _ (w3 _ ma);have p3:=K9 _ (w3 _ mb);cases h1:kO t<;>rw[h1]at p1
 .simp only[jo,q0,hl',p1,Bool.false_and]
 .cases h2:yH (jeW t)<;>rw[h2]at p2
  .simp only[jo,q0,hl',p1,i0,jp,p2,Bool.false_and,Bool.and_false]
  .simp only[jo,q0,hl',p1,i0,i1,jp,p2,p3,Bool.true_and]
def jxw(o:Ord')(t:T):Bool:=decide (t.name=[61]) && (jgq t && (jpF o.syms (jeW t) && jpF o.syms (jib t)))
theorem js3:∀t:T,tsz t<=1048576->KC t:=by
 refine T.ind λt ih h=>?_;have h':=h;rw[kC]at h';exact(kS t).2 ⟨by omega,by omega,(kz _).2 λu hu=>ih u hu (by have:=yS hu;omega)⟩
theorem jwt{n:Nat}(h:n<=4194304):zo n 40=true:=by
 unfold zo;exact decide_eq_true ⟨by omega,by omega⟩
theorem jsK(t:T):tsz t<=1048576->G 34 [tm t]=some (tm t,[]):=by
 refine T.ind (p:=λt=>tsz t<=1048576->G 34 [tm t]=some (tm t,[])) ?_ t;intro t ih h;rw[kC]at h;have key:=(upto (P:=λi=>jjC (vi i) (sv t.name) (jW t.args) (sv []) (sv t.name) [] ((t.args.take i).map jq)=some (tm t,[])) (n:=t.args.length) ?_ ?_ 0 (Nat.zero_le _))
 .rw [g34];simp only[Int.natCast_zero,List.take_zero,List.map_nil]at key;simp only[jo,key]
 .rw [jq8,List.take_length];simp only[jo]
 .intro i hi ih';have hlt:(i:Int)<((t.args.length:Nat):Int):=by omega
  have h5:=js hi (by show t.args.length<=9223372036854775807;omega)
  have e1:=ih t.args[i] (List.getElem_mem _) (by have:=yS (List.getElem_mem hi);omega)
  have hf:zo (i+1) 40=true:=jwt (by omega);have hl:((t.args.take i).map jq).length=i:=by rw[List.length_map,List.length_take];omega
  have ha:Jw ((t.args.take i).map jq) [[sv t.args[i].name,jW t.args[i].args]]=(t.args.take (i+1)).map jq:=by
   rw[show[sv t.args[i].name,jW t.args[i].args]=jq t.args[i] from(kU _).symm,List.take_add_one,List.getElem?_eq_getElem hi,List.map_append];rfl
  rw[jq8];simp only[jo,hlt,jb hi,jp,e1,hl,hf,ha,h5,ih']
def Lp(o:Ord')(s t:T):Prop:=jly o (nodes s+nodes t) s t=true
def Kp(o:Ord')(s t:T):Prop:=jpU o (nodes s+nodes t) s t=true
def rbI(c:Int):Int:=if c=2 then 3 else if c=3 then 2 else c
open Classical in
open Classical in
def look:List (Xb×T)->Xb->Option T
 | [],_=>none
 |p::u,n=>if p.1=n then some p.2 else look u n
def jo1(u:List (Xb×T))(n:Xb):T:=(look u n).getD (.mk n [])
mutual
def sub(u:List (Xb×T)):T->T
 |.mk n us=>if jA n then jo1 u n else .mk n (jmi u us)
def jmi(u:List (Xb×T)):Xg->Xg
 | []=>[]
 |t::ts=>sub u t::jmi u ts
end
theorem jhK(u:List (Xb×T)):∀ts:Xg,jmi u ts=ts.map (sub u)
 | []=>rfl
 |t::ts=>by rw[jmi,jhK u ts,List.map_cons]
theorem jqC{u:List (Xb×T)}{t:T}(h:jA t.name=true):sub u t=jo1 u t.name:=by
 obtain⟨n,us⟩:=t;have h:jA n=true:=h;show(if jA n then jo1 u n else T.mk n (jmi u us))=_;rw[if_pos h];rfl
theorem jbG{u:List (Xb×T)}{t:T}(h:jA t.name=false):sub u t = .mk t.name (t.args.map (sub u)):=by
 obtain⟨n,us⟩:=t;have h:jA n=false:=h;show(if jA n then jo1 u n else T.mk n (jmi u us))=_;rw[h,if_neg Bool.false_ne_true,jhK];rfl
theorem jc7{u:List (Xb×T)}{t:T}(h:jA t.name=false):(sub u t).name=t.name:=by rw[jbG h];rfl
theorem jhL{u:List (Xb×T)}{t:T}(h:jA t.name=false):(sub u t).args=t.args.map (sub u):=by rw[jbG h];rfl
theorem jdg{t:T}(h:yH t=true)(hv:jA t.name=true):t.args=[]:=by
 rw[qN,hv,if_pos rfl]at h;exact List.isEmpty_iff.1 h
def jwF(f:Xb->Int):Xa->Int
 | []=>0
 |x::l=>f x+jwF f l
abbrev bc(p:Xb×T):Xd:=[sv p.1,sv p.2.name,.sl 2 (p.2.args.map jq)]
abbrev sbs(u:List (Xb×T)):A:= .sl 3 (u.map bc)
abbrev sb(u:List (Xb×T)):A:= .agg [sbs u]
def Sz(z:Nat)(u:List (Xb×T)):Prop:=u.length<=z/\ ∀p∈u,p.1.length<=z/\tsz p.2<=z
abbrev jy:=List (Xb×T)
mutual
noncomputable def mt(m:jy)(p:T)(t:T):Option jy:=
 match p with
 |.mk n us=>if jA n then(match look m n with|some r=>if dq r t then some m else none|none=>some (m++[(n,t)]))
   else if n=t.name/\us.length=t.args.length then y9 m us t.args else none
termination_by structural p
noncomputable def y9(m:jy)(ps:Xg)(ts:Xg):Option jy:=
 match ps with
 | []=>some m
 |u::us=>(match ts with| []=>some m|t::ts=>(mt m u t).bind λm'=>y9 m' us ts)
termination_by structural ps
end
theorem Kn{m:jy}{p t:T}(h:jA p.name=true):mt m p t=(match look m p.name with|some r=>if dq r t then some m else none|none=>some (m++[(p.name,t)])):=by
 obtain⟨n,us⟩:=p;have h:jA n=true:=h;simp only[mt,h,if_true,T.name]
theorem Ju{m:jy}{p t:T}(h:jA p.name=false):mt m p t=if p.name=t.name/\p.args.length=t.args.length then y9 m p.args t.args else none:=by
 obtain⟨n,us⟩:=p;have h:jA n=false:=h;simp only[mt,h,Bool.false_eq_true,if_false];rfl
theorem jaU:∀(u v:jy)(n:Xb),look (u++v) n=(match look u n with|some r=>some r|none=>look v n)
 | [],v,n=>rfl
 |p::u,v,n=>by
  rw[List.cons_append,look,look];by_cases h:p.1=n
  .rw [if_pos h,if_pos h]
  .rw [if_neg h,if_neg h];exact jaU u v n
theorem JV{u:jy}{n:Xb} :look u n=none↔ ∀p∈u,p.1≠n:=by
 induction u with
 |nil=>simp[look]
 |cons p u ih=>
  rw[look];by_cases h:p.1=n
  .rw [if_pos h];simp[h]
  .rw [if_neg h,ih];simp[h]
theorem Kl:∀{u:jy}{n:Xb}{r:T},look u n=some r->(n,r)∈u
 |p::u,n,r,h=>by
  rw[look]at h;by_cases e:p.1=n
  .rw [if_pos e]at h;cases h;rw[<-e];simp
  .rw [if_neg e]at h;exact List.mem_cons_of_mem _ (Kl h)
def MOk(p:T->Prop)(m:jy):Prop:=(m.map Prod.fst).Nodup/\(∀q∈m,jA q.1=true/\p q.2)
theorem MOk.nil(p:T->Prop):MOk p []:=⟨by simp,λq h=>by cases h⟩
theorem MOk.push{p:T->Prop}{m:jy}(h:MOk p m){n:Xb}{t:T}(hn:jA n=true)(ht:p t)(hl:look m n=none):MOk p (m++[(n,t)]):=by
 refine⟨?_,λq hq=>?_⟩
 .rw [List.map_append,List.nodup_append];refine⟨h.1,by simp,λa ha b hb=>?_⟩;simp only[List.map_cons,List.map_nil,List.mem_singleton]at hb;subst hb;obtain⟨q,hq,rfl⟩:=List.mem_map.1 ha;exact JV.1 hl q hq
 .rcases List.mem_append.1 hq with hq|hq
  .exact h.2 q hq
  .simp only[List.mem_singleton]at hq;subst hq;exact⟨hn,ht⟩
theorem jg7{p:T->Prop}(hp:∀t,p t-> ∀u∈t.args,p u):∀(a:T){m m':jy}{t:T},MOk p m->p t->mt m a t=some m'->MOk p m':=by
 refine T.ind (p:=λa=>∀{m m':jy}{t:T},MOk p m->p t->mt m a t=some m'->MOk p m') λa ih=>?_;intro m m' t hm ht h;cases hv:jA a.name with
 |true=>
  rw[Kn hv]at h;split at h
  .split at h
   .cases h;exact hm
   .cases h
  .rename_i hl;cases h;exact hm.push hv ht hl
 |false=>
  rw[Ju hv]at h;split at h
  .have key:∀(us:Xg)(ts:Xg){m m':jy},(∀u∈us,u∈a.args)->(∀u∈ts,p u)->MOk p m->y9 m us ts=some m'->MOk p m':=by
    intro us;induction us with
    |nil=>intro ts m m' _ _ hm h;simp only[y9,Option.some.injEq]at h;exact h ▸ hm
    |cons u us ih2=>
     intro ts m m' hu hts hm h;cases ts with
     |nil=>simp only[y9,Option.some.injEq]at h;exact h ▸ hm
     |cons s ts=>
      simp only[y9]at h;obtain⟨m1,h1,h2⟩:=Option.bind_eq_some_iff.1 h;exact ih2 ts (λx hx=>hu x (by simp[hx])) (λx hx=>hts x (by simp[hx])) (ih u (hu u (by simp)) hm (hts s (by simp)) h1) h2
   exact key a.args t.args (λ_ h=>h) (hp t ht) hm h
  .cases h
def jwx(s:jy)(n:Xb)(t:T):jy:=s.takeWhile (λp=>Jz p.1 n)++(n,t)::s.dropWhile (λp=>Jz p.1 n)
def jww(s:jy)(n:Xb)(t:T):jy:=if t.name=n then s else jwx s n t
def jiX(m:jy):jy:=m.foldl (λs p=>jww s p.1 p.2) []
theorem jkM(a:Xb):Jz a a=false:=by
 unfold Jz;cases h:Op.bytesLess a a with
 |false=>rfl
 |true=>
  exfalso;induction a with
  |nil=>simp[Op.bytesLess]at h
  |cons c r ih=>simp[Op.bytesLess]at h;exact ih h
theorem jod(n:Xb)(h:jA n=true):yH (.mk n [])=true:=by rw[qN];show(if jA n then _ else _)=true;rw[if_pos h];rfl
theorem jas{u:jy}(hu:∀q∈u,yH q.2=true):∀t:T,yH t=true->yH (sub u t)=true:=by
 refine T.ind λt ih hk=>?_;cases hv:jA t.name with
 |true=>
  rw[jqC hv,jo1];cases h:look u t.name with
  |none=>exact jod _ hv
  |some r=>exact hu _ (Kl h)
 |false=>
  have hk':=hk;rw[qN,hv,if_neg Bool.false_ne_true,Bool.and_eq_true,Bool.and_eq_true,JX]at hk;rw[qN,jc7 hv,hv,if_neg Bool.false_ne_true,jhL hv,Bool.and_eq_true,Bool.and_eq_true,JX];refine⟨hk.1,by simpa using hk.2.1,?_⟩;rw[List.all_map,List.all_eq_true];intro a ha;exact ih a ha (List.all_eq_true.1 hk.2.2 a ha)
def Kk(r:T):T:=r.args.getD 0 (.mk [] [])
def Kw(r:T):T:=r.args.getD 1 (.mk [] [])
noncomputable def joO:Xg->T->Option T
 | [],_=>none
 |r::rs,t=>(match mt [] (Kk r) t with|some m=>some (sub m (Kw r))|none=>joO rs t)
mutual
noncomputable def jur(rs:Xg)(root:Bool):T->Option T
 |.mk n us=>(match jrE rs us with|some us'=>some (.mk n us')|none=>if root then joO rs (.mk n us)else none)
noncomputable def jrE(rs:Xg):Xg->Option Xg
 | []=>none
 |t::ts=>(match jur rs true t with|some t'=>some (t'::ts)|none=>(jrE rs ts).map (t::·))
end
def atT:Xf->T->T
 | [],t=>t
 |i::p,t=>atT p (t.args.getD i (.mk [] []))
def jrU(s:T):Xf->T->T
 | [],_=>s
 |i::p,t=>.mk t.name (t.args.set i (jrU s p (t.args.getD i (.mk [] []))))
mutual
def jhn:T->List Xf
 |.mk _ us=>jcL 0 us++[[]]
def jcL(i:Nat):Xg->List Xf
 | []=>[]
 |t::ts=>(jhn t).map (i::·)++jcL (i+1) ts
end
noncomputable def jwD(rs:Xg)(root:Bool)(t:T)(p:Xf):Option T:=if p=[]/\root=false then none else(joO rs (atT p t)).map λs=>jrU s p t
def jpq(rs:Xg):Prop:=∀r∈rs,yH (Kk r)=true/\yH (Kw r)=true
noncomputable def rwN(rs:Xg)(root:Bool):Nat->Nat->T->Option (T×Nat)
 |0,_,_=>none
 |k+1,n,t=>(match jur rs root t with
  |none=>some (t,n)
  |some u=>if k=0\/kO u=false then none else rwN rs root k (n+1) u)
theorem jah:pNo (vb false)=some ():=rfl
theorem juI:slL [259] [[]]=[.sl 259 []]:=rfl
theorem juv{n:Nat}(h:n<=4194304):zo n 56=true:=by
 unfold zo;exact decide_eq_true ⟨by omega,by omega⟩
theorem jfo{p:T->Prop}(hp:∀t,p t-> ∀u∈t.args,p u):∀(a:T){m m':jy}{t:T},(∀q∈m,p q.2)->p t->mt m a t=some m'->(∀q∈m',p q.2)/\m'.length<=m.length+nodes a:=by
 refine T.ind (p:=λa=>∀{m m':jy}{t:T},(∀q∈m,p q.2)->p t->mt m a t=some m'->(∀q∈m',p q.2)/\m'.length<=m.length+nodes a) λa ih=>?_;intro m m' t hm ht h;have hn:=j6 a;cases hv:jA a.name with
 |true=>
  rw[Kn hv]at h;split at h
  .split at h
   .cases h;exact⟨hm,by omega⟩
   .cases h
  .cases h;refine⟨λq hq=>?_,by rw[List.length_append,List.length_singleton];omega⟩;rcases List.mem_append.1 hq with hq|hq
   .exact hm q hq
   .simp only[List.mem_singleton]at hq;subst hq;exact ht
 |false=>
  rw[Ju hv]at h;split at h
  .have key:∀(us:Xg)(ts:Xg){m m':jy},(∀u∈us,u∈a.args)->(∀u∈ts,p u)->(∀q∈m,p q.2)->y9 m us ts=some m'->(∀q∈m',p q.2)/\m'.length<=m.length+jE us:=by
    intro us;induction us with
    |nil=>intro ts m m' _ _ hm h;simp only[y9,Option.some.injEq]at h;exact h ▸ ⟨hm,by omega⟩
    |cons u us ih2=>
     intro ts m m' hu hts hm h;have e:jE (u::us)=nodes u+jE us:=rfl;cases ts with
     |nil=>simp only[y9,Option.some.injEq]at h;exact h ▸ ⟨hm,by omega⟩
     |cons s ts=>
      simp only[y9]at h;obtain⟨m1,h1,h2⟩:=Option.bind_eq_some_iff.1 h;obtain⟨i1,i2⟩:=ih u (hu u (by simp)) hm (hts s (by simp)) h1;obtain⟨j1,j2⟩:=ih2 ts (λx hx=>hu x (by simp[hx])) (λx hx=>hts x (by simp[hx])) i1 h2;exact⟨j1,by omega⟩
   obtain⟨i1,i2⟩:=key a.args t.args (λ_ h=>h) (hp t ht) hm h;exact⟨i1,by omega⟩
  .cases h
def MR(o:Xe)(r:Option jy):Prop:=match r with
 |some m'=>o=some (.top,[vb true,.sl 259 (m'.map bc)])
 |none=>∃R,o=some (.top,[vb false,.sl 259 R])
theorem joB{m:jy}{i:Nat}(hi:i<m.length):jhi (m.map bc) i 0=some (sv m[i].1):=by unfold jhi;simp[hi]
theorem joA{m:jy}{i:Nat}(hi:i<m.length):jhh (m.map bc) i 1 2=some (tm m[i].2):=by unfold jhh;simp[hi]
def Tz(t:T):Prop:=tsz t<=1048576
theorem Tz.args{t:T}(h:Tz t):∀u∈t.args,Tz u:=λu hu=>by
 have:=yS hu;unfold Tz at h⊢;rw[kC]at h;omega
theorem Tz.wf{t:T}(h:Tz t):KC t:=js3 t h
theorem jlq(n:Xb)(x:A)(t:T)(ht:Tz t)(m:jy)(hm:∀q∈m,Tz q.2)(hl:m.length<=4000000)(hx:kJ x=true):MR (KZ (vi 0) (sv n) x (sv t.name) (jW t.args) (m.map bc)) (match look m n with|some r=>if dq r t then some m else none|none=>some (m++[(n,t)])):=by
 have key:=upto (P:=λi=>MR (KZ (vi i) (sv n) x (sv t.name) (jW t.args) (m.map bc)) (match look (m.drop i) n with|some r=>if dq r t then some m else none|none=>some (m++[(n,t)]))) (n:=m.length) ?_ ?_ 0 (Nat.zero_le _)
 .exact key
 .rw [List.drop_length,jgP];have hf:=juv (n:=m.length+1) (by omega);show _=_;simp only[jo,hf];rw[List.map_append];rfl
 .intro i hi ih;have hlt:(i:Int)<((m.length:Nat):Int):=by omega
  have h5:=js hi (by show m.length<=9223372036854775807;omega)
  have x1:pIx m.length (vi ((i:Nat):Int))=some i:=YD hi;have x2:=joB hi;have x3:=joA hi;have e1:=jac m[i].2 (hm _ (List.getElem_mem hi)).wf t ht.wf;rw[jgP,jr hi,look];by_cases he:m[i].1=n
  .rw [if_pos he];show MR _ (if dq m[i].2 t=true then some m else none);cases hd:dq m[i].2 t<;>rw[hd]at e1
   .rw [if_neg Bool.false_ne_true];refine⟨m.map bc,?_⟩;simp only[jo,hlt,x1,x2,x3,he,e1]
   .rw [if_pos rfl];show _=_;simp only[jo,hlt,x1,x2,x3,he,e1]
  .rw [if_neg he];simp only[jo,hlt,x1,x2,x3,he,h5];exact ih
theorem jiG(a t:T)(ht:Tz t)(ha:Tz a)(hl:a.args.length=t.args.length)(m:jy)(hm:∀q∈m,Tz q.2)(hk:m.length+jE a.args<=4000000)
  (ih:∀u∈a.args,∀(s:T)(m:jy),Tz s->(∀q∈m,Tz q.2)->m.length+nodes u<=4000000->MR (Yf (tm u) (tm s) (m.map bc)) (mt m u s)) :
  MR (YN (vi 0) (sv a.name) (jW a.args) (sv t.name) (jW t.args) (m.map bc)) (y9 m a.args t.args):=by
 have ha':=ha;unfold Tz at ha;rw[kC]at ha;have nd:∀i,i<a.args.length->jE (a.args.drop i)=jE a.args->True:=λ_ _ _=>trivial;have key2:=upto (P:=λi=>∀m:jy,(∀q∈m,Tz q.2)->m.length+jE (a.args.drop i)<=4000000->MR (YO (vi i) (sv a.name) (jW a.args) (sv t.name) (jW t.args) (m.map bc)) (y9 m (a.args.drop i) (t.args.drop i))) (n:=a.args.length) ?_ ?_;rotate_left
 .intro m hm hk;rw[List.drop_length,jcr];simp only[y9];show _=_;simp only[jo]
 .intro i hi ih2 m hm hk;have hi':i<t.args.length:=by omega
  have hlt:(i:Int)<((a.args.length:Nat):Int):=by omega
  have h5:=js hi (by show a.args.length<=9223372036854775807;omega)
  have e:jE (a.args.drop i)=nodes a.args[i]+jE (a.args.drop (i+1)):=by rw[jr hi];rfl
  have q:=ih a.args[i] (List.getElem_mem _) t.args[i] m (ht.args _ (List.getElem_mem _)) hm (by omega);rw[jr hi,jr hi',jcr];simp only[y9];cases hq:mt m a.args[i] t.args[i]with
  |none=>
   rw[hq]at q;obtain⟨R,q⟩:=q;refine⟨[],?_⟩;simp only[jo,hlt,jb hi,jb hi',jp,q,List.getElem?_cons_zero,jah,juI]
  |some m1=>
   rw[hq]at q;have q:Yf (tm a.args[i]) (tm t.args[i]) (m.map bc)=some (.top,[vb true,.sl 259 (m1.map bc)]):=q;obtain⟨i1,i2⟩:=jfo (p:=Tz) (λ_ h=>h.args) _ hm (ht.args _ (List.getElem_mem hi')) hq;simp only[jo,hlt,jb hi,jb hi',jp,q,List.getElem?_cons_zero,h5];exact ih2 m1 i1 (by omega)
 have e1:∀(m:jy)(i:Nat),YN (vi i) (sv a.name) (jW a.args) (sv t.name) (jW t.args) (m.map bc)=YO (vi i) (sv a.name) (jW a.args) (sv t.name) (jW t.args) (m.map bc):=λm i=>by
  rw[jnP,jcr]
 have:=key2 0 (Nat.zero_le _) m hm hk;rw[<-e1]at this;exact this
theorem jiF:∀(a:T),Tz a-> ∀(t:T)(m:jy),Tz t->(∀q∈m,Tz q.2)->m.length+nodes a<=4000000->MR (Yf (tm a) (tm t) (m.map bc)) (mt m a t):=by
 refine T.ind λa ih ha t m ht hm hk=>?_;have hn:=j6 a;have e1:=Zf a.name (((kS a).1 ha.wf).1);have hal:a.args.length<=1048576:=by unfold Tz at ha;rw[kC]at ha;omega
 rw[jsa];cases hv:jA a.name<;>rw[hv]at e1
 .rw [Ju hv];by_cases he:a.name=t.name/\a.args.length=t.args.length
  .rw [if_pos he];have hl:((a.args.length:Nat):Int)=((t.args.length:Nat):Int):=by omega
   have:=jiG a t ht ha he.2 m hm (by omega) λu hu s m hs hm hk=>ih u hu (ha.args u hu) s m hs hm hk;rw[he.1]at e1 this;simp only[jo,he.1,e1,hl];exact this
  .rw [if_neg he];refine⟨m.map bc,?_⟩;by_cases h1:a.name=t.name
   .have hl:¬((a.args.length:Nat):Int)=((t.args.length:Nat):Int):=λh=>he ⟨h1,by omega⟩;rw[h1]at e1;simp only[jo,e1,h1,hl]
   .simp only[jo,e1,h1]
 .rw [Kn hv];have:=jlq a.name (jW a.args) t ht m hm (by omega) (joc _ _);simp only[jo,e1];exact this
abbrev kv(p:Xb×T):Xd:=[sv p.1,tm p.2]
theorem jsj(a b:Xb):eqK none (sv a) (sv b)=some (decide (a=b)):=by show some (decide (bs _=bs _))=_;refine congrArg some (decide_eq_decide.2 ?_);simp
theorem Km(n:Xb):∀(m:jy)(k:Nat),qi none (sv n) (m.map kv) k=some (match look m n with|some _=>(match m.findIdx? (λp=>decide (p.1=n))with|some j=>some (k+j,tm ((look m n).getD (.mk [] [])))|none=>none)|none=>none)
 | [],k=>rfl
 |p::m,k=>by
  rw[List.map_cons,look,qi,jsj];by_cases h:p.1=n
  .rw [if_pos h,decide_eq_true h.symm,List.findIdx?_cons,if_pos (decide_eq_true h)];rfl
  .rw [if_neg h,decide_eq_false (λe=>h e.symm),List.findIdx?_cons,if_neg (by simp[h])];show qi none (sv n) (m.map kv) (k+1)=_;rw[Km n m (k+1)];cases look m n with
   |none=>rfl
   |some r=>
    cases m.findIdx? (λp=>decide (p.1=n))with
    |none=>rfl
    |some j=>show some (some (k+1+j,_))=some (some (k+(j+1),_));rw[show k+1+j=k+(j+1) by omega]
theorem jcz{n:Xb} :∀{m:jy}{r:T},look m n=some r-> ∃j,m.findIdx? (λp=>decide (p.1=n))=some j/\m.set j (n,r)=m
 |p::m,r,h=>by
  rw[look]at h;rw[List.findIdx?_cons];by_cases e:p.1=n
  .rw [if_pos e]at h;rw[if_pos (decide_eq_true e)];cases h;exact⟨0,rfl,by rw[<-e];rfl⟩
  .rw [if_neg e]at h;rw[if_neg (by simp[e])];obtain⟨j,h1,h2⟩:=jcz h;exact⟨j+1,by rw[h1];rfl,by rw[List.set_cons_succ,h2]⟩
theorem jhg(z:Xd)(m:jy)(n:Xb):Zl none true false z (.mp (m.map kv)) (sv n)=some (match look m n with|some r=>.tup [tm r,vb true]|none=>.tup [.agg z,vb false]):=by
 show((some (m.map kv)).bind λxs=>(qi none (sv n) xs 0).map (jn2 true false z))=_;rw[Option.bind_some,Km];cases h:look m n with
 |none=>rfl
 |some r=>
  obtain⟨j,h1,_⟩:=jcz h;show(some (match m.findIdx? _ with|some j=>some (0+j,tm r)|none=>none)).map _=_;rw[h1];rfl
theorem jai{m:jy}{n:Xb}(h:look m n=none)(t:T):jfx none (m.map kv) (sv n) (tm t)=some ((m++[(n,t)]).map kv):=by
 show(qi none (sv n) (m.map kv) 0).map _=_;rw[Km,h,List.map_append];rfl
theorem jd8{m:jy}{n:Xb}{r:T}(h:look m n=some r)(a:A):∃R,jfx none (m.map kv) (sv n) a=some R/\(a=tm r->R=m.map kv):=by
 obtain⟨j,h1,h2⟩:=jcz h;refine⟨(m.map kv).set j [sv n,a],?_,λe=>?_⟩
 .show (qi none (sv n) (m.map kv) 0).map _=_;rw[Km,h];show(some (match m.findIdx? _ with|some j=>some (0+j,tm r)|none=>none)).map _=_;rw[h1];show some ((m.map kv).set (0+j) [sv n,a])=_;rw[Nat.zero_add]
 .rw [e];have:([sv n,tm r]:Xd)=kv (n,r):=rfl;rw[this,<-List.map_set,h2]
def MI(o:Xe)(r:Option jy):Prop:=match r with
 |some m'=>o=some (.top,[vb true,.sl 128 (m'.map kv)])
 |none=>∃R,o=some (.top,[vb false,.sl 128 R])
theorem jli(a t:T)(ht:Tz t)(ha:Tz a)(hl:a.args.length=t.args.length)(m:jy)(hm:∀q∈m,Tz q.2)
  (ih:∀u∈a.args,∀(s:T)(m:jy),Tz s->(∀q∈m,Tz q.2)->MI (KY (sv u.name) (jW u.args) (tm s) (m.map kv)) (mt m u s)) :
  MI (YT (jW a.args) (vi (a.args.length:Nat)) (vi 0) (sv t.name) (jW t.args) (m.map kv)) (y9 m a.args t.args):=by
 have ha':=ha;unfold Tz at ha;rw[kC]at ha;have key2:=upto (P:=λi=>∀m:jy,(∀q∈m,Tz q.2)->MI (YT (jW a.args) (vi (a.args.length:Nat)) (vi i) (sv t.name) (jW t.args) (m.map kv)) (y9 m (a.args.drop i) (t.args.drop i))) (n:=a.args.length) ?_ ?_;rotate_left
 .intro m hm;rw[List.drop_length,jkv];simp only[y9];show _=_;simp only[jo]
 .intro i hi ih2 m hm;have hi':i<t.args.length:=by omega
  have hlt:(i:Int)<((a.args.length:Nat):Int):=by omega
  have h5:=js hi (by show a.args.length<=9223372036854775807;omega)
  have q:=ih a.args[i] (List.getElem_mem _) t.args[i] m (ht.args _ (List.getElem_mem _)) hm;rw[jr hi,jr hi',jkv];simp only[y9];cases hq:mt m a.args[i] t.args[i]with
  |none=>
   rw[hq]at q;obtain⟨R,q⟩:=q;refine⟨R,?_⟩;simp only[jo,hlt,jb hi,jb hi',jp,q,List.getElem?_cons_zero]
  |some m1=>
   rw[hq]at q;have q:KY (sv a.args[i].name) (jW a.args[i].args) (tm t.args[i]) (m.map kv)=some (.top,[vb true,.sl 128 (m1.map kv)]):=q;obtain⟨i1,i2⟩:=jfo (p:=Tz) (λ_ h=>h.args) _ hm (ht.args _ (List.getElem_mem hi')) hq;simp only[jo,hlt,jb hi,jb hi',jp,q,List.getElem?_cons_zero,h5];exact ih2 m1 i1
 exact key2 0 (Nat.zero_le _) m hm
theorem jlh(a t:T)(ht:Tz t)(ha:Tz a)(hl:a.args.length=t.args.length)(m:jy)(hm:∀q∈m,Tz q.2)
  (ih:∀u∈a.args,∀(s:T)(m:jy),Tz s->(∀q∈m,Tz q.2)->MI (KY (sv u.name) (jW u.args) (tm s) (m.map kv)) (mt m u s)) :
  MI (YS (jW a.args) (vi (a.args.length:Nat)) (vi 0) (sv t.name) (jW t.args) (m.map kv)) (y9 m a.args t.args):=by
 have ha':=ha;unfold Tz at ha;rw[kC]at ha;have key2:=upto (P:=λi=>∀m:jy,(∀q∈m,Tz q.2)->MI (YS (jW a.args) (vi (a.args.length:Nat)) (vi i) (sv t.name) (jW t.args) (m.map kv)) (y9 m (a.args.drop i) (t.args.drop i))) (n:=a.args.length) ?_ ?_;rotate_left
 .intro m hm;rw[List.drop_length,jku];simp only[y9];show _=_;simp only[jo]
 .intro i hi ih2 m hm;have hi':i<t.args.length:=by omega
  have hlt:(i:Int)<((a.args.length:Nat):Int):=by omega
  have h5:=js hi (by show a.args.length<=9223372036854775807;omega)
  have q:=ih a.args[i] (List.getElem_mem _) t.args[i] m (ht.args _ (List.getElem_mem _)) hm;rw[jr hi,jr hi',jku];simp only[y9];cases hq:mt m a.args[i] t.args[i]with
  |none=>
   rw[hq]at q;obtain⟨R,q⟩:=q;refine⟨R,?_⟩;simp only[jo,hlt,jb hi,jb hi',jp,q,List.getElem?_cons_zero]
  |some m1=>
   rw[hq]at q;have q:KY (sv a.args[i].name) (jW a.args[i].args) (tm t.args[i]) (m.map kv)=some (.top,[vb true,.sl 128 (m1.map kv)]):=q;obtain⟨i1,i2⟩:=jfo (p:=Tz) (λ_ h=>h.args) _ hm (ht.args _ (List.getElem_mem hi')) hq;simp only[jo,hlt,jb hi,jb hi',jp,q,List.getElem?_cons_zero,h5];exact ih2 m1 i1
 exact key2 0 (Nat.zero_le _) m hm
theorem jnD(a:T)(ha:Tz a)(hk:yH a=true)(t:T)(m:jy)(ht:Tz t)(hm:∀q∈m,Tz q.2)
  (ih:∀u∈a.args,∀(s:T)(m:jy),Tz s->(∀q∈m,Tz q.2)->MI (KY (sv u.name) (jW u.args) (tm s) (m.map kv)) (mt m u s)) :
  MI (KY (sv a.name) (jW a.args) (tm t) (m.map kv)) (mt m a t):=by
 have e1:G 109 [.agg [sv a.name,jW a.args]]=some (vb (jA a.name),[]):=jcn a hk;have hal:a.args.length<=1048576:=by unfold Tz at ha;rw[kC]at ha;omega
 rw[jtV];cases hv:jA a.name<;>rw[hv]at e1
 .rw [Ju hv];have pk:(if((a.args.length:Nat):Int)=0 then G 109 [.agg [sv a.name,jW a.args]]else some (vb false,[]))=some (vb false,[]):=by split<;>first|exact e1|rfl
  by_cases he:a.name=t.name/\a.args.length=t.args.length
  .rw [if_pos he];have hl:((a.args.length:Nat):Int)=((t.args.length:Nat):Int):=by omega
   have:=jli a t ht ha he.2 m hm ih;by_cases h0:((a.args.length:Nat):Int)=0
   .have h0':((t.args.length:Nat):Int)=0:=by omega
    rw[he.1]at e1;rw[he.2,h0']at this;simp only[jo,he.1,h0',e1,hl];exact this
   .have h0':¬((t.args.length:Nat):Int)=0:=by omega
    rw[he.1]at e1;rw[he.2]at this;simp only[jo,he.1,h0',hl];exact this
  .rw [if_neg he];refine⟨m.map kv,?_⟩;by_cases h1:a.name=t.name
   .have hl:¬((a.args.length:Nat):Int)=((t.args.length:Nat):Int):=λh=>he ⟨h1,by omega⟩;rw[h1]at e1;by_cases h0:((a.args.length:Nat):Int)=0
    .have hl0:¬(0:Int)=((t.args.length:Nat):Int):=by omega
     simp only[jo,e1,h1,h0,hl0]
    .simp only[jo,h1,h0,hl]
   .by_cases h0:((a.args.length:Nat):Int)=0
    .simp only[jo,e1,h1,h0]
    .simp only[jo,h1,h0]
 .rw [Kn hv];have h0:a.args=[]:=jdg hk hv;rw[h0]at e1;have hz:(((0:Nat):Int)=0)=True:=by simp
  have lk:=jhg [sv [],.sl 2 []] m a.name;cases hl:look m a.name with
  |none=>
   rw[hl]at lk;have lk:Zl none true false [sv [],.sl 2 []] (.mp (m.map kv)) (sv a.name)=some (.tup [.agg [sv [],.sl 2 []],vb false]):=lk;have pp:=jai hl t;show _=_;rw[h0];simp only[jo,e1,hz,lk,pp,List.map_nil]
  |some r=>
   rw[hl]at lk;have lk:Zl none true false [sv [],.sl 2 []] (.mp (m.map kv)) (sv a.name)=some (.tup [tm r,vb true]):=lk;obtain⟨R,pp,hR⟩:=jd8 hl (tm t);have e2:=yO r (hm _ (Kl hl)).wf t ht.wf;show MI _ (if dq r t=true then some m else none);rw[h0];cases hd:dq r t<;>rw[hd]at e2
   .rw [if_neg Bool.false_ne_true];refine⟨R,?_⟩;simp only[jo,e1,hz,lk,pp,e2,List.map_nil]
   .rw [if_pos rfl];have hr:R=m.map kv:=hR (by rw[Jd.1 hd]);rw[hr]at pp;show _=_;simp only[jo,e1,hz,lk,pp,e2,List.map_nil]
theorem jlg(a:T)(ha:Tz a)(e1:G 109 [.agg [sv a.name,jW a.args]]=some (vb (jA a.name),[]))(hva:jA a.name=true->a.args=[])(t:T)(m:jy)(ht:Tz t)(hm:∀q∈m,Tz q.2)
  (ih:∀u∈a.args,∀(s:T)(m:jy),Tz s->(∀q∈m,Tz q.2)->MI (KY (sv u.name) (jW u.args) (tm s) (m.map kv)) (mt m u s)) :
  MI (jfU (tm a) (sv t.name) (jW t.args) (m.map kv)) (mt m a t):=by
 have hal:a.args.length<=1048576:=by unfold Tz at ha;rw[kC]at ha;omega
 rw[jtU];cases hv:jA a.name<;>rw[hv]at e1
 .rw [Ju hv];have pk:(if((a.args.length:Nat):Int)=0 then G 109 [.agg [sv a.name,jW a.args]]else some (vb false,[]))=some (vb false,[]):=by split<;>first|exact e1|rfl
  by_cases he:a.name=t.name/\a.args.length=t.args.length
  .rw [if_pos he];have hl:((a.args.length:Nat):Int)=((t.args.length:Nat):Int):=by omega
   have:=jlh a t ht ha he.2 m hm ih;by_cases h0:((a.args.length:Nat):Int)=0
   .have h0':((t.args.length:Nat):Int)=0:=by omega
    rw[he.1]at e1;rw[he.2,h0']at this;simp only[jo,he.1,h0',e1,hl];exact this
   .have h0':¬((t.args.length:Nat):Int)=0:=by omega
    rw[he.1]at e1;rw[he.2]at this;simp only[jo,he.1,h0',hl];exact this
  .rw [if_neg he];refine⟨m.map kv,?_⟩;by_cases h1:a.name=t.name
   .have hl:¬((a.args.length:Nat):Int)=((t.args.length:Nat):Int):=λh=>he ⟨h1,by omega⟩;rw[h1]at e1;by_cases h0:((a.args.length:Nat):Int)=0
    .have hl0:¬(0:Int)=((t.args.length:Nat):Int):=by omega
     simp only[jo,e1,h1,h0,hl0]
    .simp only[jo,h1,h0,hl]
   .by_cases h0:((a.args.length:Nat):Int)=0
    .simp only[jo,e1,h1,h0]
    .simp only[jo,h1,h0]
 .rw [Kn hv];have h0:a.args=[]:=hva hv;rw[h0]at e1;have hz:(((0:Nat):Int)=0)=True:=by simp
  have hta:tm a = .agg [sv a.name,jW []]:=by show A.agg [_,A.sl 2 (a.args.map jq)]=_;rw[h0]
  have lk:=jhg [sv [],.sl 2 []] m a.name;cases hl:look m a.name with
  |none=>
   rw[hl]at lk;have lk:Zl none true false [sv [],.sl 2 []] (.mp (m.map kv)) (sv a.name)=some (.tup [.agg [sv [],.sl 2 []],vb false]):=lk;have pp:=jai hl t;show _=_;rw[hta];simp only[jo,e1,hz,lk,pp,List.map_nil]
  |some r=>
   rw[hl]at lk;have lk:Zl none true false [sv [],.sl 2 []] (.mp (m.map kv)) (sv a.name)=some (.tup [tm r,vb true]):=lk;obtain⟨R,pp,hR⟩:=jd8 hl (tm t);have e2:=yO r (hm _ (Kl hl)).wf t ht.wf;show MI _ (if dq r t=true then some m else none);rw[hta];cases hd:dq r t<;>rw[hd]at e2
   .rw [if_neg Bool.false_ne_true];refine⟨R,?_⟩;simp only[jo,e1,hz,lk,pp,e2,List.map_nil]
   .rw [if_pos rfl];have hr:R=m.map kv:=hR (by rw[Jd.1 hd]);rw[hr]at pp;show _=_;simp only[jo,e1,hz,lk,pp,e2,List.map_nil]
theorem jn7:∀(a:T),Tz a->yH a=true-> ∀(t:T)(m:jy),Tz t->(∀q∈m,Tz q.2)->MI (KY (sv a.name) (jW a.args) (tm t) (m.map kv)) (mt m a t):=by
 refine T.ind λa ih ha hk t m ht hm=>?_;exact jnD a ha hk t m ht hm λu hu s m hs hm=>ih u hu (ha.args u hu) (qM hk u hu) s m hs hm
abbrev pln(p:Xf):A:= .sl 1 (p.map λn=>[vi (n:Nat)])
abbrev plc(p:Xf):Xd:=[pln p]
mutual
theorem jlV:∀t:T,(jhn t).length=nodes t
 |.mk n us=>by
  rw[jhn,nodes,List.length_append,jec us 0];simp;omega
theorem jec:∀(us:Xg)(i:Nat),(jcL i us).length=jE us
 | [],i=>rfl
 |t::ts,i=>by
  rw[jcL,jE,List.length_append,List.length_map,jlV t,jec ts (i+1)]
end
def okP:Xf->T->Prop
 | [],_=>True
 |i::p,t=>i<t.args.length/\okP p (t.args.getD i (.mk [] []))
theorem jka{ts:Xg}{i:Nat}(h:i<ts.length):ts.getD i (.mk [] [])=ts[i]:=by rw[List.getD_eq_getElem?_getD,List.getElem?_eq_getElem h];rfl
mutual
theorem joE:∀(t:T),∀p∈jhn t,okP p t/\p.length<=nodes t
 |.mk n us=>λp hp=>by
  rw[jhn,List.mem_append]at hp;rcases hp with hp|hp
  .obtain ⟨j,q,rfl,h1,h2,h3⟩:=jhm us 0 p hp;refine⟨?_,?_⟩
   .show (0+j)<us.length/\okP q (us.getD (0+j) _);rw[Nat.zero_add];exact⟨h1,h2⟩
   .rw [List.length_cons,nodes];omega
  .rw [List.mem_singleton]at hp;subst hp;exact⟨trivial,by simp⟩
theorem jhm:∀(us:Xg)(i:Nat),∀p∈jcL i us,∃j q,p=(i+j)::q/\j<us.length/\okP q (us.getD j (.mk [] []))/\q.length<=jE us
 | [],i,p,hp=>by rw[jcL]at hp;cases hp
 |t::ts,i,p,hp=>by
  rw[jcL,List.mem_append]at hp;rcases hp with hp|hp
  .obtain ⟨q,hq,rfl⟩:=List.mem_map.1 hp;obtain⟨h1,h2⟩:=joE t q hq;exact⟨0,q,rfl,by simp,h1,by rw[jE];omega⟩
  .obtain ⟨j,q,rfl,h1,h2,h3⟩:=jhm ts (i+1) p hp;exact⟨j+1,q,by rw[show i+1+j=i+(j+1) by omega],by simpa using h1,by simpa using h2,by rw[jE];omega⟩
end
theorem jkD{q:T->Prop}(hq:∀t,q t-> ∀u∈t.args,q u):∀{p:Xf}{t:T},okP p t->q t->q (atT p t)
 | [],_,_,h=>h
 |i::p,t,hp,h=>by
  obtain⟨h1,h2⟩:=hp;refine jkD (p:=p) hq h2 ?_;rw[jka h1];exact hq t h _ (List.getElem_mem _)
theorem jpb{n:Xb}(h:jA n=true):n.length<=4:=by
 cases n with
 |nil=>simp
 |cons c r=>
  simp only[jA,Bool.and_eq_true,decide_eq_true_eq]at h;rw[List.length_cons];omega
theorem jmj{n:Xb}(h:qf n=true):n.length<=6:=by
 cases n with
 |nil=>simp
 |cons c r=>
  simp only[qf,Bool.and_eq_true,decide_eq_true_eq]at h;rw[List.length_cons];omega
theorem jcF:∀t:T,yH t=true->tsz t<=10*nodes t:=by
 refine T.ind λt ih hk=>?_;have hL:∀us:Xg,(∀u∈us,tsz u<=10*nodes u)->qy us<=10*jE us:=by
  intro us;induction us with
  |nil=>intro _;simp[qy]
  |cons u us ih2=>
   intro h;have:=h u (by simp);have:=ih2 λw hw=>h w (by simp[hw]);simp only[qy,jE];omega
 have h1:=hL t.args λu hu=>ih u hu (qM hk u hu);rw[kC,j6];rw[qN]at hk;cases hv:jA t.name with
 |true=>
  rw[hv,if_pos rfl]at hk;have:=jpb hv;rw[List.isEmpty_iff.1 hk]at h1⊢;simp only[List.length_nil,qy]at h1⊢;omega
 |false=>
  rw[hv,if_neg Bool.false_ne_true,Bool.and_eq_true,Bool.and_eq_true,decide_eq_true_eq]at hk;have:=jmj hk.1;omega
theorem jae{t u:T}(h:u∈t.args):nodes u<nodes t:=by
 have:=Yz h;have:=j6 t;omega
def Vs(t:T):Prop:=yH t=true/\nodes t<=30
theorem Vs.args{t:T}(h:Vs t):∀u∈t.args,Vs u:=λu hu=>⟨qM h.1 u hu,by have:=jae hu;have:=h.2;omega⟩
theorem Vs.tz{t:T}(h:Vs t):Tz t:=by
 have:=jcF t h.1;have:=h.2;unfold Tz;omega
def RS(rs:Xg):Prop:=rs.length<=10/\ ∀r∈rs,r.args.length=2/\Vs (Kk r)/\Vs (Kw r)
theorem RS.ok{rs:Xg}(h:RS rs):jpq rs:=λr hr=>⟨(h.2 r hr).2.1.1,(h.2 r hr).2.2.1⟩
def EX(root:Bool)(t:T):Prop:=(nodes t<=31/\Tz t)/\(∀u∈t.args,Vs u)/\(root=true->Vs t)
def jyx(t:T)(o:Option T):Xe:=match o with|some u=>some (.tup [tm u,vb true],[])|none=>some (.tup [tm t,vb false],[])
theorem EX.at{root:Bool}{t:T}(h:EX root t){p:Xf}(hp:okP p t)(hne:¬(p=[]/\root=false)):Vs (atT p t):=by
 obtain⟨_,h1,h2⟩:=h;cases p with
 |nil=>
  cases root
  .exact absurd ⟨rfl,rfl⟩ hne
  .exact h2 rfl
 |cons i p=>
  obtain⟨a,b⟩:=hp;refine jkD (p:=p) (q:=Vs) (λ_ h=>h.args) b ?_;rw[jka a];exact h1 _ (List.getElem_mem _)
def jsI(o:Option T):Xe:=match o with|some u=>some (.tup [tm u,vb true],[])|none=>some (.tup [.agg [sv [],.sl 2 []],vb false],[])
def Srt(l:Xa):Prop:=l.Pairwise λx y=>x<y
theorem jfF(x y:Xb):Jz x y=decide (x<y):=Go.Proofs.bytesLess_eq x y
mutual
def juR:T->Xa
 |.mk n us=>(if jA n then[]else[n])++jo4 us
def jo4:Xg->Xa
 | []=>[]
 |t::ts=>juR t++jo4 ts
end
theorem jjk{n:Xb}(h:jA n=true):qf n=false:=by
 cases n with
 |nil=>rfl
 |cons c r=>
  simp only[jA,Bool.and_eq_true,upc,KG,decide_eq_true_eq]at h;have:Yu c=false:=by unfold Yu KG;rw[Bool.and_eq_false_iff];left;rw[decide_eq_false_iff_not];omega
  simp[qf,this]
def jwN(l vs:Xa)(k:Nat)(r:Xa):Prop:=jvh l vs k r/\(l.Nodup->r.Nodup)
def jyE(r:Xa):Ord':=⟨r,List.replicate r.length 1,1⟩
theorem jnh{ts:Xg}{t:T}(h:t∈ts):Yj t<=K6 ts:=by
 induction ts with
 |nil=>cases h
 |cons u us ih=>
  simp only[K6];rcases List.mem_cons.1 h with h|h
  .subst h;omega
  .have:=ih h;omega
def EX'(root:Bool)(t:T):Prop:=EX root t/\(root=false->t.name=[61]/\t.args.length=2)
theorem jkC{us:Xg}(h:∀u∈us,yH u=true):qy us<=10*jE us:=by
 induction us with
 |nil=>simp[qy]
 |cons u us ih=>
  have:=jcF u (h u (by simp));have:=ih λw hw=>h w (by simp[hw]);simp only[qy,jE];omega
def jyw(o:Option (T×Nat)):Xe:=match o with|some r=>some (.tup [tm r.1,vi (r.2:Nat),vb true],[])|none=>some (.tup [.agg [sv [],.sl 2 []],vi 0,vb false],[])
structure Law3{α:Type}(c:α->α->Int):Prop where
 zero:∀a b,c a b=0↔a=b
 flip:∀a b,c b a = -(c a b)
 trans:∀a b d,c a b<0->c b d<0->c a d<0
section
variable{α:Type}{c:α->α->Int}
def Asc(c:α->α->Int)(l:List α):Prop:=l.Pairwise λa b=>c a b<0
def jtZ(eq:α->α->Bool):List α->List α
 | []=>[]
 |a::l=>(match jtZ eq l with| []=>[a]|b::m=>if eq a b then b::m else a::b::m)
theorem Yd{p:α->Bool} :∀{l:List α}{a:α},a∈l.takeWhile p->p a=true
 |x::l,a,h=>by
  by_cases hx:p x=true
  .rw [List.takeWhile_cons_of_pos hx]at h;rcases List.mem_cons.1 h with e|e
   .rw [e];exact hx
   .exact Yd e
  .rw [List.takeWhile_cons_of_neg hx]at h;cases h
def jdt(c:α->α->Int)(l:List α)(x:α):List α:=if(l.dropWhile λa=>decide (c a x<0)).head?.any (λb=>decide (c b x=0))then l else l.takeWhile (λa=>decide (c a x<0))++x::l.dropWhile λa=>decide (c a x<0)
theorem jnF(h:Law3 c){l:List α}(hl:Asc c l)(x:α):Asc c (jdt c l x)/\ ∀y,y∈jdt c l x↔y∈l\/y=x:=by
 have e:=List.takeWhile_append_dropWhile (p:=λa=>decide (c a x<0)) (l:=l);have ht:∀a∈l.takeWhile (λa=>decide (c a x<0)),c a x<0:=λa ha=>of_decide_eq_true (Yd (p:=λa=>decide (c a x<0)) ha);unfold jdt;generalize l.takeWhile (λa=>decide (c a x<0))=t at *;cases hd:l.dropWhile (λa=>decide (c a x<0))with
 |nil=>
  rw[hd,List.append_nil]at e;subst e;rw[if_neg (by simp)];refine⟨?_,λy=>by simp⟩;refine List.pairwise_append.2 ⟨hl,by simp,λa ha b hb=>?_⟩;simp only[List.mem_singleton]at hb;rw[hb];exact ht a ha
 |cons b m=>
  have hb:¬c b x<0:=by
   intro hb;have:=List.head?_dropWhile_not (p:=λa=>decide (c a x<0)) l;rw[hd]at this;simp[hb]at this
  rw[hd]at e;by_cases h0:c b x=0
  .rw [if_pos (by simp[h0])];refine⟨hl,λy=>⟨Or.inl,λhy=>?_⟩⟩;rcases hy with hy|hy
   .exact hy
   .rw [hy,<-(h.zero b x).1 h0,<-e];simp
  .rw [if_neg (by simp[h0])];rw[<-e]at hl;obtain⟨p1,p2,p3⟩:=List.pairwise_append.1 hl;have hxb:c x b<0:=by have:=h.flip b x;omega
   refine⟨List.pairwise_append.2 ⟨p1,List.pairwise_cons.2 ⟨λy hy=>?_,p2⟩,λa ha y hy=>?_⟩,λy=>?_⟩
   .rcases List.mem_cons.1 hy with e'|e'
    .rw [e'];exact hxb
    .exact h.trans x b y hxb ((List.pairwise_cons.1 p2).1 y e')
   .rcases List.mem_cons.1 hy with e'|e'
    .rw [e'];exact ht a ha
    .exact p3 a ha y e'
   .rw [<-e];simp only[List.mem_append,List.mem_cons];constructor
    .rintro (h|h|h|h)
     .exact Or.inl (Or.inl h)
     .exact Or.inr h
     .exact Or.inl (Or.inr (Or.inl h))
     .exact Or.inl (Or.inr (Or.inr h))
    .rintro ((h|h|h)|h)
     .exact Or.inl h
     .exact Or.inr (Or.inr (Or.inl h))
     .exact Or.inr (Or.inr (Or.inr h))
     .exact Or.inr (Or.inl h)
def Z9(c:α->α->Int)(l:List α):List α:=l.foldl (jdt c) []
theorem jlz(h:Law3 c)(l:List α):Asc c (Z9 c l)/\ ∀y,y∈Z9 c l↔y∈l:=by
 have key:∀(l m:List α),Asc c m->Asc c (l.foldl (jdt c) m)/\ ∀y,y∈l.foldl (jdt c) m↔y∈m\/y∈l:=by
  intro l;induction l with
  |nil=>intro m hm;exact⟨hm,λy=>by simp⟩
  |cons x l ih=>
   intro m hm;obtain⟨g1,g2⟩:=jnF h hm x;obtain⟨k1,k2⟩:=ih _ g1;refine⟨k1,λy=>?_⟩;rw[List.foldl_cons,k2,g2,List.mem_cons,or_assoc]
 obtain⟨g1,g2⟩:=key l [] List.Pairwise.nil;exact⟨g1,λy=>by rw[Z9,g2];simp⟩
end
theorem jsv{α β γ:Type}{f:γ->α}{g:γ->β}{c:α->α->Int}{d:β->β->Int}(hc:Law3 c)(hd:Law3 d)(hi:∀x y,f x=f y->g x=g y->x=y):Law3 λx y:γ=>if c (f x) (f y)≠0 then c (f x) (f y)else d (g x) (g y):=by
 refine⟨λa b=>?_,λa b=>?_,λa b e=>?_⟩
 .show (if c (f a) (f b)≠0 then c (f a) (f b)else d (g a) (g b))=0↔_;by_cases h:c (f a) (f b)=0
  .rw [if_neg (λh'=>h' h),hd.zero];exact⟨λh2=>hi a b ((hc.zero _ _).1 h) h2,λh2=>by rw[h2]⟩
  .rw [if_pos h];exact⟨λh2=>absurd h2 h,λh2=>by rw[h2]at h;exact absurd ((hc.zero _ _).2 rfl) h⟩
 .show (if c (f b) (f a)≠0 then c (f b) (f a)else d (g b) (g a)) = -(if c (f a) (f b)≠0 then c (f a) (f b)else d (g a) (g b));rw[hc.flip (f a) (f b),hd.flip (g a) (g b)];by_cases h:c (f a) (f b)=0
  .rw [if_neg (by omega),if_neg (by omega)]
  .rw [if_pos (by omega),if_pos (by omega)]
 .show (if c (f a) (f b)≠0 then c (f a) (f b)else d (g a) (g b))<0->(if c (f b) (f e)≠0 then c (f b) (f e)else d (g b) (g e))<0->(if c (f a) (f e)≠0 then c (f a) (f e)else d (g a) (g e))<0;by_cases h1:c (f a) (f b)=0
  .have e1:=(hc.zero _ _).1 h1;rw[if_neg (λh'=>h' h1),e1];by_cases h2:c (f b) (f e)=0
   .rw [if_neg (λh'=>h' h2),if_neg (λh'=>h' h2)];exact hd.trans _ _ _
   .rw [if_pos h2,if_pos h2];exact λ_ h=>h
  .rw [if_pos h1];by_cases h2:c (f b) (f e)=0
   .have e2:=(hc.zero _ _).1 h2;rw[if_neg (λh'=>h' h2),<-e2,if_pos h1];exact λh _=>h
   .rw [if_pos h2];intro h3 h4;have:=hc.trans _ _ _ h3 h4;rw[if_pos (by omega)];exact this
def ku(x y:Xb):Int:=if Jz x y then -1 else if x=y then 0 else 1
theorem JN:Law3 ku:=by
 have irr:=jkM;have asy:∀x y,Jz x y=true->Jz y x=true->False:=λx y h1 h2=>by
  rw[jfF,decide_eq_true_eq]at h1 h2;exact absurd (List.lt_trans h1 h2) (List.lt_irrefl _)
 have tot:∀x y,x=y\/Jz x y=true\/Jz y x=true:=λx y=>by
  rw[jfF,jfF,decide_eq_true_eq,decide_eq_true_eq];rcases Classical.em (x<y)with h|h
  .exact Or.inr (Or.inl h)
  rcases Classical.em (y<x)with h'|h'
  .exact Or.inr (Or.inr h')
  .exact Or.inl (List.le_antisymm (List.not_lt.1 h') (List.not_lt.1 h))
 have tr:∀x y z,Jz x y=true->Jz y z=true->Jz x z=true:=λx y z h1 h2=>by
  rw[jfF,decide_eq_true_eq]at *;exact List.lt_trans h1 h2
 have neg:∀x y,ku x y<0↔Jz x y=true:=λx y=>by
  unfold ku;cases h:Jz x y with
  |true=>simp
  |false=>
   rw[if_neg Bool.false_ne_true];split<;>simp
 refine⟨λa b=>?_,λa b=>?_,λa b d h1 h2=>(neg _ _).2 (tr _ _ _ ((neg _ _).1 h1) ((neg _ _).1 h2))⟩
 .unfold ku;cases h:Jz a b with
  |true=>rw[if_pos rfl];exact⟨λh'=>by omega,λe=>by rw[e,irr]at h;cases h⟩
  |false=>
   rw[if_neg Bool.false_ne_true];by_cases e:a=b
   .rw [if_pos e];exact⟨λ_=>e,λ_=>rfl⟩
   .rw [if_neg e];exact⟨λh'=>by omega,λh'=>absurd h' e⟩
 .unfold ku;rcases tot a b with e|e|e
  .subst e;rw[irr,if_neg Bool.false_ne_true,if_pos rfl];rfl
  .have h2:Jz b a=false:=by
    cases h:Jz b a with
    |false=>rfl
    |true=>exact(asy _ _ e h).elim
   have hne:¬b=a:=λh=>by rw[h,irr]at e;cases e
   rw[e,h2,if_neg Bool.false_ne_true,if_neg hne,if_pos rfl];rfl
  .have h2:Jz a b=false:=by
    cases h:Jz a b with
    |false=>rfl
    |true=>exact(asy _ _ e h).elim
   have hne:¬a=b:=λh=>by rw[h,irr]at e;cases e
   rw[e,h2,if_neg Bool.false_ne_true,if_neg hne,if_pos rfl]
def jV(x y:Nat):Int:=if x<y then -1 else if y<x then 1 else 0
theorem K4:Law3 jV:=by
 refine⟨λa b=>?_,λa b=>?_,λa b d=>?_⟩<;>unfold jV
 .split
  .omega
  .split<;>omega
 .split<;>split<;>(try split)<;>omega
 .intro h1 h2;by_cases h:a<b
  .by_cases h3:b<d
   .rw [if_pos (by omega)];omega
   .rw [if_neg h3]at h2;split at h2<;>omega
  .rw [if_neg h]at h1;split at h1<;>omega
def vF(n:Xb):Nat:=if jA n then 0 else 1
abbrev Key:=Nat×(Xb×Nat)
def cK(x y:Key):Int:=if jV x.1 y.1≠0 then jV x.1 y.1 else if ku x.2.1 y.2.1≠0 then ku x.2.1 y.2.1 else jV x.2.2 y.2.2
theorem Ka:Law3 cK:=by
 have h2:Law3 λx y:Xb×Nat=>if ku x.1 y.1≠0 then ku x.1 y.1 else jV x.2 y.2:=jsv (f:=Prod.fst) (g:=Prod.snd) JN K4 λx y h1 h2=>Prod.ext h1 h2;exact jsv (f:=Prod.fst) (g:=Prod.snd) K4 h2 λx y h1 h2=>Prod.ext h1 h2
def z6(t:T):Key:=(vF t.name,(t.name,t.args.length))
mutual
def zc(a b:T):Int:=
 match a with
 |.mk n us=>if cK (z6 (.mk n us)) (z6 b)≠0 then cK (z6 (.mk n us)) (z6 b)else kD us b.args
termination_by structural a
def kD(xs bs:Xg):Int:=
 match xs with
 | []=>0
 |a::xs=>(match bs with| []=>0|b::bs=>if zc a b≠0 then zc a b else kD xs bs)
termination_by structural xs
end
theorem Kd(a b:T):zc a b=if cK (z6 a) (z6 b)≠0 then cK (z6 a) (z6 b)else kD a.args b.args:=by cases a;rfl
theorem jcq{a b:T}(h:z6 a=z6 b):a.name=b.name/\a.args.length=b.args.length:=by
 unfold z6 at h;simp only[Prod.mk.injEq]at h;exact h.2
theorem jtn{a b:T}(h1:a.name=b.name)(h2:a.args=b.args):a=b:=by
 cases a;cases b;simp only[T.name,T.args]at h1 h2;rw[h1,h2]
theorem jrV:∀{xs bs:Xg},(∀u∈xs,∀v,zc u v=0↔u=v)->xs.length=bs.length->(kD xs bs=0↔xs=bs)
 | [],[],_,_=>by simp[kD]
 | [],_::_,_,h=>by cases h
 |_::_,[],_,h=>by cases h
 |a::xs,b::bs,h,hl=>by
  rw[kD];have ih:=jrV (xs:=xs) (bs:=bs) (λu hu=>h u (by simp[hu])) (Nat.succ.inj hl);by_cases h0:zc a b=0
  .rw [if_neg (λh'=>h' h0),ih,(h a (by simp) b).1 h0];simp
  .rw [if_pos h0];exact⟨λh'=>absurd h' h0,λe=>by rw[List.cons.injEq]at e;exact(h a (by simp) b).2 e.1⟩
theorem jqX:∀{xs bs:Xg},(∀u∈xs,∀v,zc v u = -(zc u v))->xs.length=bs.length->kD bs xs = -(kD xs bs)
 | [],[],_,_=>by simp[kD]
 | [],_::_,_,h=>by cases h
 |_::_,[],_,h=>by cases h
 |a::xs,b::bs,h,hl=>by
  rw[kD,kD,h a (by simp) b,jqX (xs:=xs) (bs:=bs) (λu hu=>h u (by simp[hu])) (Nat.succ.inj hl)];by_cases h0:zc a b=0
  .rw [if_neg (by omega),if_neg (by omega)]
  .rw [if_pos (by omega),if_pos (by omega)]
theorem jo9(z:∀u v:T,zc u v=0↔u=v):∀{xs bs ds:Xg},(∀u∈xs,∀v w,zc u v<0->zc v w<0->zc u w<0)->xs.length=bs.length->bs.length=ds.length->kD xs bs<0->kD bs ds<0->kD xs ds<0
 | [],_,_,_,_,_,h1,_=>by simp[kD]at h1
 |a::xs,[],_,_,h,_,_,_=>by cases h
 |a::xs,b::bs,[],_,_,h,_,_=>by cases h
 |a::xs,b::bs,d::ds,h,hl,hl2,h1,h2=>by
  rw[kD]at h1 h2⊢;by_cases c1:zc a b=0
  .have e1:=(z a b).1 c1;rw[if_neg (λh'=>h' c1)]at h1;rw[e1];by_cases c2:zc b d=0
   .rw [if_neg (λh'=>h' c2)]at h2;rw[if_neg (λh'=>h' c2)];exact jo9 z (λu hu=>h u (by simp[hu])) (Nat.succ.inj hl) (Nat.succ.inj hl2) h1 h2
   .rw [if_pos c2]at h2;rw[if_pos c2];exact h2
  .rw [if_pos c1]at h1;by_cases c2:zc b d=0
   .rw [<-(z b d).1 c2,if_pos c1];exact h1
   .rw [if_pos c2]at h2;have:=h a (by simp) b d h1 h2;rw[if_pos (by omega)];exact this
theorem jne:Law3 zc:=by
 have z:∀a b:T,zc a b=0↔a=b:=by
  refine T.ind λa ih b=>?_;rw[Kd];by_cases h:cK (z6 a) (z6 b)=0
  .have hk:=(Ka.zero _ _).1 h;obtain⟨h1,h2⟩:=jcq hk;rw[if_neg (λh'=>h' h),jrV ih h2];exact⟨λe=>jtn h1 e,λe=>by rw[e]⟩
  .rw [if_pos h];exact⟨λh'=>absurd h' h,λe=>by rw[e]at h;exact absurd ((Ka.zero _ _).2 rfl) h⟩
 refine⟨z,?_,?_⟩
 .refine T.ind λa ih b=>?_;rw[Kd,Kd a b,Ka.flip (z6 a) (z6 b)];by_cases h:cK (z6 a) (z6 b)=0
  .obtain ⟨_,h2⟩:=jcq ((Ka.zero _ _).1 h);rw[if_neg (by omega),if_neg (by omega),jqX ih h2]
  .rw [if_pos (by omega),if_pos (by omega)]
 .refine T.ind λa ih b d h1 h2=>?_;rw[Kd]at h1 h2⊢;by_cases c1:cK (z6 a) (z6 b)=0
  .have e1:=(Ka.zero _ _).1 c1;rw[if_neg (λh'=>h' c1)]at h1;rw[e1];by_cases c2:cK (z6 b) (z6 d)=0
   .have e2:=(Ka.zero _ _).1 c2;rw[if_neg (λh'=>h' c2)]at h2;rw[if_neg (λh'=>h' c2)];exact jo9 z ih (jcq e1).2 (jcq e2).2 h1 h2
   .rw [if_pos c2]at h2;rw[if_pos c2];exact h2
  .rw [if_pos c1]at h1;by_cases c2:cK (z6 b) (z6 d)=0
   .rw [<-(Ka.zero _ _).1 c2,if_pos c1];exact h1
   .rw [if_pos c2]at h2;have:=Ka.trans _ _ _ h1 h2;rw[if_pos (by omega)];exact this
def upN:Xb->Bool
 | []=>false
 |c::_=>upc c
mutual
def val(M:Xb->Xi->Int)(e:Xb->Int):T->Int
 |.mk n us=>if us.isEmpty && upN n then e n else M n (juV M e us)
def juV(M:Xb->Xi->Int)(e:Xb->Int):Xg->Xi
 | []=>[]
 |t::ts=>val M e t::juV M e ts
end
section
variable{M:Xb->Xi->Int}
def Ext(m m':jy):Prop:=∀x r,look m x=some r->look m' x=some r
theorem Ext.refl(m:jy):Ext m m:=λ_ _ h=>h
theorem Ext.trans{a b c:jy}(h:Ext a b)(h':Ext b c):Ext a c:=λx r hx=>h' x r (h x r hx)
variable{good:Int->Prop}
def jwQ(M:Xb->Xi->Int)(good:Int->Prop)(rs:Xg):Prop:=∀r∈rs,∀e:Xb->Int,(∀x,good (e x))->val M e (Kk r)=val M e (Kw r)
end
def dec(n:Nat):Nat->Nat->Xf
 |0,_=>[]
 |l+1,k=>k % n::dec n l (k / n)
def enc(n:Nat):Xf->Nat
 | []=>0
 |v::vs=>v+n*enc n vs
def vnA(l:Xa)(n:Xb):Xa:=if l.contains n then l else l++[n]
mutual
def vn(l:Xa):T->Xa
 |.mk n us=>if us.isEmpty && upN n then vnA l n else vnL l us
def vnL(l:Xa):Xg->Xa
 | []=>l
 |t::ts=>vnL (vn l t) ts
end
def VIn(S:Xa)(t:T):Prop:=∀x∈jdh t,x∈S
abbrev Lt:=Bool×T
def fl(b:Bool):Nat:=if b then 1 else 0
def cmpL(a b:Lt):Int:=if zc a.2 b.2≠0 then zc a.2 b.2 else jV (fl a.1) (fl b.1)
theorem jgk:Law3 cmpL:=jsv (f:=Prod.snd) (g:=λl:Lt=>fl l.1) jne K4 λx y h1 h2=>by
 obtain⟨p,t⟩:=x;obtain⟨q,u⟩:=y;have h1:t=u:=h1;have h2:fl p=fl q:=h2;subst h1;cases p<;>cases q<;>first|rfl|(simp[fl]at h2)
abbrev jP:=List Lt
def jgb:jP->Bool
 |a::b::l=>decide (cmpL a b<0) && jgb (b::l)
 |_=>true
theorem jgc:∀c:jP,jgb c=true↔Asc cmpL c
 | []=>by simp[jgb,Asc]
 | [a]=>by simp[jgb,Asc]
 |a::b::l=>by
  rw[jgb,Bool.and_eq_true,decide_eq_true_eq,jgc (b::l)];unfold Asc;constructor
  .rintro ⟨h1,h2⟩;refine List.pairwise_cons.2 ⟨λx hx=>?_,h2⟩;rcases List.mem_cons.1 hx with e|e
   .rw [e];exact h1
   .exact jgk.trans a b x h1 ((List.pairwise_cons.1 h2).1 x e)
  .intro h;exact⟨(List.pairwise_cons.1 h).1 b (by simp),(List.pairwise_cons.1 h).2⟩
mutual
def qb(l:Xa):T->Xa
 |.mk n us=>if jA n then vnA l n else Ko l us
def Ko(l:Xa):Xg->Xa
 | []=>l
 |t::ts=>Ko (qb l t) ts
end
theorem jfv(l:Xa)(t:T):qb l t=if jA t.name then vnA l t.name else Ko l t.args:=by cases t;rfl
def zU(c:jP):Xa:=c.foldl (λl x=>qb l x.2) []
def jfr(p:UInt8)(i:Nat):Xb:=p::Lib.decDigits i
def ZG(c:jP):Bool:=decide (zU c=(List.range (zU c).length).map (jfr 88))
mutual
def zW(f:Xb->Xb):T->T
 |.mk n us=>if jA n then .mk (f n) []else .mk n (kR f us)
def kR(f:Xb->Xb):Xg->Xg
 | []=>[]
 |t::ts=>zW f t::kR f ts
end
theorem Zq(f:Xb->Xb):∀ts:Xg,kR f ts=ts.map (zW f)
 | []=>rfl
 |t::ts=>by rw[kR,Zq f ts,List.map_cons]
theorem jfC(f:Xb->Xb)(t:T):zW f t=if jA t.name then .mk (f t.name) []else .mk t.name (t.args.map (zW f)):=by
 cases t;rw[zW,Zq];rfl
def jaF(p:UInt8)(l:Xa)(n:Xb):Xb:=match l.findIdx? (λx=>decide (x=n))with|some i=>jfr p i|none=>n
def renC(p:UInt8)(c:jP):jP:=Z9 cmpL (c.map λl=>(l.1,zW (jaF p (zU c)) l.2))
def normF:Nat->jP->jP
 |0,c=>c
 |k+1,c=>if ZG c then c else normF k (renC 88 c)
def normC(c:jP):jP:=normF 10 c
theorem jab(t:T)(h:yH t=true\/t.name=[61]):G 109 [tm t]=some (vb (jA t.name),[]):=by
 rcases h with h|h
 .exact jcn t h
 .have e1:=Kh 61;have hx:kG (sv t.name) (vi 0)=some (vy ((61:UInt8).toNat:Int)):=by rw[h];exact zh
  have hv:jA t.name=upc 61:=by rw[h];decide
  rw[jsq,hv];simp only[jo,hx,e1]
theorem Ke(x y:Xb):ku x y=if Jz x y then -1 else if Jz y x then 1 else 0:=by
 have hf:=JN.flip x y;cases h1:Jz x y with
 |true=>unfold ku;rw[h1];rfl
 |false=>
  rw[if_neg Bool.false_ne_true];cases h2:Jz y x with
  |true=>
   have:ku y x = -1:=by unfold ku;rw[h2,if_pos rfl]
   rw[if_pos rfl];omega
  |false=>
   rw[if_neg Bool.false_ne_true];have a1:ku x y=0\/ku x y=1:=by
    unfold ku;rw[h1,if_neg Bool.false_ne_true];split<;>simp
   have a2:ku y x=0\/ku y x=1:=by
    unfold ku;rw[h2,if_neg Bool.false_ne_true];split<;>simp
   omega
theorem jd7(b:Bool)(x y:Xb):jz .gtr b (sv x) (sv y)=some (vb (Jz y x)):=by
 show some (vb (!(Jz x y || decide (x=y))))=_;by_cases e:x=y
 .subst e;rw[jkM,decide_eq_true rfl];rfl
 have h1:=Ke x y;have h3:=JN.flip x y;have h4:=Ke y x;rw[decide_eq_false e,Bool.or_false];cases a:Jz x y<;>cases c:Jz y x<;>rw[a,c]at h1 h4
 .exact absurd ((JN.zero x y).1 h1) e
 .rfl
 .rfl
 .have h1:ku x y = -1:=h1;have h4:ku y x = -1:=h4;omega
theorem jgm(x y:Xb):G 116 [sv x,sv y]=some (vi (ku x y),[]):=by
 have n1:G 131 [sv x]=some (vb false,[]):=by rw[jua];simp only[jo]
 have n2:G 131 [sv y]=some (vb false,[]):=by rw[jua];simp only[jo]
 rw[jvU,Ke];cases h1:Jz x y<;>cases h2:Jz y x<;>simp only[jo,n1,n2,jd7,h1,h2]
theorem jaI(x y:Nat):G 105 [vi (x:Nat),vi (y:Nat)]=some (vi (jV x y),[]):=by
 have n1:G 118 [vi (x:Nat)]=some (vb false,[]):=by rw[jt9];simp only[jo]
 have n2:G 118 [vi (y:Nat)]=some (vb false,[]):=by rw[jt9];simp only[jo]
 rw[jvM];unfold jV;by_cases h1:x<y
 .have h1':((x:Nat):Int)<((y:Nat):Int):=by omega
  rw[if_pos h1];simp only[jo,n1,n2,h1']
 .have h1':¬((x:Nat):Int)<((y:Nat):Int):=by omega
  rw[if_neg h1];by_cases h2:y<x
  .have h2':((y:Nat):Int)<((x:Nat):Int):=by omega
   rw[if_pos h2];simp only[jo,n1,n2,h1',h2']
  .have h2':¬((y:Nat):Int)<((x:Nat):Int):=by omega
   rw[if_neg h2];simp only[jo,n1,n2,h1',h2']
theorem joi(a b:Int):G 103 [.sl 1 [[vi a],[vi b]]]=some (vi (if a≠0 then a else b),[]):=by
 have i0:jk 1 (.sl 1 [[vi a],[vi b]]) (vi 0)=some (.elt [vi a] 0):=rfl;have i1:jk 1 (.sl 1 [[vi a],[vi b]]) (vi 1)=some (.elt [vi b] 0):=rfl;have ll:yX (.sl 1 [[vi a],[vi b]])=some (vi 2):=rfl;have c0:jz .add false (vi 0) (vi 1)=some (vi 1):=by rw[JY,k9 (by decide) (by decide)];rfl
 have c1:jz .add false (vi 1) (vi 1)=some (vi 2):=by rw[JY,k9 (by decide) (by decide)];rfl
 have z0:(0:Int)<2:=by decide
 have z1:(1:Int)<2:=by decide
 have z2:¬(2:Int)<2:=by decide
 generalize A.sl 1 [[vi a],[vi b]]=X at *;have k2:jbM (vi 0) X (vi 2) (vi 2)=some (vi 0,[]):=by rw[jiA];simp only[jo,z2]
 have k1:jbM (vi 0) X (vi 2) (vi 1)=some (vi b,[]):=by
  rw[jiA];by_cases hb:b=0
  .simp only[jo,z1,i1,hb,c1,k2]
  .simp only[jo,z1,i1,hb]
 rw[jvK];simp only[cev];rw[ll,Option.bind_some,jiA];by_cases ha:a=0
 .rw [if_neg (λh=>h ha)];simp only[jo,z0,i0,ha,c0,k1]
 .rw [if_pos ha];simp only[jo,z0,i0,ha]
def Rx'(t:T):Prop:=yH t=true\/(t.name=[61]/\ ∀u∈t.args,yH u=true)
theorem Rx'.args{t:T}(h:Rx' t):∀u∈t.args,Rx' u:=λu hu=>Or.inl (by
 rcases h with h|h
 .exact qM h u hu
 .exact h.2 u hu)
theorem Q5(ts us:Xg)(hl:ts.length<=1048576)(hlen:ts.length=us.length)(ih:∀t∈ts,∀u∈us,G 104 [tm t,tm u]=some (vi (zc t u),[])) :
  ∀i,i<=ts.length->jeJ (jW ts) (jW us) (.fn 104 []) (jW ts) (vi (ts.length:Nat)) (vi (i:Nat))=some (vi (kD (ts.drop i) (us.drop i)),[]):=by
 refine upto ?_ ?_
 .rw [jnS,List.drop_length,kD];simp only[jo,hlen]
 .intro i hi ih';have hlt:(i:Int)<((ts.length:Nat):Int):=by omega
  have hi2:i<us.length:=by omega
  have hge:¬((us.length:Nat):Int)<=(i:Int):=by omega
  have h5:=js hi (by show ts.length<=9223372036854775807;omega)
  have e1:=ih ts[i] (List.getElem_mem _) us[i] (List.getElem_mem _);rw[jnS,jr hi,jr hi2,kD];by_cases hc:zc ts[i] us[i]=0
  .rw [if_neg (λh=>h hc)];rw[hc]at e1;simp only[jo,hlt,jb hi,jb hi2,jp,hge,yT (f:=104) rfl,List.append_nil,e1,h5,ih']
  .rw [if_pos hc];generalize zc ts[i] us[i]=c at *;simp only[jo,hlt,jb hi,jb hi2,jp,hge,yT (f:=104) rfl,List.append_nil,e1,hc]
theorem ja8:∀a:T,Rx' a->Tz a-> ∀b:T,Rx' b->Tz b->G 104 [tm a,tm b]=some (vi (zc a b),[]):=by
 refine T.ind λa ih ha za b hb zb=>?_;have va:=jab a (ha.imp id λh=>h.1);have vb':=jab b (hb.imp id λh=>h.1);have hz:=za;unfold Tz at hz;rw[kC]at hz;have e1:=jgm a.name b.name;have e2:=jaI a.args.length b.args.length;have e3:=joi (ku a.name b.name) (jV a.args.length b.args.length);have e4:a.args.length=b.args.length->G 117 [jW a.args,jW b.args,.fn 104 []]=some (vi (kD a.args b.args),[]):=λhlen=>by
  have key:=Q5 a.args b.args (by omega) hlen (λt ht u hu=>ih t ht (ha.args t ht) (za.args t ht) u (hb.args u hu) (zb.args u hu)) 0 (Nat.zero_le _);simp only[Int.natCast_zero,List.drop_zero]at key;rw[jvV];simp only[jo,key]
 rw[jvL,Kd];unfold cK z6 vF;cases h1:jA a.name<;>cases h2:jA b.name<;>rw[h1]at va<;>rw[h2]at vb'
 .show _=some (vi (if(if jV 1 1≠0 then jV 1 1 else if ku a.name b.name≠0 then ku a.name b.name else jV a.args.length b.args.length)≠0 then(if jV 1 1≠0 then jV 1 1 else if ku a.name b.name≠0 then ku a.name b.name else jV a.args.length b.args.length)else kD a.args b.args),[]);rw[if_neg (show ¬jV 1 1≠0 by decide)];by_cases hz0:(if ku a.name b.name≠0 then ku a.name b.name else jV a.args.length b.args.length)=0
  .have hlen:a.args.length=b.args.length:=by
    split at hz0
    .rename_i h;exact absurd hz0 h
    .exact (K4.zero _ _).1 hz0
   rw[if_neg (λh=>h hz0)];rw[hz0]at e3;simp only[jo,va,vb',e1,e2,e3,e4 hlen]
  .rw [if_pos hz0];generalize (if ku a.name b.name≠0 then ku a.name b.name else jV a.args.length b.args.length)=c at *;simp only[jo,va,vb',e1,e2,e3,hz0]
 .have:(if(if jV 1 0≠0 then jV 1 0 else if ku a.name b.name≠0 then ku a.name b.name else jV a.args.length b.args.length)≠0 then(if jV 1 0≠0 then jV 1 0 else if ku a.name b.name≠0 then ku a.name b.name else jV a.args.length b.args.length)else kD a.args b.args)=1:=by
   rw[if_pos (show jV 1 0≠0 by decide),if_pos (show jV 1 0≠0 by decide)];rfl
  show _=some (vi (if(if jV 1 0≠0 then jV 1 0 else if ku a.name b.name≠0 then ku a.name b.name else jV a.args.length b.args.length)≠0 then(if jV 1 0≠0 then jV 1 0 else if ku a.name b.name≠0 then ku a.name b.name else jV a.args.length b.args.length)else kD a.args b.args),[]);rw[this];simp only[jo,va,vb']
 .have:(if(if jV 0 1≠0 then jV 0 1 else if ku a.name b.name≠0 then ku a.name b.name else jV a.args.length b.args.length)≠0 then(if jV 0 1≠0 then jV 0 1 else if ku a.name b.name≠0 then ku a.name b.name else jV a.args.length b.args.length)else kD a.args b.args) = -1:=by
   rw[if_pos (show jV 0 1≠0 by decide),if_pos (show jV 0 1≠0 by decide)];rfl
  show _=some (vi (if(if jV 0 1≠0 then jV 0 1 else if ku a.name b.name≠0 then ku a.name b.name else jV a.args.length b.args.length)≠0 then(if jV 0 1≠0 then jV 0 1 else if ku a.name b.name≠0 then ku a.name b.name else jV a.args.length b.args.length)else kD a.args b.args),[]);rw[this];simp only[jo,va,vb']
 .show _=some (vi (if(if jV 0 0≠0 then jV 0 0 else if ku a.name b.name≠0 then ku a.name b.name else jV a.args.length b.args.length)≠0 then(if jV 0 0≠0 then jV 0 0 else if ku a.name b.name≠0 then ku a.name b.name else jV a.args.length b.args.length)else kD a.args b.args),[]);rw[if_neg (show ¬jV 0 0≠0 by decide)];by_cases hz0:(if ku a.name b.name≠0 then ku a.name b.name else jV a.args.length b.args.length)=0
  .have hlen:a.args.length=b.args.length:=by
    split at hz0
    .rename_i h;exact absurd hz0 h
    .exact (K4.zero _ _).1 hz0
   rw[if_neg (λh=>h hz0)];rw[hz0]at e3;simp only[jo,va,vb',e1,e2,e3,e4 hlen]
  .rw [if_pos hz0];generalize (if ku a.name b.name≠0 then ku a.name b.name else jV a.args.length b.args.length)=c at *;simp only[jo,va,vb',e1,e2,e3,hz0]
end Go.Proofs.YtcmflcpoohgmmaaGreatDoor
