/- Pa -/
import Derived.Test.YtmmnimiohoammaaGreatDoorKt
import Derived.Test.YtmmnimiohoammaaGreatDoorPq
import Derived.Test.YtmmnimiohoammaaGreatDoorEd
import Derived.ChangeSame
import Derived.Sort.Walk0
import Derived.Lib.ItoaNum
namespace Go.Proofs.YtmmnimiohoammaaGreatDoor
open Go Go.RowKit Go.Proofs.YtmmnimiohoammaaGreatDoor.Abs
set_option linter.unusedSimpArgs false
set_option linter.unusedVariables false
abbrev ci (n:Int):List A:=[vi n]
abbrev cs (s:List UInt8):List A:=[sv s]
abbrev ints (l:List Int):A:= .sl 1 (l.map ci)
abbrev strs (l:List (List UInt8)):A:= .sl 1 (l.map cs)
section
theorem jgz {α:Type} (x y:α):brn true x y=x:=rfl
theorem jfk {α:Type} (x y:α):brn false x y=y:=rfl
theorem jim {α:Type} (b:Bool) (x y:α):brn b x y=if b=true then x else y:=rfl
theorem jeS:(-1:Int) < 0:=by decide
theorem jhx (b:Bool):kP (vb b)=some b:=rfl
theorem jhE (b:Bool) (x y:A):y8 (vb b) x y=some (if b=true then x else y):=rfl
theorem jmu (b w:Bool) (x:Option A):pG (vb b) w x=if b=w then x else some (.val undef):=rfl
theorem jhG (b w:Bool):ya (vb b) w=some (decide (b=w)):=rfl
theorem jhA (w:Bool) (x:Option A):pG (.val undef) w x=some (.val undef):=rfl
theorem jcz (w:Bool):ya (.val undef) w=some false:=rfl
theorem jhB (k:Nat) (xs:List (List A)):KO (.sl k xs)=some (vi xs.length):=rfl
theorem ji7 (xs:List (List A)):jcD xs=vi xs.length:=rfl
theorem jhN (xs:List (List A)):yB xs=xs.length:=rfl
theorem qY (l:List UInt8):KP (sv l)=some (vi l.length):=rfl
theorem jgQ (a:A):fin false (a,[])=some a:=rfl
theorem jkU (b c:Bool):fin c (vb b,[])=some (vb b):=by cases c<;>rfl
theorem jkV (c:Bool) (n:Int):fin c (vi n,[])=some (vi n):=by cases c<;>rfl
theorem ji4 (b:Bool):K2 .not (vb b)=some (vb (!b)):=rfl
theorem jht (b:Bool) (x y:Int):js .lss b (vi x) (vi y)=some (vb (decide (x < y))):=rfl
theorem jhs (b:Bool) (x y:Int):js .leq b (vi x) (vi y)=some (vb (decide (x<=y))):=rfl
theorem jhr (b:Bool) (x y:Int):js .gtr b (vi x) (vi y)=some (vb (decide (y < x))):=rfl
theorem jhq (b:Bool) (x y:Int):js .geq b (vi x) (vi y)=some (vb (decide (y<=x))):=rfl
theorem jhp (b:Bool) (x y:Int):js .eql b (vi x) (vi y)=some (vb (decide (x=y))):=rfl
theorem jhv (b:Bool) (x y:Int):js .neq b (vi x) (vi y)=some (vb (!decide (x=y))):=rfl
theorem jfL (b:Bool) (x y:Int):js .lss b (vy x) (vy y)=some (vb (decide (x < y))):=rfl
theorem jfK (b:Bool) (x y:Int):js .leq b (vy x) (vy y)=some (vb (decide (x<=y))):=rfl
theorem jfJ (b:Bool) (x y:Int):js .gtr b (vy x) (vy y)=some (vb (decide (y < x))):=rfl
theorem jfI (b:Bool) (x y:Int):js .geq b (vy x) (vy y)=some (vb (decide (y<=x))):=rfl
theorem jfH (b:Bool) (x y:Int):js .eql b (vy x) (vy y)=some (vb (decide (x=y))):=rfl
theorem jfM (b:Bool) (x y:Int):js .neq b (vy x) (vy y)=some (vb (!decide (x=y))):=rfl
theorem jfN (x y:Bool):js .eql true (vb x) (vb y)=some (vb (decide (x=y))):=rfl
theorem jfO (x y:Bool):js .neq true (vb x) (vb y)=some (vb (!decide (x=y))):=rfl
theorem y7 (b:Bool) (x y:Int):js .add b (vi x) (vi y)=ck (x+y):=by cases b<;>rfl
theorem jhw (b:Bool) (x y:Int):js .sub b (vi x) (vi y)=ck (x - y):=by cases b<;>rfl
theorem jhu (b:Bool) (x y:Int):js .mul b (vi x) (vi y)=ck (x * y):=by cases b<;>rfl
theorem z6 {n:Int} (h1: -9223372036854775808<=n) (h2:n<=9223372036854775807):ck n=some (vi n):=if_pos ⟨h1,h2⟩
theorem Q9 (b:Bool) (x y:List UInt8):js .add b (sv x) (sv y)=if x.length+y.length<=9223372036854775807 then some (sv (x++y)) else none:=by cases b<;>rfl
theorem jfP (b:Bool) (x y:List UInt8):js .eql b (sv x) (sv y)=some (vb (decide (x=y))):=rfl
theorem jfR (b:Bool) (x y:List UInt8):js .neq b (sv x) (sv y)=some (vb (!decide (x=y))):=rfl
theorem jfQ (b:Bool) (x y:List UInt8):js .lss b (sv x) (sv y)=some (vb (y9 x y)):=rfl
theorem jhD (a:A) (l:List A):qZ (.elt (a::l) 0)=some a:=rfl
theorem jho (cs:List A) (off n:Nat):jdK (.elt cs off) n=some (.elt cs (off+n)):=rfl
theorem jdM (off:Nat) (cs:List A):Y0 off (.agg cs)=cs[off]? :=rfl
theorem jdL (n:Nat) (ds:List A):YZ n (.agg ds)=if ds.length=n/\ds.all kU=true then some ds else none:=rfl
theorem jfm (a:A) (l:List A):je (a::l) 0=a:=rfl
theorem jgA (a b:A) (l:List A):je (a::b::l) 1=b:=rfl
theorem jgB (a b c:A) (l:List A):je (a::b::c::l) 2=c:=rfl
theorem jdn (a b c d:A) (l:List A):je (a::b::c::d::l) 3=d:=rfl
theorem jk8 (k:Nat) (xs:List (List A)):kU (.sl k xs)=true:=rfl
theorem jiW (cs:List A) (o:Nat):kU (.elt cs o)=true:=rfl
theorem jk7 (f:FuncId) (l:List A):kU (.fn f l)=true:=rfl
theorem jlb (n:Int):kU (vi n)=true:=rfl
theorem jla (b:Bool):kU (vb b)=true:=rfl
theorem jk9 (l:List UInt8):kU (sv l)=true:=rfl
theorem jlf (n:Nat) (i:Int):pIx n (vi i)=if 0<=i/\i < (n:Int) then some i.toNat else none:=rfl
theorem jbf {n i:Nat} (h:i < n):pIx n (vi i)=some i:=by
 rw [jlf,if_pos ⟨by omega,by omega⟩];simp
theorem jhF (k:Nat) (xs:List (List A)):jac k (.sl k xs)=some xs:=if_pos rfl
theorem jli (a:A) (l:List A):QK (.tup (a::l)) 0=some a:=rfl
theorem jlj (a b:A) (l:List A):QK (.tup (a::b::l)) 1=some b:=rfl
theorem jlk (a b c:A) (l:List A):QK (.tup (a::b::c::l)) 2=some c:=rfl
theorem ji2 (x y:Int):jdN (vi x) (vi y)=some (vi (if x < y then y else x)):=by
 unfold jdN;simp
theorem ji3 (x y:Int):jfT (vi x) (vi y)=some (vi (if y < x then y else x)):=by
 unfold jfT;simp
theorem jmf (a:A) (l:List A) (i:Nat):hD (a,l) i=l[i]? :=rfl
theorem jny (k:Nat) (a:A) (xs:List (List A)) (l:List A):hR k (a,.sl k xs::l) 0=some xs:=by simp [hR]
theorem jnz (k:Nat) (a b:A) (xs:List (List A)) (l:List A):hR k (a,b:: .sl k xs::l) 1=some xs:=by simp [hR]
theorem jnA (k:Nat) (a b c:A) (xs:List (List A)) (l:List A):hR k (a,b::c:: .sl k xs::l) 2=some xs:=by simp [hR]
theorem qO {f:FuncId} {caps args:List A} {c:Bool} (h:K.pureF f=true):DX.run K (MM K) (.callc (.fn f caps) args c)=(G f (args++caps)).bind (fin c):=by
 simp only [DX.run,h,if_true]
theorem ja {α:Type} {k:Nat} {f:α->List A} {xs:List α} {i:Nat} (h:i < xs.length):jk k (.sl k (xs.map f)) (vi i)=some (.elt (f xs[i]) 0):=by
 simp only [jk,if_true,List.length_map,jbf h,Option.map_some];simp [List.getD_eq_getElem?_getD,h]
theorem jA {i n:Nat} (h:i < n) (hn:n<=9223372036854775807):js .add false (vi i) (vi 1)=some (vi ((i+1:Nat):Int)):=by
 rw [y7,z6 (by omega) (by omega)];rfl
theorem jaL {b:Int} {n:Nat} (h0:0<=b) (h1:b<=9223372036854775807) (hn:n<=9223372036854775807):ck (b - n)=some (vi (b - n)):=z6 (by omega) (by omega)
theorem upto {P:Nat->Prop} {n:Nat} (h0:P n) (hs:∀i,i < n->P (i+1)->P i):∀i,i<=n->P i:=by
 intro i hi;obtain ⟨k,hk⟩:∃k,n=i+k:=⟨n - i,by omega⟩;induction k generalizing i with
 | zero=>rw [show i=n by omega];exact h0
 | succ k ih=>exact hs i (by omega) (ih (i+1) (by omega) (by omega))
theorem jB {α:Type} {xs:List α} {i:Nat} (h:i < xs.length):xs.drop i=xs[i]::xs.drop (i+1):=List.drop_eq_getElem_cons h
theorem evs :
  ((-1:Int) < 0)/\
  (∀ {α:Type} (x y:α),brn true x y=x)/\
  (∀ {α:Type} (x y:α),brn false x y=y)/\
  (∀ {α:Type} (b:Bool) (x y:α),brn b x y=if b=true then x else y)/\
  (∀ {α β:Type} (a:α) (f:α->Option β),(some a).bind f=f a)/\
  (∀ {α β:Type} (f:α->Option β),none.bind f=none)/\
  (∀(b:Bool),kP (vb b)=some b)/\
  (∀(b:Bool) (x y:A),y8 (vb b) x y=some (if b=true then x else y))/\
  (∀(b w:Bool) (x:Option A),pG (vb b) w x=if b=w then x else some (A.val undef))/\
  (∀(b w:Bool),ya (vb b) w=some (decide (b=w)))/\
  (∀(w:Bool) (x:Option A),pG (A.val undef) w x=some (A.val undef))/\
  (∀(w:Bool),ya (A.val undef) w=some false)/\
  (∀(k:Nat) (xs:List (List A)),KO (A.sl k xs)=some (vi ↑xs.length))/\
  (∀(xs:List (List A)),jcD xs=vi ↑xs.length)/\
  (∀(xs:List (List A)),yB xs=xs.length)/\
  (∀(l:List UInt8),KP (sv l)=some (vi ↑l.length))/\
  (∀(a:A),fin false (a,[])=some a)/\
  (∀(b c:Bool),fin c (vb b,[])=some (vb b))/\
  (∀(c:Bool) (n:Int),fin c (vi n,[])=some (vi n))/\
  (∀(b:Bool),K2 UnOp.not (vb b)=some (vb !b))/\
  (∀(b:Bool) (x y:Int),js BinOp.lss b (vi x) (vi y)=some (vb (decide (x < y))))/\
  (∀(b:Bool) (x y:Int),js BinOp.leq b (vi x) (vi y)=some (vb (decide (x<=y))))/\
  (∀(b:Bool) (x y:Int),js BinOp.gtr b (vi x) (vi y)=some (vb (decide (y < x))))/\
  (∀(b:Bool) (x y:Int),js BinOp.geq b (vi x) (vi y)=some (vb (decide (y<=x))))/\
  (∀(b:Bool) (x y:Int),js BinOp.eql b (vi x) (vi y)=some (vb (decide (x=y))))/\
  (∀(b:Bool) (x y:Int),js BinOp.neq b (vi x) (vi y)=some (vb !decide (x=y)))/\
  (∀(b:Bool) (x y:Int),js BinOp.lss b (vy x) (vy y)=some (vb (decide (x < y))))/\
  (∀(b:Bool) (x y:Int),js BinOp.leq b (vy x) (vy y)=some (vb (decide (x<=y))))/\
  (∀(b:Bool) (x y:Int),js BinOp.gtr b (vy x) (vy y)=some (vb (decide (y < x))))/\
  (∀(b:Bool) (x y:Int),js BinOp.geq b (vy x) (vy y)=some (vb (decide (y<=x))))/\
  (∀(b:Bool) (x y:Int),js BinOp.eql b (vy x) (vy y)=some (vb (decide (x=y))))/\
  (∀(b:Bool) (x y:Int),js BinOp.neq b (vy x) (vy y)=some (vb !decide (x=y)))/\
  (∀(x y:Bool),js BinOp.eql true (vb x) (vb y)=some (vb (decide (x=y))))/\
  (∀(x y:Bool),js BinOp.neq true (vb x) (vb y)=some (vb !decide (x=y)))/\
  (∀(b:Bool) (x y:Int),js BinOp.add b (vi x) (vi y)=ck (x+y))/\
  (∀(b:Bool) (x y:Int),js BinOp.sub b (vi x) (vi y)=ck (x - y))/\
  (∀(b:Bool) (x y:Int),js BinOp.mul b (vi x) (vi y)=ck (x * y))/\
  (∀(b:Bool) (x y:List UInt8),js BinOp.eql b (sv x) (sv y)=some (vb (decide (x=y))))/\
  (∀(b:Bool) (x y:List UInt8),js BinOp.neq b (sv x) (sv y)=some (vb !decide (x=y)))/\
  (∀(b:Bool) (x y:List UInt8),js BinOp.lss b (sv x) (sv y)=some (vb (y9 x y)))/\
  (∀(a:A) (l:List A),qZ (A.elt (a::l) 0)=some a)/\
  (∀(cs:List A) (off n:Nat),jdK (A.elt cs off) n=some (A.elt cs (off+n)))/\
  (∀(off:Nat) (cs:List A),Y0 off (A.agg cs)=cs[off]?)/\
  (∀(n:Nat) (ds:List A),YZ n (A.agg ds)=if ds.length=n/\ds.all kU=true then some ds else none)/\
  (∀(a:A) (l:List A),je (a::l) 0=a)/\
  (∀(a b:A) (l:List A),je (a::b::l) 1=b)/\
  (∀(a b c:A) (l:List A),je (a::b::c::l) 2=c)/\
  (∀(a b c d:A) (l:List A),je (a::b::c::d::l) 3=d)/\
  (∀(k:Nat) (xs:List (List A)),kU (A.sl k xs)=true)/\
  (∀(cs:List A) (o:Nat),kU (A.elt cs o)=true)/\
  (∀(f:FuncId) (l:List A),kU (A.fn f l)=true)/\
  (∀(n:Int),kU (vi n)=true)/\
  (∀(b:Bool),kU (vb b)=true)/\
  (∀(l:List UInt8),kU (sv l)=true)/\
  (∀(k:Nat) (xs:List (List A)),jac k (A.sl k xs)=some xs)/\
  (∀(a:A) (l:List A),QK (A.tup (a::l)) 0=some a)/\
  (∀(a b:A) (l:List A),QK (A.tup (a::b::l)) 1=some b)/\
  (∀(a b c:A) (l:List A),QK (A.tup (a::b::c::l)) 2=some c)/\
  (∀(x y:Int),jdN (vi x) (vi y)=some (vi (if x < y then y else x)))/\
  (∀(x y:Int),jfT (vi x) (vi y)=some (vi (if y < x then y else x)))/\
  (∀(a:A) (l:List A) (i:Nat),hD (a,l) i=l[i]?)/\
  (∀(k:Nat) (a:A) (xs:List (List A)) (l:List A),hR k (a,A.sl k xs::l) 0=some xs)/\
  (∀(k:Nat) (a b:A) (xs:List (List A)) (l:List A),hR k (a,b::A.sl k xs::l) 1=some xs)/\
  (∀(k:Nat) (a b c:A) (xs:List (List A)) (l:List A),hR k (a,b::c::A.sl k xs::l) 2=some xs)/\
  (∀ {α:Type} {a:α} {l:List α} {f:α->Bool},(a::l).all f=(f a && l.all f))/\
  (∀ {α:Type} {f:α->Bool},([]:List α).all f=true)/\
  (∀ {α:Type} {a:α} {l:List α},(a::l).length=l.length+1)/\
  (∀ {α:Type},([]:List α).length=0)/\
  (∀ {α β:Type} {l:List α} (f:α->β),(List.map f l).length=l.length)/\
  (∀(n:Nat),0+n=n)/\
  (∀(b:Bool),(b && b)=b)/\
  (∀(b:Bool),(b && true)=b)/\
  (∀(p:Prop),(p/\p)=p)/\
  (∀ {α:Type} {_x:Decidable True} (t e:α),(if True then t else e)=t)/\
  (∀ {α:Type} {_x:Decidable False} (t e:α),(if False then t else e)=e)/\
  ((true=false)=False)/\
  ((false=true)=False)/\
  (∀(_h:Decidable True),decide True=true)/\
  (∀(_h:Decidable False),decide False=false)/\
  ((!true)=false)/\
  ((!false)=true)/\
  (∀(b:Bool),((!b)=true)=(b=false))/\
  (∀ {p:Prop} [Decidable p],(decide p=true)=p)/\
  (∀ {p:Prop} {x:Decidable p},decide p=false↔ ¬p)/\
  (∀(a:Int),¬a < a)/\
  ((¬True)=False)/\
  ((¬False)=True)/\
  (∀ {α:Type} (a b:α),(if True then a else b)=a)/\
  (∀ {α:Type} (a b:α),(if False then a else b)=b):=
 ⟨@jeS,@jgz,@jfk,@jim,@Option.bind_some.{0,0},@Option.bind_none.{0,0},@jhx,@jhE,@jmu,@jhG,@jhA,@jcz,@jhB,@ji7,@jhN,@qY,@jgQ,@jkU,@jkV,@ji4,@jht,@jhs,@jhr,@jhq,@jhp,@jhv,@jfL,@jfK,@jfJ,@jfI,@jfH,@jfM,@jfN,@jfO,@y7,@jhw,@jhu,@jfP,@jfR,@jfQ,@jhD,@jho,@jdM,@jdL,@jfm,@jgA,@jgB,@jdn,@jk8,@jiW,@jk7,@jlb,@jla,@jk9,@jhF,@jli,@jlj,@jlk,@ji2,@ji3,@jmf,@jny,@jnz,@jnA,@List.all_cons.{0},@List.all_nil.{0},@List.length_cons.{0},@List.length_nil.{0},@List.length_map.{0,0},@Nat.zero_add,@Bool.and_self,@Bool.and_true,@and_self,@if_true.{1},@if_false.{1},@Bool.true_eq_false,@Bool.false_eq_true,@decide_true,@decide_false,@Bool.not_true,@Bool.not_false,@Bool.not_eq_true',@decide_eq_true_eq,@decide_eq_false_iff_not,@Int.lt_irrefl,@not_true_eq_false,@not_false_eq_true,@ite_true.{1},@ite_false.{1}⟩
end
theorem jmd:(∀ {α:Type} {h:Decidable True} (a b:α),@ite α True h a b=a)/\(∀ {α:Type} {h:Decidable False} (a b:α),@ite α False h a b=b)/\(1+1=2/\1+2=3/\1+3=4/\1+4=5/\2+1=3/\2+2=4/\2+3=5/\2+4=6/\3+1=4/\3+2=5/\3+3=6/\3+4=7/\4+1=5/\4+2=6/\4+3=7/\4+4=8/\5+1=6/\5+2=7/\5+3=8/\5+4=9/\6+1=7/\6+2=8/\6+3=9/\6+4=10/\7+1=8/\7+2=9/\7+3=10/\7+4=11/\8+1=9/\8+2=10/\8+3=11/\8+4=12/\9+1=10/\9+2=11/\9+3=12/\9+4=13/\10+1=11/\10+2=12/\10+3=13/\10+4=14/\11+1=12/\11+2=13/\11+3=14/\11+4=15/\12+1=13/\12+2=14/\12+3=15/\12+4=16):=by refine ⟨?_,?_,by decide⟩<;>intros<;>simp
theorem jm:type_of% (And.intro evs (And.intro cev jmd)):=And.intro evs (And.intro cev jmd)
open Go Go.RowKit Go.ChangeShapes Go.Deep Go.Proofs.YtmmnimiohoammaaGreatDoor.Abs
section
variable {P:Program} {t:Nat} {H:Type} {enc:TypeId × Value->H} {w:World} {base:Nat} {spare:Nat->Bool} {held:Bool} {fuel:Nat} {cs:List Value} {x:DataW H × List MemPlace}
theorem jdX {α:Type} {g0:α->List A} {p0:α->Prop} {f0:Field} {k0:Nat} (ht:P.underlying t=some (.struct #[f0]))
  (o0:f0.offset=0) (c0:P.cellsOf f0.type=k0) (c:P.cellsOf t=k0)
  (h0:∀n cs x,n < fuel->DataW.trod enc P w base spare held n f0.type cs=some x-> ∃a,p0 a/\jf w (λ_=>False) (g0 a) cs/\jc cs)
  (h:DataW.trod enc P w base spare held fuel t cs=some x):∃a,p0 a/\jf w (λ_=>False) (g0 a) cs/\jc cs:=by
 obtain ⟨xs,n,hfn,rfl,hl,hlen,hf⟩:=DataW.trod_struct ht h;have e0:=hf 0 f0 rfl;rw [o0,c0] at e0;have hlen:xs.length=1:=hlen;have hx0:xs[0]? = some xs[0]:=List.getElem?_eq_getElem (by omega);rw [hx0] at e0;obtain ⟨a,q1,q2,q3⟩:=h0 n _ _ (by omega) e0;rw [List.drop_zero,List.take_of_length_le (by omega)] at q2 q3;exact ⟨a,q1,q2,q3⟩
theorem jdY {α β:Type} {g0:α->List A} {g1:β->List A} {p0:α->Prop} {p1:β->Prop} {f0 f1:Field} {k0 k1:Nat} (ht:P.underlying t=some (.struct #[f0,f1]))
  (o0:f0.offset=0) (o1:f1.offset=k0) (c0:P.cellsOf f0.type=k0) (c1:P.cellsOf f1.type=k1) (c:P.cellsOf t=k0+k1)
  (h0:∀n cs x,n < fuel->DataW.trod enc P w base spare held n f0.type cs=some x-> ∃a,p0 a/\jf w (λ_=>False) (g0 a) cs/\jc cs)
  (h1:∀n cs x,n < fuel->DataW.trod enc P w base spare held n f1.type cs=some x-> ∃a,p1 a/\jf w (λ_=>False) (g1 a) cs/\jc cs)
  (h:DataW.trod enc P w base spare held fuel t cs=some x):∃a b,p0 a/\p1 b/\jf w (λ_=>False) (g0 a++g1 b) cs/\jc cs:=by
 obtain ⟨xs,n,hfn,rfl,hl,hlen,hf⟩:=DataW.trod_struct ht h;have e0:=hf 0 f0 rfl;have e1:=hf 1 f1 rfl;rw [o0,c0] at e0;rw [o1,c1] at e1;have hlen:xs.length=2:=hlen;have hx0:xs[0]? = some xs[0]:=List.getElem?_eq_getElem (by omega);have hx1:xs[1]? = some xs[1]:=List.getElem?_eq_getElem (by omega);rw [hx0] at e0;rw [hx1] at e1;obtain ⟨a,q1,q2,q3⟩:=h0 n _ _ (by omega) e0;obtain ⟨b,r1,r2,r3⟩:=h1 n _ _ (by omega) e1;have e:cs=(cs.drop 0).take k0++(cs.drop k0).take k1:=by
  rw [List.take_of_length_le (l:=cs.drop k0) (by simp;omega),List.drop_zero,List.take_append_drop]
 rw [e];exact ⟨a,b,q1,r1,jF q2 r2,jc.append q3 r3⟩
end
inductive T where
 | mk (name:List UInt8) (args:List T)
def T.name:T->List UInt8 | .mk n _=>n
def T.args:T->List T | .mk _ us=>us
mutual
def jI:T->List A
 | .mk n us=>[sv n,.sl 2 (Ya us)]
def Ya:List T->List (List A)
 | []=>[]
 | t::ts=>jI t::Ya ts
end
theorem Jl:∀ts:List T,Ya ts=ts.map jI
 | []=>rfl
 | t::ts=>by simp [Ya,Jl ts]
theorem qa (t:T):jI t = [sv t.name,.sl 2 (t.args.map jI)]:=by
 cases t;simp [jI,T.name,T.args,Jl]
theorem QN (t:T):(jI t).length=2:=by rw [qa];rfl
abbrev tm (t:T):A:= .agg [sv t.name,.sl 2 (t.args.map jI)]
abbrev yG (ts:List T):A:= .sl 2 (ts.map jI)
theorem ji (t:T):kJ 2 (.elt (jI t) 0)=some (.agg [sv t.name,.sl 2 (t.args.map jI)]):=by rw [qa];rfl
mutual
def tsz:T->Nat
 | .mk n us=>n.length+us.length+zj us
def zj:List T->Nat
 | []=>0
 | t::ts=>tsz t+zj ts
end
theorem kh (t:T):tsz t=t.name.length+t.args.length+zj t.args:=by cases t;simp [tsz,T.name,T.args]
theorem zk:∀ {ts:List T} {t:T},t∈ts->tsz t<=zj ts
 | [],_,h=>by cases h
 | u::us,t,h=>by
  simp only [zj];rcases List.mem_cons.1 h with rfl|h
  .omega
  .have:=zk h;omega
mutual
def JW:T->Prop
 | .mk n us=>n.length<=9223372036854775807/\us.length<=9223372036854775807/\jgl us
def jgl:List T->Prop
 | []=>True
 | t::ts=>JW t/\jgl ts
end
theorem kY (t:T):JW t↔t.name.length<=9223372036854775807/\t.args.length<=9223372036854775807/\jgl t.args:=by cases t;simp [JW,T.name,T.args]
theorem j9:∀ts:List T,jgl ts↔ ∀t∈ts,JW t
 | []=>by simp [jgl]
 | t::ts=>by simp [jgl,j9 ts]
theorem T.ind {p:T->Prop} (h:∀t,(∀u∈t.args,p u)->p t):∀t,p t:=by
 intro t;induction hn:SizeOf.sizeOf t using Nat.strongRecOn generalizing t with
 | ind n ih=>
  subst hn;refine h t λu hu=>ih (SizeOf.sizeOf u) ?_ u rfl;cases t with
  | mk nm us=>
   have:=List.sizeOf_lt_of_mem hu;simp only [T.args] at this;simp only [T.mk.sizeOf_spec];omega
section
variable {P:Program} {tT tS:Nat}
theorem jf2 {H:Type} {enc:TypeId × Value->H} {w:World} {base:Nat} {spare:Nat->Bool} {held:Bool} {f0 f1:Field} (ht:P.underlying tT=some (.struct #[f0,f1])) (h0:P.underlying f0.type=some .string) (h1:P.underlying f1.type=some (.slice tT))
  (o0:f0.offset=0) (o1:f1.offset=1) (c0:P.cellsOf f0.type=1) (c1:P.cellsOf f1.type=1) (c2:P.cellsOf tT=2) :
  ∀(fuel:Nat) (cs:List Value) (x:DataW H × List MemPlace),DataW.trod enc P w base spare held fuel tT cs=some x-> ∃t,JW t/\jf w (λ_=>False) (jI t) cs/\jc cs:=by
 intro fuel;induction fuel using Nat.strongRecOn with
 | ind fuel ih=>
  intro cs x h;obtain ⟨xs,n,hfn,rfl,hl,hlen,hf⟩:=DataW.trod_struct ht h;have e0:=hf 0 f0 rfl;have e1:=hf 1 f1 rfl;rw [o0,c0] at e0;rw [o1,c1] at e1;rw [c2] at hl
  match cs,hl with
  | [u,v],_=>
   match xs,hlen with
   | [y0,y1],_=>
    simp only [List.drop_zero,List.take_succ_cons,List.take_zero,List.getElem?_cons_zero] at e0;simp only [List.drop_succ_cons,List.drop_zero,List.take_succ_cons,List.take_zero,List.getElem?_cons_succ,List.getElem?_cons_zero] at e1;obtain ⟨s,hs,_,hsz⟩:=DataW.trod_string h0 e0;obtain ⟨ts,⟨hts,htl⟩,hr,ho⟩:=jcU (P:=P) (t:=f1.type) (e:=tT) (f:=jI) (p:=JW) QN (by decide) h1 c2 (λm cs' x' hm hx'=>ih m (by omega) cs' x' hx') e1;have hbs:∀s:ByteArray,(⟨⟨bs s⟩⟩:ByteArray)=s:=λs=>rfl;refine ⟨.mk (bs s) ts,by simp only [JW];exact ⟨by show (bs s).length<=_;rw [<-JE];simpa [maxLen] using hsz,htl,(j9 ts).2 hts⟩,?_,?_⟩
    .simp only [jI,Jl];simp only [List.cons.injEq,and_true] at hs;subst hs;simp only [jf,List.cons.injEq] at hr;obtain ⟨v',r',⟨rfl,rfl⟩,h3,_⟩:=hr;simp only [jf];exact ⟨_,_,rfl,by simp [rel,hbs],_,_,rfl,h3,rfl⟩
    .simp only [List.cons.injEq,and_true] at hs;subst hs;intro z hz;rcases List.mem_cons.1 hz with rfl|hz
     .simp [Value.oneCell']
     .exact ho z hz
end
theorem jjb:Qy Tryz.prog 71 jI JW:=λ_ _ _ _ _ _ fuel cs x h=>
 jf2 Tryz.underlying71 Tryz.underlying9 Tryz.underlying69 rfl rfl (by kernel_rfl) (by kernel_rfl) (by kernel_rfl) fuel cs x h
theorem jhO:Qy Tryz.prog 3 ci I64:=Qy.int Tryz.underlying3
theorem ji8:Qy Tryz.prog 4 (λb=>[vb b]) (λ_=>True):=Qy.bool Tryz.underlying4
theorem jeZ:Qy Tryz.prog 22 (λxs:List Int=>[ints xs]) (λxs=>(∀x∈xs,I64 x)/\xs.length<=9223372036854775807):=
 Qy.slice Tryz.underlying22 (by kernel_rfl) (by decide) (λ_=>rfl) jhO
structure Ord' where
 syms:List (List UInt8)
 ws:List Int
 var:Int
abbrev jnF (o:Ord'):List A:=[strs o.syms,ints o.ws,vi o.var]
abbrev od (o:Ord'):A:= .agg [strs o.syms,ints o.ws,vi o.var]
def owf (o:Ord'):Prop:=((∀s∈o.syms,s.length<=9223372036854775807)/\o.syms.length<=9223372036854775807)/\((∀x∈o.ws,I64 x)/\o.ws.length<=9223372036854775807)/\I64 o.var
set_option maxHeartbeats 1000000
def jy (left n:Int):Int:=if 0<=left - n then left - n else -1
theorem ko {left n:Int} (h:left < n):jy left n = -1:=if_neg (by omega)
theorem yn {left n:Int} (h:n<=left):jy left n=left - n:=if_pos (by omega)
theorem YL {b:Int} (h:0<=b):jy b ((0:Nat):Int)=b:=by unfold jy;simp [h]
theorem Jx (b m n:Int):jy (b - m) n=jy b (m+n):=by unfold jy;rw [Int.sub_sub]
theorem KJ (b n:Int): -1<=jy b n:=by unfold jy;split<;>omega
theorem Zf {b m n:Int} (h:m<=b):jy (jy b m) n=jy b (m+n):=by rw [yn h,Jx]
def part {α:Type} (f:α->List A) (z:List A) (xs:List α) (i:Nat):List (List A):=(xs.take i).map f++List.replicate (xs.length - i) z
section
variable {α:Type} {f:α->List A} {z:List A} {xs:List α}
theorem Zl:QL xs.length z=part f z xs 0:=by simp [part,QL]
theorem Y2:part f z xs xs.length=xs.map f:=by simp [part]
theorem Jb {i:Nat} (h:i<=xs.length):(part f z xs i).length=xs.length:=by simp [part];omega
theorem Y3 {i:Nat} (h:i < xs.length):ji6 (part f z xs i) i=some z:=by
 unfold ji6 part;rw [List.getElem?_append_right (by simp;omega)];simp;rw [List.getElem?_replicate,if_pos (by omega)]
theorem Y4 {i:Nat} (h:i < xs.length):ZV (part f z xs i) i (f xs[i])=part f z xs (i+1):=by
 unfold ZV part;have e:xs.length - i=(xs.length - (i+1))+1:=by omega
 rw [List.set_append_right _ _ (by simp;omega),e,List.replicate_succ]
 simp only [List.length_map,List.length_take,Nat.min_eq_left (Nat.le_of_lt h),Nat.sub_self,List.set_cons_zero];rw [<-List.take_append_getElem h,List.map_append];simp
end
theorem jio (a b:A):Yk [a] 0 [b] = [b]:=rfl
theorem jip (a b c d:A):Yk [a,b] 0 [c,d] = [c,d]:=rfl
theorem Zj {b n:Nat} (hb:(b:Int) * (n:Int)<=281474976710656) (hn:n<=1048576):jab b (vi n) (vi n)=some n:=by
 show (if _ then _ else _)=_;rw [if_pos (show jkw b n n from ⟨by omega,Int.le_refl _,hb,by omega⟩),Int.toNat_natCast]
def jnB (k:Int):Nat->List Int
 | 0=>[]
 | n+1=>k::jnB (k+1) n
section
variable {α:Type} {f:α->List A} (M r:List α) (x:α)
end
section
variable (M R:List (List A)) (x y:List A)
end
def jhY:List (List UInt8)->Nat
 | []=>0
 | s::l=>s.length+jhY l
theorem jfb (l:List Int) (hl:l.length<=9223372036854775807) (left:Int) (h0:0<=left) (h1:left<=1048576):G 9 [ints l,vi left]=some (vi (jy left ((l.length:Nat):Int)),[]):=by
 have hk:=jaL h0 (Int.le_trans h1 (by decide)) hl;rw [g9];simp only [jm,hk];by_cases hc:left - l.length < 0
 .simp only [jm,hc];rw [ko (by omega)]
 .simp only [jm,hc];rw [yn (by omega)]
def osz (o:Ord'):Nat:=o.syms.length+jhY o.syms+o.ws.length
theorem jh3 (ts:List T) (hl:ts.length<=9223372036854775807) (ih:∀t∈ts,∀left:Int,0<=left->left<=1048576->G 62 [tm t,vi left]=some (vi (jy left ((tsz t:Nat):Int)),[]))
  (left:Int) (h0:0<=left) (h1:left<=1048576):G 81 [yG ts,vi left]=some (vi (jy left ((ts.length+zj ts:Nat):Int)),[]):=by
 have loop:∀(a:Int),0<=a->a<=1048576->jbB (yG ts) (vi a) (vi 0)=some (vi (jy a (zj ts)),[]):=by
  have key:=(upto (P:=λi=>∀a:Int,0<=a->a<=1048576->jbB (yG ts) (vi a) (vi i)=some (vi (jy a (zj (ts.drop i))),[])) (n:=ts.length) ?_ ?_ 0 (Nat.zero_le _))
  .simp only [List.drop_zero,Int.natCast_zero] at key;exact key
  .intro b hb hb';rw [jkc,List.drop_length];simp only [jm,zj];rw [YL hb]
  .intro i hi ih' b hb hb';have e1:=ih ts[i] (List.getElem_mem _) b hb hb';rw [jkc,jB hi];simp only [jm,hi,Int.ofNat_lt,ja hi,ji,e1,jA hi hl,zj];by_cases hc:b < (tsz ts[i]:Nat)
   .rw [ko hc,ko (by omega)];rfl
   .have hp:=yn (Int.not_lt.1 hc);have ih':=ih' (jy b (tsz ts[i]:Nat)) (by omega) (by omega);have hn:¬jy b ((tsz ts[i]:Nat):Int) < 0:=by omega
    simp only [jm,hn,ih'];rw [Zf (Int.not_lt.1 hc),<-Int.natCast_add]
 have hk:=jaL h0 (Int.le_trans h1 (by decide)) hl;rw [g81];simp only [jm,hk];by_cases hc:left - ts.length < 0
 .simp only [jm,hc];rw [ko (by omega)]
 .have hl:=loop (left - ts.length) (by omega) (by omega);simp only [jm,hc,hl];rw [Jx,<-Int.natCast_add]
theorem jjw (t:T):JW t-> ∀left:Int,0<=left->left<=1048576->G 62 [tm t,vi left]=some (vi (jy left ((tsz t:Nat):Int)),[]):=by
 refine T.ind (p:=λt=>JW t-> ∀left:Int,0<=left->left<=1048576->G 62 [tm t,vi left]=some (vi (jy left ((tsz t:Nat):Int)),[])) ?_ t;intro t ih hw left h0 h1;obtain ⟨w1,w2,w3⟩:=(kY t).1 hw;have w3:=(j9 _).1 w3;have hk:=jaL h0 (Int.le_trans h1 (by decide)) w1;rw [g62,kh];simp only [jm,hk];by_cases hc:left - t.name.length < 0
 .simp only [jm,hc];rw [ko (by omega)]
 .have e2:=jh3 t.args w2 (λu hu=>ih u hu (w3 u hu)) (left - t.name.length) (by omega) (by omega);simp only [jm,hc,e2];rw [Jx,<-Int.natCast_add,<-Nat.add_assoc];by_cases h2:jy left ((t.name.length+t.args.length+zj t.args:Nat):Int) < 0
  .have:jy left ((t.name.length+t.args.length+zj t.args:Nat):Int) = -1:=by have:=KJ left (t.name.length+t.args.length+zj t.args:Nat);omega
   simp only [jm,h2,this]
  .simp only [jm,h2]
theorem jfd (l:List Int) (hl:l.length<=1048576):G 17 [ints l]=some (ints l,[]):=by
 have key:=(upto (P:=λi=>jd9 (ints l) (vi i) (part ci [vi 0] l i)=some (ints l,[])) (n:=l.length) ?_ ?_ 0 (Nat.zero_le _))
 .rw [g17];have hm:=Zj (b:=8) (n:=l.length) (by omega) hl;simp only [Int.natCast_zero,<-Zl] at key;simp only [jm,hm,key]
 .rw [jjV,Y2];simp only [jm]
 .intro i hi ih;have h1:=Jb (f:=ci) (z:=[vi 0]) (Nat.le_of_lt hi);have h2:pIx (part ci [vi 0] l i).length (vi i)=some i:=jbf (by omega);have h4:=Y4 (f:=ci) (z:=[vi 0]) hi;have h5:=jA hi (Nat.le_trans hl (by decide));rw [jjV];simp only [jm,hi,Int.ofNat_lt,ja hi,h2,Y3 hi,jio,h4,h5,ih]
theorem jh4 (ts:List T) (hl:ts.length<=1048576) (ih:∀t∈ts,G 68 [tm t]=some (tm t,[])):G 83 [yG ts]=some (yG ts,[]):=by
 have key:=(upto (P:=λi=>jem (yG ts) (vi i) (part jI [sv [],.sl 2 []] ts i)=some (yG ts,[])) (n:=ts.length) ?_ ?_ 0 (Nat.zero_le _))
 .rw [g83];have hm:=Zj (b:=40) (n:=ts.length) (by omega) hl;simp only [Int.natCast_zero,<-Zl] at key;simp only [jm,hm,key]
 .rw [jkd,Y2];simp only [jm]
 .intro i hi ih';have h1:=Jb (f:=jI) (z:=[sv [],.sl 2 []]) (Nat.le_of_lt hi);have h2:pIx (part jI [sv [],.sl 2 []] ts i).length (vi i)=some i:=jbf (by omega);have h4:=Y4 (f:=jI) (z:=[sv [],.sl 2 []]) hi;rw [qa] at h4;have h5:=jA hi (Nat.le_trans hl (by decide));have e1:=ih ts[i] (List.getElem_mem _);rw [jkd];simp only [jm,hi,Int.ofNat_lt,ja hi,ji,e1,h2,Y3 hi,jip,h4,h5,ih']
theorem jjA (t:T):tsz t<=1048576->G 68 [tm t]=some (tm t,[]):=by
 refine T.ind (p:=λt=>tsz t<=1048576->G 68 [tm t]=some (tm t,[])) ?_ t;intro t ih h;rw [kh] at h;have e1:=jh4 t.args (by omega) λu hu=>ih u hu (by have:=zk hu;omega);rw [g68];simp only [jm,e1]
theorem jey (l:List Int) (hl:l.length<=9223372036854775807):G 25 [ints l,ints l]=some (vb true,[]):=by
 have key:=(upto (P:=λi=>jed (ints l) (ints l) (vi i)=some (vb true,[])) (n:=l.length) ?_ ?_ 0 (Nat.zero_le _))
 .rw [g25];simp only [Int.natCast_zero] at key;simp only [jm,key]
 .rw [jjZ];simp only [jm]
 .intro i hi ih;have h5:=jA hi hl;rw [jjZ];simp only [jm,hi,Int.ofNat_lt,ja hi,h5,ih]
theorem jgO (ts:List T) (hl:ts.length<=9223372036854775807) (ih:∀t∈ts,G 80 [tm t,tm t]=some (vb true,[])):G 101 [yG ts,yG ts]=some (vb true,[]):=by
 have key:=(upto (P:=λi=>jaD (yG ts) (yG ts) (vi i)=some (vb true,[])) (n:=ts.length) ?_ ?_ 0 (Nat.zero_le _))
 .rw [jnt];simp only [Int.natCast_zero] at key;simp only [jm,key]
 .rw [jg4];simp only [jm]
 .intro i hi ih';have h5:=jA hi hl;have e1:=ih ts[i] (List.getElem_mem _);rw [jg4];simp only [jm,hi,Int.ofNat_lt,ja hi,ji,e1,h5,ih']
theorem jiB (t:T):JW t->G 80 [tm t,tm t]=some (vb true,[]):=by
 refine T.ind (p:=λt=>JW t->G 80 [tm t,tm t]=some (vb true,[])) ?_ t;intro t ih h;obtain ⟨w1,w2,w3⟩:=(kY t).1 h;have w3:=(j9 _).1 w3;have e1:=jgO t.args w2 λu hu=>ih u hu (w3 u hu);rw [g80];simp only [jm,e1]
theorem yA {l:List UInt8} {i:Nat} (h:i < l.length):jT (sv l) (vi i)=some (vy (l[i].toNat:Int)):=by
 show (if _ then _ else _)=_;rw [if_pos ⟨by omega,by simpa using h⟩];simp [List.getD_eq_getElem?_getD,h]
theorem kq {c:UInt8} {l:List UInt8} :jT (sv (c::l)) (vi 0)=some (vy (c.toNat:Int)):=yA (i:=0) (l:=c::l) (by simp)
def z7 (lo hi x:Int):Bool:=decide (lo<=x) && decide (x<=hi)
theorem yr (x a b:Int):G 19 [vi x,vi a,vi b]=some (vb (z7 a b x),[]):=by
 rw [g19];by_cases h:a<=x<;>simp only [jm,h,z7,Bool.true_and,Bool.false_and]
theorem Jw (x a b:Int):G 11 [vi x,vi a,vi b]=some (vb (z7 a b x),[]):=by
 rw [g11];by_cases h:a<=x<;>simp only [jm,h,z7,Bool.true_and,Bool.false_and]
def upc (c:UInt8):Bool:=z7 65 90 (c.toNat:Int)
def J9 (c:UInt8):Bool:=z7 97 122 (c.toNat:Int)
def jfn (c:UInt8):Bool:=z7 48 57 (c.toNat:Int)
def kL (c:UInt8):Bool:=J9 c || jfn c
theorem J7 (c:UInt8):G 93 [vy (c.toNat:Int)]=some (vb (upc c),[]):=by
 rw [g93];by_cases h:65<=(c.toNat:Int)<;>simp only [jm,h,upc,z7,Bool.true_and,Bool.false_and]
theorem J6 (c:UInt8):G 89 [vy (c.toNat:Int)]=some (vb (J9 c),[]):=by
 rw [g89];by_cases h:97<=(c.toNat:Int)<;>simp only [jm,h,J9,z7,Bool.true_and,Bool.false_and]
theorem Yy (c:UInt8):G 90 [vy (c.toNat:Int)]=some (vb (jfn c),[]):=by
 rw [g90];by_cases h:48<=(c.toNat:Int)<;>simp only [jm,h,jfn,z7,Bool.true_and,Bool.false_and]
theorem YI (c:UInt8):G 66 [vy (c.toNat:Int)]=some (vb (kL c),[]):=by
 rw [g66];by_cases h:97<=(c.toNat:Int)<;>by_cases h2:(c.toNat:Int)<=122<;>by_cases h3:48<=(c.toNat:Int)<;>simp only [jm,h,h2,h3,kL,J9,jfn,z7,Bool.true_and,Bool.false_and,Bool.or_true,Bool.or_false,Bool.true_or,Bool.false_or]
def jw:List UInt8->Bool
 | []=>false
 | c::r=>upc c && (r.all kL && decide (r.length<=3))
theorem Z2 (r:List UInt8) (k:Nat) (hk:k<=9):z7 1 (k+1:Nat) (((r.length+1:Nat)):Int)=decide (r.length<=k):=by
 unfold z7;have:decide ((1:Int)<=((r.length+1:Nat):Int))=true:=by simp;omega
 rw [this,Bool.true_and];by_cases h:r.length<=k<;>simp [h]<;>omega
theorem ZU (s:List UInt8) (hs:s.length<=9223372036854775807):∀i,i<=s.length->1<=i->jbC (sv s) (vi (s.length:Nat)) (vi i)=some (vb ((s.drop i).all kL && z7 1 4 (s.length:Nat)),[]):=by
 refine upto (P:=λi=>1<=i->jbC (sv s) (vi (s.length:Nat)) (vi i)=some (vb ((s.drop i).all kL && z7 1 4 (s.length:Nat)),[])) ?_ ?_
 .intro _;rw [jeP,List.drop_length];have e:=yr (s.length:Nat) 1 4;simp only [jm,e,Bool.true_and]
 .intro i hi ih h1;have ih:=ih (by omega);have hn:¬((i:Int)=0):=by omega
  have hp:(0:Int) < (i:Int):=by omega
  have hlt:(i:Int) < ((s.length:Nat):Int):=by omega
  have h5:=jA hi hs;have hx:=yA hi;have e1:=J6 s[i];have e2:=Yy s[i];rw [jeP,jB hi];generalize s[i]=ch at *;rw [List.all_cons];cases h8:J9 ch<;>cases h9:jfn ch<;>rw [h8] at e1<;>rw [h9] at e2<;>simp only [jm,hn,hp,hlt,hx,e1,e2,h5,ih,kL,h8,h9,Bool.true_and,Bool.false_and,Bool.or_true,Bool.or_false,Bool.true_or,Bool.false_or]
theorem QG (s:List UInt8) (hs:s.length<=9223372036854775807):G 86 [sv s]=some (vb (jw s),[]):=by
 rw [g86];show (KP (sv s)).bind _=_;rw [qY,Option.bind_some];cases s with
 | nil=>
  rw [jeP];have e:=yr ((0:Nat):Int) 1 4;simp only [jm,e];rfl
 | cons c r=>
  have key:=ZU (c::r) hs 1 (by simp) (Nat.le_refl _);simp only [List.drop_succ_cons,List.drop_zero] at key;have e':z7 1 4 (((c::r).length:Nat):Int)=decide (r.length<=3):=Z2 r 3 (by decide);rw [e'] at key;rw [jeP];have h5:js .add false (vi 0) (vi 1)=some (vi ((1:Nat):Int)):=by rw [y7,z6 (by decide) (by decide)];rfl
  have h6:(0:Int) < (((c::r).length:Nat):Int):=Int.natCast_pos.2 (Nat.succ_pos _);have e1:=J7 c;generalize ((((c::r).length:Nat)):Int)=n at *;cases hu:upc c<;>rw [hu] at e1<;>simp only [jm,h6,kq,e1,h5,key,jw,hu,Bool.true_and,Bool.false_and]
theorem jdD (s:List UInt8) (hs:s.length<=9223372036854775807):∀i,i<=s.length->QQ (sv s) (vi i)=some (vb ((s.drop i).all kL),[]):=by
 refine upto (P:=λi=>QQ (sv s) (vi i)=some (vb ((s.drop i).all kL),[])) ?_ ?_
 .rw [jka,List.drop_length];simp only [jm]
 .intro i hi ih;have hlt:(i:Int) < ((s.length:Nat):Int):=by omega
  have h5:=jA hi hs;have hx:=yA hi;have e1:=YI s[i];rw [jka,jB hi];generalize s[i]=ch at *;rw [List.all_cons];cases h8:kL ch<;>rw [h8] at e1<;>simp only [jm,hlt,hx,e1,h5,ih,h8,Bool.true_and,Bool.false_and]
theorem YJ (s:List UInt8) (hs:s.length<=9223372036854775807):G 65 [sv s]=some (vb (jw s),[]):=by
 rw [g65];show (KP (sv s)).bind _=_;rw [qY,Option.bind_some];cases s with
 | nil=>
  have e:=Jw ((0:Nat):Int) 1 4;simp only [jm,e];rfl
 | cons c r=>
  have e:=Jw (((c::r).length:Nat):Int) 1 4;have e':z7 1 4 (((c::r).length:Nat):Int)=decide (r.length<=3):=Z2 r 3 (by decide);rw [e'] at e;have key:=jdD (c::r) hs 1 (by simp);simp only [List.drop_succ_cons,List.drop_zero] at key;have key:QQ (sv (c::r)) (vi 1)=some (vb (r.all kL),[]):=key;generalize ((((c::r).length:Nat)):Int)=n at *;by_cases h3:r.length<=3
  .rw [decide_eq_true h3] at e;by_cases ha:(c.toNat:Int) < 65
   .have:¬(65<=(c.toNat:Int)):=by omega
    simp only [jm,e,kq,ha,jw,upc,z7,this,Bool.false_and]
   .have h65:65<=(c.toNat:Int):=by omega
    by_cases hb:90 < (c.toNat:Int)
    .have:¬((c.toNat:Int)<=90):=by omega
     simp only [jm,e,kq,ha,hb,jw,upc,z7,this,Bool.false_and,Bool.and_false]
    .have:(c.toNat:Int)<=90:=by omega
     simp only [jm,e,kq,ha,hb,jw,upc,z7,this,h65,key,h3,Bool.true_and,Bool.and_true]
  .rw [decide_eq_false h3] at e;simp only [jm,e,jw,h3,Bool.and_false]
def J1 (s:List UInt8):List (List UInt8)->Option Nat
 | []=>none
 | x::l=>if s=x then some 0 else (J1 s l).map (· + 1)
def JN (i:Nat):Option Nat->Int
 | none=> -1
 | some k=>((i+k:Nat):Int)
theorem ZA (s:List UInt8):∀l,(J1 s l).isSome=l.contains s
 | []=>rfl
 | x::l=>by
  simp only [J1,List.contains_cons];by_cases h:s=x
  .simp [h]
  .have:=ZA s l;simp [h,this]
theorem jaP (s:List UInt8) (l:List (List UInt8)):decide (0<=JN 0 (J1 s l))=l.contains s:=by
 rw [<-ZA];cases J1 s l<;>simp [JN]
theorem jdu {s x:List UInt8} {l:List (List UInt8)} {i:Nat} (h:¬s=x):JN (i+1) (J1 s l)=JN i (J1 s (x::l)):=by
 simp only [J1,h,if_false];cases J1 s l<;>simp [JN];omega
theorem jdy (l:List (List UInt8)) (s:List UInt8) (hl:l.length<=9223372036854775807):G 103 [strs l,sv s]=some (vi (JN 0 (J1 s l)),[]):=by
 have key:=upto (P:=λi=>jaF (strs l) (sv s) (vi (l.length:Nat)) (vi i)=some (vi (JN i (J1 s (l.drop i))),[])) (n:=l.length) ?_ ?_ 0 (Nat.zero_le _)
 .simp only [Int.natCast_zero,List.drop_zero] at key;rw [jnv];simp only [jm,key]
 .rw [jg6,List.drop_length];simp only [jm,J1,JN]
 .intro i hi ih;have hlt:(i:Int) < ((l.length:Nat):Int):=by omega
  have h5:=jA hi hl;rw [jg6,jB hi];by_cases h:s=l[i]
  .simp only [jm,hlt,ja hi,h,J1,JN,Nat.add_zero]
  .simp only [jm,hlt,ja hi,h,h5,ih,jdu h]
theorem QC (l:List (List UInt8)) (s:List UInt8) (hl:l.length<=9223372036854775807):G 91 [strs l,sv s]=some (vb (l.contains s),[]):=by
 have e:=jdy l s hl;rw [g91];simp only [jm,e,jaP]
def jcK:List (List UInt8):=[[116,114,117,101],[102,97,108,115,101],[116,114,117,116,104],[98,111,116,104],[101,105,116,104,101,114],[105,102],[97,108,108],[115,111,109,101]]
def jbr (c:UInt8):Bool:=kL c || decide ((c.toNat:Int)=95)
def zL:List UInt8->Bool
 | []=>false
 | c::r=>J9 c && (r.all jbr && (decide (r.length<=5) && !jcK.contains (c::r)))
theorem jik (a b:List UInt8):(a == b)=decide (a=b):=by by_cases h:a=b<;>simp [h]
theorem QF (s:List UInt8) (hs:s.length<=9223372036854775807):∀i,i<=s.length->1<=i->jbA (sv s) (vi (s.length:Nat)) (vi i)=some (vb ((s.drop i).all jbr && (z7 1 6 (s.length:Nat) && !jcK.contains s)),[]):=by
 refine upto (P:=λi=>1<=i->jbA (sv s) (vi (s.length:Nat)) (vi i)=some (vb ((s.drop i).all jbr && (z7 1 6 (s.length:Nat) && !jcK.contains s)),[])) ?_ ?_
 .intro _;rw [jeO,List.drop_length];have e:=yr (s.length:Nat) 1 6;have e2:=QC jcK s (by decide);have e3:G 92 []=some (strs jcK,[]):=g92;cases h:z7 1 6 (s.length:Nat)<;>rw [h] at e<;>simp only [jm,e,e2,e3,h,Bool.true_and,Bool.false_and,List.all_nil]
 .intro i hi ih h1;have ih:=ih (by omega);have hn:¬((i:Int)=0):=by omega
  have hlt:(i:Int) < ((s.length:Nat):Int):=by omega
  have h5:=jA hi hs;have hx:=yA hi;have e1:=J6 s[i];have e2:=Yy s[i];rw [jeO,jB hi];generalize s[i]=ch at *;rw [List.all_cons];cases h7:decide ((ch.toNat:Int)=95)<;>cases h8:J9 ch<;>cases h9:jfn ch<;>rw [h8] at e1<;>rw [h9] at e2<;>
   simp only [jm,hn,hlt,hx,e1,e2,h5,ih,jbr,kL,h7,h8,h9,Bool.true_and,Bool.false_and,Bool.or_true,Bool.or_false,Bool.true_or,Bool.false_or]
theorem ZD (s:List UInt8) (hs:s.length<=9223372036854775807):G 71 [sv s]=some (vb (zL s),[]):=by
 rw [g71];show (KP (sv s)).bind _=_;rw [qY,Option.bind_some];cases s with
 | nil=>
  rw [jeO];have e:G 19 [vi ((0:Nat):Int),vi 1,vi 6]=some (vb false,[]):=yr ((0:Nat):Int) 1 6;simp only [jm,e];rfl
 | cons c r=>
  have key:=QF (c::r) hs 1 (by simp) (Nat.le_refl _);simp only [List.drop_succ_cons,List.drop_zero] at key;have e':z7 1 6 (((c::r).length:Nat):Int)=decide (r.length<=5):=Z2 r 5 (by decide);rw [e'] at key;rw [jeO];have h5:js .add false (vi 0) (vi 1)=some (vi ((1:Nat):Int)):=by rw [y7,z6 (by decide) (by decide)];rfl
  have h6:(0:Int) < (((c::r).length:Nat):Int):=Int.natCast_pos.2 (Nat.succ_pos _);have e1:=J6 c;generalize ((((c::r).length:Nat)):Int)=n at *;cases hu:J9 c<;>rw [hu] at e1<;>simp only [jm,h6,kq,e1,h5,key,zL,hu,Bool.true_and,Bool.false_and]
theorem QH (s:List UInt8) (hs:s.length<=9223372036854775807):∀i,i<=s.length->yT (sv s) (vi i)=some (vb ((s.drop i).all jbr),[]):=by
 refine upto (P:=λi=>yT (sv s) (vi i)=some (vb ((s.drop i).all jbr),[])) ?_ ?_
 .rw [jj4,List.drop_length];simp only [jm]
 .intro i hi ih;have hlt:(i:Int) < ((s.length:Nat):Int):=by omega
  have h5:=jA hi hs;have hx:=yA hi;have e1:=YI s[i];rw [jj4,jB hi];generalize s[i]=ch at *;rw [List.all_cons];cases h7:decide ((ch.toNat:Int)=95)<;>cases h8:kL ch<;>rw [h8] at e1<;>simp only [jm,hlt,hx,e1,h5,ih,jbr,h7,h8,Bool.true_and,Bool.false_and,Bool.or_true,Bool.or_false,Bool.true_or,Bool.false_or]
theorem ZF (s:List UInt8) (hs:s.length<=9223372036854775807):G 44 [sv s]=some (vb (zL s),[]):=by
 rw [g44];show (KP (sv s)).bind _=_;rw [qY,Option.bind_some];cases s with
 | nil=>
  have e:G 11 [vi ((0:Nat):Int),vi 1,vi 6]=some (vb false,[]):=Jw ((0:Nat):Int) 1 6;simp only [jm,e];rfl
 | cons c r=>
  have e:=Jw (((c::r).length:Nat):Int) 1 6;have e':z7 1 6 (((c::r).length:Nat):Int)=decide (r.length<=5):=Z2 r 5 (by decide);rw [e'] at e;have key:=QH (c::r) hs 1 (by simp);simp only [List.drop_succ_cons,List.drop_zero] at key;have key:yT (sv (c::r)) (vi 1)=some (vb (r.all jbr),[]):=key;generalize ((((c::r).length:Nat)):Int)=n at *;have hres:jcK.contains (c::r)=(decide (c::r = [116,114,117,101]) || (decide (c::r = [102,97,108,115,101]) || (decide (c::r = [116,114,117,116,104]) || (decide (c::r = [98,111,116,104]) || (decide (c::r = [101,105,116,104,101,114]) || (decide (c::r = [105,102]) || (decide (c::r = [97,108,108]) || decide (c::r = [115,111,109,101])))))))):=by
   simp only [jcK,List.contains_cons,List.contains_nil,Bool.or_false,jik]
  by_cases h3:r.length<=5
  .rw [decide_eq_true h3] at e;by_cases ha:(c.toNat:Int) < 97
   .have:¬(97<=(c.toNat:Int)):=by omega
    simp only [jm,e,kq,ha,zL,J9,z7,this,Bool.false_and]
   .have h65:97<=(c.toNat:Int):=by omega
    by_cases hb:122 < (c.toNat:Int)
    .have:¬((c.toNat:Int)<=122):=by omega
     simp only [jm,e,kq,ha,hb,zL,J9,z7,this,Bool.false_and,Bool.and_false]
    .have h122:(c.toNat:Int)<=122:=by omega
     have e0:zL (c::r)=(r.all jbr && !jcK.contains (c::r)):=by
      simp [zL,J9,z7,h65,h122,h3]
     rw [e0,hres];have hx0:=kq (c:=c) (l:=r);clear hres e0;generalize c::r=s at *;cases q0:decide (s = [116,114,117,101]);rotate_left
     .simp only [jm,e,hx0,ha,hb,q0,Bool.true_or,Bool.false_or,Bool.and_false]
     cases q1:decide (s = [102,97,108,115,101]);rotate_left
     .simp only [jm,e,hx0,ha,hb,q0,q1,Bool.true_or,Bool.false_or,Bool.and_false]
     cases q2:decide (s = [116,114,117,116,104]);rotate_left
     .simp only [jm,e,hx0,ha,hb,q0,q1,q2,Bool.true_or,Bool.false_or,Bool.and_false]
     cases q3:decide (s = [98,111,116,104]);rotate_left
     .simp only [jm,e,hx0,ha,hb,q0,q1,q2,q3,Bool.true_or,Bool.false_or,Bool.and_false]
     cases q4:decide (s = [101,105,116,104,101,114]);rotate_left
     .simp only [jm,e,hx0,ha,hb,q0,q1,q2,q3,q4,Bool.true_or,Bool.false_or,Bool.and_false]
     cases q5:decide (s = [105,102]);rotate_left
     .simp only [jm,e,hx0,ha,hb,q0,q1,q2,q3,q4,q5,Bool.true_or,Bool.false_or,Bool.and_false]
     cases q6:decide (s = [97,108,108]);rotate_left
     .simp only [jm,e,hx0,ha,hb,q0,q1,q2,q3,q4,q5,q6,Bool.true_or,Bool.false_or,Bool.and_false]
     cases q7:decide (s = [115,111,109,101]);rotate_left
     .simp only [jm,e,hx0,ha,hb,q0,q1,q2,q3,q4,q5,q6,q7,Bool.true_or,Bool.false_or,Bool.and_false]
     simp only [jm,e,hx0,ha,hb,q0,q1,q2,q3,q4,q5,q6,q7,Bool.true_or,Bool.false_or,Bool.and_true,Bool.or_false,key]
  .rw [decide_eq_false h3] at e;simp only [jm,e,zL,h3,Bool.false_and,Bool.and_false]
mutual
def nodes:T->Nat
 | .mk _ us=>1+jv us
def jv:List T->Nat
 | []=>0
 | t::ts=>nodes t+jv ts
end
theorem jR (t:T):nodes t=1+jv t.args:=by cases t;rfl
mutual
def ZZ:T->Nat
 | .mk _ us=>1+J0 us
def J0:List T->Nat
 | []=>0
 | t::ts=>max (ZZ t) (J0 ts)
end
theorem jaM (t:T):ZZ t=1+J0 t.args:=by cases t;rfl
mutual
def zS:T->Bool
 | .mk n us=>if jw n then us.isEmpty else zL n && (decide (us.length<=4) && jcv us)
def jcv:List T->Bool
 | []=>true
 | t::ts=>zS t && jcv ts
end
theorem zU (t:T):zS t=if jw t.name then t.args.isEmpty else zL t.name && (decide (t.args.length<=4) && jcv t.args):=by cases t;rfl
theorem y5:∀ts,jcv ts=ts.all zS
 | []=>rfl
 | t::ts=>by rw [jcv,y5 ts,List.all_cons]
theorem KM:∀t:T,nodes t<=1+tsz t:=by
 refine T.ind λt ih=> ?_;have:∀ts:List T,(∀u∈ts,nodes u<=1+tsz u)->jv ts<=ts.length+zj ts:=by
  intro ts;induction ts with
  | nil=>intro _;simp [jv]
  | cons u us ih=>
   intro h;have h1:=h u (by simp);have h2:=ih λv hv=>h v (by simp [hv]);simp only [jv,zj,List.length_cons];omega
 have h:=this t.args ih;rw [jR,kh];omega
theorem jfD (t:T):1<=nodes t:=by rw [jR];omega
theorem Kc {ts:List T} {t:T} (h:t∈ts):nodes t<=jv ts:=by
 induction ts with
 | nil=>cases h
 | cons u us ih=>
  simp only [jv];rcases List.mem_cons.1 h with rfl|h
  .omega
  .have:=ih h;omega
theorem jgI:∀t:T,ZZ t<=nodes t:=by
 refine T.ind λt ih=> ?_;have:∀ts:List T,(∀u∈ts,ZZ u<=nodes u)->J0 ts<=jv ts:=by
  intro ts;induction ts with
  | nil=>intro _;simp [J0]
  | cons u us ih=>
   intro h;have h1:=h u (by simp);have h2:=ih λv hv=>h v (by simp [hv]);simp only [jv,J0];omega
 have h:=this t.args ih;rw [jR,jaM];omega
theorem jga (ts:List T) (hl:ts.length<=9223372036854775807) (hn:jv ts<=1048577) (ih:∀t∈ts,∃r:Nat,G 84 [tm t]=some (vi r,[])/\r<=nodes t/\(nodes t<=30->r=nodes t)/\(30 < nodes t->30 < r)) :
  ∀i,i<=ts.length-> ∀a:Nat,a+jv (ts.drop i)<=1048578-> ∃r:Nat,jen (vi a) (yG ts) (vi (ts.length:Nat)) (vi i)=some (vi r,[])/\r<=a+jv (ts.drop i)/\(a+jv (ts.drop i)<=30->r=a+jv (ts.drop i))/\(30 < a+jv (ts.drop i)->30 < r):=by
 refine upto ?_ ?_
 .intro a ha;rw [jg9,List.drop_length];simp only [jm,jv,Nat.add_zero];exact ⟨a,rfl,Nat.le_refl _,λ_=>rfl,λh=>h⟩
 .intro i hi ih' a ha;have hlt:(i:Int) < ((ts.length:Nat):Int):=by omega
  have h5:=jA hi hl;rw [jB hi] at ha ⊢;simp only [jv] at ha ⊢;obtain ⟨r1,e1,b1,b2,b3⟩:=ih ts[i] (List.getElem_mem _);by_cases hc:(30:Int) < (a:Int)
  .refine ⟨a,?_,by omega,by omega,by omega⟩;rw [jg9];simp only [jm,hlt,ja hi,ji,hc]
  .have hk:ck ((a:Int)+(r1:Int))=some (vi ((a+r1:Nat):Int)):=by rw [z6 (by omega) (by omega)];rfl
   obtain ⟨r2,e2,c1,c2,c3⟩:=ih' (a+r1) (by omega);refine ⟨r2,?_,by omega,by omega,by omega⟩;rw [jg9];simp only [jm,hlt,ja hi,ji,hc,e1,hk,h5,e2]
theorem size_eq:∀t:T,JW t->tsz t<=1048576-> ∃r:Nat,G 84 [tm t]=some (vi r,[])/\r<=nodes t/\(nodes t<=30->r=nodes t)/\(30 < nodes t->30 < r):=by
 refine T.ind λt ih hw hs=> ?_;obtain ⟨w1,w2,w3⟩:=(kY t).1 hw;have w3:=(j9 _).1 w3;have hn:=KM t;rw [jR] at hn;rw [kh] at hs;obtain ⟨r,h1,h2,h3,h4⟩:=jga t.args w2 (by rw [kh] at hn;omega) (λu hu=>ih u hu (w3 u hu) (by have:=zk hu;omega)) 0 (Nat.zero_le _) 1 (by rw [kh] at hn;simp;omega);simp only [List.drop_zero,Int.natCast_zero,Int.natCast_one] at h1 h2 h3 h4;refine ⟨r,?_,by rw [jR];exact h2,by rw [jR];exact h3,by rw [jR];exact h4⟩;rw [g84];simp only [jm,h1]
theorem jfA (n:List UInt8) (most:Int) (hm1: -1048600<=most) (hm:most<=1048576) (ts:List T) (hl:ts.length<=9223372036854775807) (ih:∀t∈ts,∀m:Int,-1048600<=m->m<=1048576-> ∃r:Nat,G 63 [tm t,vi m]=some (vi r,[])/\1<=r/\r<=nodes t/\((nodes t:Int)<=m->r=nodes t)/\(m < nodes t->m < r)) :
  ∀i,i<=ts.length-> ∀a:Nat,1<=a->a+jv (ts.drop i)<=1048578-> ∃r:Nat,jej (vi most) (vi a) (vi i) (sv n) (yG ts)=some (vi r,[])/\1<=r/\r<=a+jv (ts.drop i)/\(((a+jv (ts.drop i):Nat):Int)<=most->r=a+jv (ts.drop i))/\(most < ((a+jv (ts.drop i):Nat):Int)->most < r):=by
 refine upto ?_ ?_
 .intro a h1 ha;rw [jg8,List.drop_length];simp only [jm,jv,Nat.add_zero];exact ⟨a,rfl,h1,Nat.le_refl _,λ_=>rfl,λh=>h⟩
 .intro i hi ih' a h1 ha;have hlt:(i:Int) < ((ts.length:Nat):Int):=by omega
  have h5:=jA hi hl;rw [jB hi] at ha ⊢;simp only [jv] at ha ⊢;by_cases hc:(a:Int)<=most
  .obtain ⟨r1,e1,b0,b1,b2,b3⟩:=ih ts[i] (List.getElem_mem _) (most - a) (by omega) (by omega);have hk0:ck (most - (a:Int))=some (vi (most - a)):=z6 (by omega) (by omega);have hk:ck ((a:Int)+(r1:Int))=some (vi ((a+r1:Nat):Int)):=by rw [z6 (by omega) (by omega)];rfl
   obtain ⟨r2,e2,c0,c1,c2,c3⟩:=ih' (a+r1) (by omega) (by omega);refine ⟨r2,?_,by omega,by omega,by omega,by omega⟩;rw [jg8];simp only [jm,hlt,ja hi,ji,hc,hk0,e1,hk,h5,e2]
  .refine ⟨a,?_,h1,by omega,by omega,by omega⟩;rw [jg8];simp only [jm,hlt,hc]
theorem jiO:∀t:T,JW t->tsz t<=1048576-> ∀m:Int,-1048600<=m->m<=1048576-> ∃r:Nat,G 63 [tm t,vi m]=some (vi r,[])/\1<=r/\r<=nodes t/\((nodes t:Int)<=m->r=nodes t)/\(m < nodes t->m < r):=by
 refine T.ind λt ih hw hs m hm1 hm=> ?_;obtain ⟨w1,w2,w3⟩:=(kY t).1 hw;have w3:=(j9 _).1 w3;have hn:=KM t;rw [jR] at hn;obtain ⟨r,h1,h0,h2,h3,h4⟩:=jfA t.name m hm1 hm t.args w2 (λu hu m h1 h2=>ih u hu (w3 u hu) (by have:=zk hu;rw [kh] at hs;omega) m h1 h2) 0 (Nat.zero_le _) 1 (Nat.le_refl _) (by simp;omega);simp only [List.drop_zero,Int.natCast_zero,Int.natCast_one] at h1 h2 h3 h4;refine ⟨r,?_,h0,by rw [jR];exact h2,by rw [jR];exact h3,by rw [jR];exact h4⟩;rw [g63];simp only [jm,h1]
theorem jdq (ts:List T) (hl:ts.length<=9223372036854775807) (hn:jv ts<=1048577) (ih:∀t∈ts,G 85 [tm t]=some (vi (ZZ t:Nat),[])) :
  ∀i,i<=ts.length-> ∀a:Nat,a<=1048577->jeo (vi a) (yG ts) (vi (ts.length:Nat)) (vi i)=some (vi ((max a (J0 (ts.drop i))+1:Nat):Int),[]):=by
 refine upto ?_ ?_
 .intro a ha;have hk:ck ((a:Int)+1)=some (vi ((a+1:Nat):Int)):=by rw [z6 (by omega) (by omega)];rfl
  rw [jke,List.drop_length];simp only [jm,J0,hk,Nat.max_zero]
 .intro i hi ih' a ha;have hlt:(i:Int) < ((ts.length:Nat):Int):=by omega
  have h5:=jA hi hl;have e1:=ih ts[i] (List.getElem_mem _);have hd:ZZ ts[i]<=1048577:=Nat.le_trans (jgI _) (Nat.le_trans (Kc (List.getElem_mem hi)) hn);have hmx:(if (a:Int) < ((ZZ ts[i]:Nat):Int) then ((ZZ ts[i]:Nat):Int) else (a:Int))=((max a (ZZ ts[i]):Nat):Int):=by split<;>omega
  have ih':=ih' (max a (ZZ ts[i])) (by omega);rw [jke,jB hi];simp only [jm,hlt,ja hi,ji,e1,hmx,h5,ih',J0,Nat.max_assoc]
theorem jgJ:∀t:T,JW t->tsz t<=1048576->G 85 [tm t]=some (vi (ZZ t:Nat),[]):=by
 refine T.ind λt ih hw hs=> ?_;obtain ⟨w1,w2,w3⟩:=(kY t).1 hw;have w3:=(j9 _).1 w3;have hn:=KM t;rw [jR] at hn;have h1:=jdq t.args w2 (by omega) (λu hu=>ih u hu (w3 u hu) (by have:=zk hu;rw [kh] at hs;omega)) 0 (Nat.zero_le _) 0 (by omega);simp only [List.drop_zero,Int.natCast_zero,Nat.zero_max] at h1;rw [g85,jaM,Nat.add_comm];simp only [jm,h1]
theorem jiR (a b:Nat):G 82 [vi a,vi b]=some (vi ((max a b:Nat):Int),[]):=by
 rw [g82];by_cases h:(b:Int) < (a:Int)
 .simp only [jm,h];rw [Nat.max_eq_left (by omega)]
 .simp only [jm,h];rw [Nat.max_eq_right (by omega)]
theorem ja0 (n:List UInt8) (ts:List T) (hl:ts.length<=9223372036854775807) (hn:jv ts<=1048577) (ih:∀t∈ts,G 64 [tm t]=some (vi (ZZ t:Nat),[])) :
  ∀i,i<=ts.length-> ∀a:Nat,a<=1048577->jek (vi a) (vi i) (sv n) (yG ts)=some (vi ((max a (J0 (ts.drop i))+1:Nat):Int),[]):=by
 refine upto ?_ ?_
 .intro a ha;have hk:ck ((a:Int)+1)=some (vi ((a+1:Nat):Int)):=by rw [z6 (by omega) (by omega)];rfl
  rw [jj9,List.drop_length];simp only [jm,J0,hk,Nat.max_zero]
 .intro i hi ih' a ha;have hlt:(i:Int) < ((ts.length:Nat):Int):=by omega
  have h5:=jA hi hl;have e1:=ih ts[i] (List.getElem_mem _);have e2:=jiR a (ZZ ts[i]);have hd:ZZ ts[i]<=1048577:=Nat.le_trans (jgI _) (Nat.le_trans (Kc (List.getElem_mem hi)) hn);have ih':=ih' (max a (ZZ ts[i])) (by omega);rw [jj9,jB hi];simp only [jm,hlt,ja hi,ji,e1,e2,h5,ih',J0,Nat.max_assoc]
theorem jdC:∀t:T,JW t->tsz t<=1048576->G 64 [tm t]=some (vi (ZZ t:Nat),[]):=by
 refine T.ind λt ih hw hs=> ?_;obtain ⟨w1,w2,w3⟩:=(kY t).1 hw;have w3:=(j9 _).1 w3;have hn:=KM t;rw [jR] at hn;have h1:=ja0 t.name t.args w2 (by omega) (λu hu=>ih u hu (w3 u hu) (by have:=zk hu;rw [kh] at hs;omega)) 0 (Nat.zero_le _) 0 (by omega);simp only [List.drop_zero,Int.natCast_zero,Nat.zero_max] at h1;rw [g64,jaM,Nat.add_comm];simp only [jm,h1]
def j7 (t:T):Bool:=decide (nodes t<=30) && decide (ZZ t<=8)
def zZ (t:T):Bool:=j7 t && zS t
theorem Yz (t:T) (hw:JW t) (hs:tsz t<=1048576):G 69 [tm t]=some (vb (j7 t),[]):=by
 obtain ⟨r,h1,h2,h3,h4⟩:=size_eq t hw hs;have hd:=jgJ t hw hs;rw [g69];by_cases h:nodes t<=30
 .have:(r:Int)<=30:=by have:=h3 h;omega
  have e:decide (((ZZ t:Nat):Int)<=8)=decide (ZZ t<=8):=by congr 1;exact propext (by omega)
  simp only [jm,h1,hd,this,j7,h,e,Bool.true_and]
 .have:¬(r:Int)<=30:=by have:=h4 (by omega);omega
  simp only [jm,h1,this,j7,h,Bool.false_and]
theorem Q5 (t:T) (hw:JW t) (hs:tsz t<=1048576):G 42 [tm t]=some (vb (j7 t),[]):=by
 obtain ⟨r,h1,h0,h2,h3,h4⟩:=jiO t hw hs 30 (by decide) (by decide);have hd:=jdC t hw hs;rw [g42];by_cases h:nodes t<=30
 .have:(r:Int)<=30:=by have:=h3 (by omega);omega
  have e:decide (((ZZ t:Nat):Int)<=8)=decide (ZZ t<=8):=by congr 1;exact propext (by omega)
  simp only [jm,h1,hd,this,j7,h,e,Bool.true_and]
 .have:¬(r:Int)<=30:=by have:=h4 (by omega);omega
  simp only [jm,h1,this,j7,h,Bool.false_and]
theorem ZS {f:FuncId} {caps:List A} (hsig:K.pureF f=true) (p:T->Bool) (ts:List T) (hl:ts.length<=9223372036854775807) (h:∀t∈ts,G f (tm t::caps)=some (vb (p t),[])) :
  ∃r:Int,G 102 [yG ts,.fn f caps]=some (vi r,[])/\decide (0<=r)=ts.any p:=by
 have key:=upto (P:=λi=>∃r:Int,jaE (yG ts) (.fn f caps) (vi (ts.length:Nat)) (vi i)=some (vi r,[])/\decide (0<=r)=(ts.drop i).any p) (n:=ts.length) ?_ ?_ 0 (Nat.zero_le _)
 .obtain ⟨r,h1,h2⟩:=key;simp only [Int.natCast_zero,List.drop_zero] at h1 h2;refine ⟨r,?_,h2⟩;rw [jnu];simp only [jm,h1]
 .refine ⟨-1,?_,by simp⟩;rw [jg5];simp only [jm]
 .intro i hi ih;obtain ⟨r,h1,h2⟩:=ih;have hlt:(i:Int) < ((ts.length:Nat):Int):=by omega
  have h5:=jA hi hl;have e1:=h ts[i] (List.getElem_mem _);rw [jg5,jB hi,List.any_cons];cases hp:p ts[i]<;>rw [hp] at e1
  .refine ⟨r,?_,by rw [h2,Bool.false_or]⟩;simp only [jm,hlt,ja hi,ji,qO hsig,List.cons_append,List.nil_append,e1,h5,h1]
  .refine ⟨i,?_,by simp⟩;simp only [jm,hlt,ja hi,ji,qO hsig,List.cons_append,List.nil_append,e1]
theorem Ym {f:FuncId} {caps:List A} (hsig:K.pureF f=true) (p:T->Bool) (ts:List T) (hl:ts.length<=9223372036854775807) (h:∀t∈ts,G f (tm t::caps)=some (vb (p t),[])) :
  G 87 [yG ts,.fn f caps]=some (vb (ts.any p),[]):=by
 obtain ⟨r,h1,h2⟩:=ZS hsig p ts hl h;rw [g87];simp only [jm,h1,h2]
theorem jbF (p:T->Bool) (ts:List T):(ts.any λt=> !p t)=!ts.all p:=by
 induction ts with
 | nil=>rfl
 | cons t ts ih=>rw [List.any_cons,List.all_cons,ih];cases p t<;>rfl
theorem qT:∀t:T,JW t->G 70 [tm t]=some (vb (zS t),[]):=by
 refine T.ind λt ih hw=> ?_;obtain ⟨w1,w2,w3⟩:=(kY t).1 hw;have w3:=(j9 _).1 w3;have e1:=QG t.name w1;have e2:=ZD t.name w1;have e3:=Ym (f:=88) (caps:=[]) rfl (λu=> !zS u) t.args w2 (λu hu=>by
  have:=ih u hu (w3 u hu);rw [g88];simp only [jm,this])
 rw [jbF,<-y5] at e3;rw [g70,zU];have e4:decide (((t.args.length:Nat):Int)=0)=t.args.isEmpty:=by cases t.args<;>simp;omega
 have e5:decide (((t.args.length:Nat):Int)<=4)=decide (t.args.length<=4):=by congr 1;exact propext (by omega)
 cases hv:jw t.name<;>rw [hv] at e1
 .cases hy:zL t.name<;>rw [hy] at e2
  .simp only [jm,e1,e2,Bool.false_and]
  .cases ha:decide (t.args.length<=4)<;>rw [ha] at e5
   .simp only [jm,e1,e2,e5,Bool.false_and,Bool.true_and]
   .simp only [jm,e1,e2,e5,e3,Bool.true_and,Bool.not_not]
 .simp only [jm,e1,e4]
theorem J8:∀t:T,JW t->G 43 [tm t]=some (vb (zS t),[]):=by
 refine T.ind λt ih hw=> ?_;obtain ⟨w1,w2,w3⟩:=(kY t).1 hw;have w3:=(j9 _).1 w3;have e1:=YJ t.name w1;have e2:=ZF t.name w1;have key:=upto (P:=λi=>jeg (vi i) (sv t.name) (yG t.args)=some (vb (jcv (t.args.drop i)),[])) (n:=t.args.length) ?_ ?_ 0 (Nat.zero_le _)
 .simp only [Int.natCast_zero,List.drop_zero] at key;rw [g43,zU];have e4:decide (((t.args.length:Nat):Int)=0)=t.args.isEmpty:=by cases t.args<;>simp;omega
  cases hv:jw t.name<;>rw [hv] at e1
  .cases hy:zL t.name<;>rw [hy] at e2
   .simp only [jm,e1,e2,Bool.false_and]
   .by_cases ha:4 < ((t.args.length:Nat):Int)
    .have:¬t.args.length<=4:=by omega
     simp only [jm,e1,e2,ha,this,Bool.false_and,Bool.and_false]
    .have:t.args.length<=4:=by omega
     simp only [jm,e1,e2,ha,this,key,Bool.true_and]
  .simp only [jm,e1,e4]
 .rw [jj3,List.drop_length];simp only [jm,jcv]
 .intro i hi ih';have hlt:(i:Int) < ((t.args.length:Nat):Int):=by omega
  have h5:=jA hi w2;have e3:=ih t.args[i] (List.getElem_mem _) (w3 _ (List.getElem_mem _));rw [jj3,jB hi,jcv];cases hp:zS t.args[i]<;>rw [hp] at e3
  .simp only [jm,hlt,ja hi,ji,e3,Bool.false_and]
  .simp only [jm,hlt,ja hi,ji,e3,h5,ih',Bool.true_and]
theorem YB (t:T) (hw:JW t) (hs:tsz t<=1048576):G 72 [tm t]=some (vb (zZ t),[]):=by
 have e1:=Yz t hw hs;have e2:=qT t hw;rw [g72,zZ];cases h:j7 t<;>rw [h] at e1<;>simp only [jm,e1,e2,Bool.true_and,Bool.false_and]
theorem jfs (t:T) (hw:JW t) (hs:tsz t<=1048576):G 45 [tm t]=some (vb (zZ t),[]):=by
 have e1:=Q5 t hw hs;have e2:=J8 t hw;rw [g45,zZ];cases h:j7 t<;>rw [h] at e1<;>simp only [jm,e1,e2,Bool.true_and,Bool.false_and]
def jnq (o:Ord') (i:Nat):Bool:=zL (o.syms.getD i []) && (!(o.syms.take i).contains (o.syms.getD i []) && z7 o.var 100 (o.ws.getD i 0))
def jd5 (o:Ord'):Bool:=z7 1 12 (o.syms.length:Nat) && (decide (o.ws.length=o.syms.length) && (z7 1 100 o.var && (List.range o.syms.length).all (jnq o)))
mutual
def jiv (l:List (List UInt8)):T->Bool
 | .mk n us=>(jw n || l.contains n) && jjO l us
def jjO (l:List (List UInt8)):List T->Bool
 | []=>true
 | t::ts=>jiv l t && jjO l ts
end
theorem yy {t:T} (h:zS t=true):∀u∈t.args,zS u=true:=by
 rw [zU] at h;intro u hu;split at h
 .rw [List.isEmpty_iff.1 h] at hu;cases hu
 .simp only [Bool.and_eq_true] at h;rw [y5] at h;exact List.all_eq_true.1 h.2.2 u hu
theorem jhj {t:T} (h:zS t=true):∃c r,t.name=c::r/\jw t.name=upc c/\(upc c=false->zL t.name=true):=by
 rw [zU] at h;cases hn:t.name with
 | nil=>rw [hn] at h;simp [jw,zL] at h
 | cons c r=>
  refine ⟨c,r,rfl,?_,?_⟩
  .rw [hn] at h;cases hu:upc c with
   | false=>simp [jw,hu]
   | true=>
    cases hv:jw (c::r) with
    | true=>rfl
    | false=>
     rw [hv] at h;have:J9 c=false:=by
      simp only [upc,z7,J9,Bool.and_eq_true,decide_eq_true_eq] at hu ⊢;have:¬(97<=(c.toNat:Int)):=by omega
      simp [this]
     simp [zL,this] at h
  .intro hu;rw [hn] at h;have:jw (c::r)=false:=by simp [jw,hu]
   rw [this] at h;simp at h;exact h.1
theorem jgY (t:T) (h:zS t=true):G 73 [tm t]=some (vb (jw t.name),[]):=by
 obtain ⟨c,r,hn,hv,_⟩:=jhj h;have e1:=J7 c;rw [<-hv] at e1;rw [g73];have hx:jT (sv t.name) (vi 0)=some (vy (c.toNat:Int)):=by rw [hn];exact kq
 simp only [jm,hx,e1]
def jb3 (o:Ord') (t:T):Bool:=zZ t && jiv o.syms t
def jnO (o:Ord') (n:List UInt8):Int:=match J1 n o.syms with|some k=>o.ws.getD k 0|none=>0
mutual
def wt (o:Ord'):T->Int
 | .mk n us=>(if jw n then o.var else jnO o n)+wtL o us
def wtL (o:Ord'):List T->Int
 | []=>0
 | t::ts=>wt o t+wtL o ts
end
def jlw (o:Ord') (t:T):A:=if jd5 o && jb3 o t then .tup [vi (wt o t),vb true] else .tup [vi 0,vb false]
noncomputable def dq {α:Type} (a b:α):Bool:=@decide (a=b) (Classical.propDecidable _)
theorem jiy {α:Type} {a b:α} :dq a b=true↔a=b:=by unfold dq;exact @decide_eq_true_iff _ (Classical.propDecidable _)
theorem jix {α:Type} (a:α):dq a a=true:=jiy.2 rfl
def rk (o:Ord') (t:T):Int:=JN 0 (J1 t.name o.syms)
def jl3 (a b:Int):Int:=if a < b then -1 else if b < a then 1 else 0
def je3 (o:Ord') (s t:T):Int:=if rk o s=rk o t then jl3 (s.args.length:Nat) (t.args.length:Nat) else jl3 (rk o s) (rk o t)
noncomputable def fd:List T->List T->Option (T × T)
 | a::l,b::r=>if dq a b=true then fd l r else some (a,b)
 | _,_=>none
def zT:A:= .agg [sv [],.sl 2 []]
noncomputable def fdR (s t:T):A:=match fd s.args t.args with|some (a,b)=> .tup [tm a,tm b,vb true]|none=> .tup [zT,zT,vb false]
noncomputable def jfw (o:Ord'):Nat->T->T->Bool
 | 0,_,_=>false
 | n+1,s,t=>if jw s.name then false else if (s.args.any λa=>dq a t || jfw o n a t) then true else if jw t.name then false
   else if (t.args.any λb=> !jfw o n s b) then false else if 0 < je3 o s t then true else if je3 o s t < 0 then false
   else match fd s.args t.args with|some (a,b)=>jfw o n a b|none=>false
def jjM (e g l:Bool):Int:=if e then 1 else if g then 2 else if l then 3 else 0
noncomputable def jkM (o:Ord') (s t:T):Int:=jjM (dq s t) (jfw o (nodes s+nodes t) s t) (jfw o (nodes s+nodes t) t s)
noncomputable def jkO (o:Ord') (s t:T):A:=if jd5 o && (jb3 o s && jb3 o t) then .tup [vi (jkM o s t),vb true] else .tup [vi 0,vb false]
theorem jha {left:Int} {n:Nat} (h0:0<=left) (h1:left<=1048576) (h:¬jy left (n:Int) < 0):0<=jy left (n:Int)/\jy left (n:Int)<=1048576/\n<=1048576:=by
 unfold jy at h ⊢;split at h
 .rename_i hc;rw [if_pos hc];omega
 .exact absurd jeS h
mutual
def Qs:T->List (List UInt8)
 | .mk n us=>if jw n then [n] else Qt us
def Qt:List T->List (List UInt8)
 | []=>[]
 | t::ts=>Qs t++Qt ts
end
def jm6 (l:List (List UInt8)) (vs:List (List UInt8)) (k:Nat) (r:List (List UInt8)):Prop:=(∀n,n∈r↔n∈l\/n∈vs)/\r.length<=l.length+k
mutual
def cnt (n:List UInt8):T->Nat
 | .mk m us=>(if m=n then 1 else 0)+jl5 n us
def jl5 (n:List UInt8):List T->Nat
 | []=>0
 | t::ts=>cnt n t+jl5 n ts
end
def bal (s t:T):Bool:=(Qs t).all λn=>decide (cnt n t<=cnt n s)
noncomputable def jiK (o:Ord'):Nat->T->T->Bool
 | 0,_,_=>false
 | n+1,s,t=>if bal s t then (if wt o s=wt o t then (if jw s.name || jw t.name then false else if je3 o s t=0 then (match fd s.args t.args with|some (a,b)=>jiK o n a b|none=>false) else decide (0 < je3 o s t)) else decide (wt o t < wt o s)) else false
noncomputable def jkL (o:Ord') (s t:T):Int:=jjM (dq s t) (jiK o (nodes s+nodes t) s t) (jiK o (nodes s+nodes t) t s)
noncomputable def jkN (o:Ord') (s t:T):A:=if jd5 o && (jb3 o s && jb3 o t) then .tup [vi (jkL o s t),vb true] else .tup [vi 0,vb false]
def zf (t:T):T:=t.args.getD 0 (.mk [] [])
def zP (t:T):T:=t.args.getD 1 (.mk [] [])
def jbW (t:T):Bool:=decide (t.args.length=2) && (j7 t && (zS (zf t) && zS (zP t)))
theorem K7 {t:T} (hl:t.args.length=2):jk 2 (yG t.args) (vi 0)=some (.elt (jI (zf t)) 0)/\jk 2 (yG t.args) (vi 1)=some (.elt (jI (zP t)) 0)/\zf t∈t.args/\zP t∈t.args:=by
 have e0:zf t=t.args[0]:=by unfold zf;simp [List.getD_eq_getElem?_getD,hl]
 have e1:zP t=t.args[1]:=by unfold zP;simp [List.getD_eq_getElem?_getD,hl]
 rw [e0,e1];exact ⟨ja (i:=0) (by omega),ja (i:=1) (by omega),List.getElem_mem _,List.getElem_mem _⟩
theorem jdB (t:T) (hw:JW t) (hs:tsz t<=1048576) (he:t.name = [61]):G 28 [tm t]=some (vb (jbW t),[]):=by
 obtain ⟨w1,w2,w3⟩:=(kY t).1 hw;have w3:=(j9 _).1 w3;have het:(t.name = [61])=True:=eq_true he;unfold jbW;rw [g28];by_cases hl:t.args.length=2;rotate_left
 .have hl':¬((t.args.length:Nat):Int)=2:=by omega
  simp only [jm,het,hl',hl,Bool.false_and]
 have hl':((t.args.length:Nat):Int)=2:=by omega
 rw [decide_eq_true hl,Bool.true_and];obtain ⟨i0,i1,ma,mb⟩:=K7 hl;have p1:=Q5 t hw hs;have p2:=J8 _ (w3 _ ma);have p3:=J8 _ (w3 _ mb);cases h1:j7 t<;>rw [h1] at p1
 .simp only [jm,het,hl',p1,Bool.false_and,Bool.and_false]
 .cases h2:zS (zf t)<;>rw [h2] at p2
  .simp only [jm,het,hl',p1,i0,ji,p2,Bool.false_and,Bool.and_false]
  .simp only [jm,het,hl',p1,i0,i1,ji,p2,p3,Bool.true_and]
theorem kO (t:T):G 60 [tm t]=some (vb (decide (t.name = [61])),[]):=by
 rw [g60];simp only [jm]
theorem ZT (t:T) (hw:JW t) (hs:tsz t<=1048576) (he:t.name = [61]):G 50 [tm t]=some (vb (jbW t),[]):=by
 obtain ⟨w1,w2,w3⟩:=(kY t).1 hw;have w3:=(j9 _).1 w3;have q0:=kO t;rw [decide_eq_true he] at q0;unfold jbW;rw [g50];by_cases hl:t.args.length=2;rotate_left
 .have hl':¬((t.args.length:Nat):Int)=2:=by omega
  simp only [jm,q0,hl',hl,Bool.false_and]
 have hl':((t.args.length:Nat):Int)=2:=by omega
 rw [decide_eq_true hl,Bool.true_and];obtain ⟨i0,i1,ma,mb⟩:=K7 hl;have p1:=Yz t hw hs;have p2:=qT _ (w3 _ ma);have p3:=qT _ (w3 _ mb);cases h1:j7 t<;>rw [h1] at p1
 .simp only [jm,q0,hl',p1,Bool.false_and,Bool.and_false]
 .cases h2:zS (zf t)<;>rw [h2] at p2
  .simp only [jm,q0,hl',p1,i0,ji,p2,Bool.false_and,Bool.and_false]
  .simp only [jm,q0,hl',p1,i0,i1,ji,p2,p3,Bool.true_and]
def jou (o:Ord') (t:T):Bool:=decide (t.name = [61]) && (jbW t && (jiv o.syms (zf t) && jiv o.syms (zP t)))
theorem jlB:∀t:T,tsz t<=1048576->JW t:=by
 refine T.ind λt ih h=> ?_;have h':=h;rw [kh] at h';exact (kY t).2 ⟨by omega,by omega,(j9 _).2 λu hu=>ih u hu (by have:=zk hu;omega)⟩
def Lp (o:Ord') (s t:T):Prop:=jfw o (nodes s+nodes t) s t=true
def Kp (o:Ord') (s t:T):Prop:=jiK o (nodes s+nodes t) s t=true
def rbI (c:Int):Int:=if c=2 then 3 else if c=3 then 2 else c
open Classical in
open Classical in
def look:List (List UInt8 × T)->List UInt8->Option T
 | [],_=>none
 | p::u,n=>if p.1=n then some p.2 else look u n
def jhZ (u:List (List UInt8 × T)) (n:List UInt8):T:=(look u n).getD (.mk n [])
mutual
def sub (u:List (List UInt8 × T)):T->T
 | .mk n us=>if jw n then jhZ u n else .mk n (jge u us)
def jge (u:List (List UInt8 × T)):List T->List T
 | []=>[]
 | t::ts=>sub u t::jge u ts
end
theorem jc0 (u:List (List UInt8 × T)):∀ts:List T,jge u ts=ts.map (sub u)
 | []=>rfl
 | t::ts=>by rw [jge,jc0 u ts,List.map_cons]
theorem jjt {u:List (List UInt8 × T)} {t:T} (h:jw t.name=true):sub u t=jhZ u t.name:=by
 obtain ⟨n,us⟩:=t;have h:jw n=true:=h;show (if jw n then jhZ u n else T.mk n (jge u us))=_;rw [if_pos h];rfl
theorem jbp {u:List (List UInt8 × T)} {t:T} (h:jw t.name=false):sub u t = .mk t.name (t.args.map (sub u)):=by
 obtain ⟨n,us⟩:=t;have h:jw n=false:=h;show (if jw n then jhZ u n else T.mk n (jge u us))=_;rw [h,if_neg Bool.false_ne_true,jc0];rfl
theorem Qp {u:List (List UInt8 × T)} {t:T} (h:jw t.name=false):(sub u t).name=t.name:=by rw [jbp h];rfl
theorem jc1 {u:List (List UInt8 × T)} {t:T} (h:jw t.name=false):(sub u t).args=t.args.map (sub u):=by rw [jbp h];rfl
theorem jh8 {t:T} (h:zS t=true) (hv:jw t.name=true):t.args = []:=by
 rw [zU,hv,if_pos rfl] at h;exact List.isEmpty_iff.1 h
def jnN (f:List UInt8->Int):List (List UInt8)->Int
 | []=>0
 | x::l=>f x+jnN f l
abbrev bc (p:List UInt8 × T):List A:=[sv p.1,sv p.2.name,.sl 2 (p.2.args.map jI)]
abbrev sbs (u:List (List UInt8 × T)):A:= .sl 3 (u.map bc)
abbrev sb (u:List (List UInt8 × T)):A:= .agg [sbs u]
def Sz (z:Nat) (u:List (List UInt8 × T)):Prop:=u.length<=z/\ ∀p∈u,p.1.length<=z/\tsz p.2<=z
abbrev kr:=List (List UInt8 × T)
mutual
noncomputable def mt (m:kr) (p:T) (t:T):Option kr:=
 match p with
 | .mk n us=>if jw n then (match look m n with|some r=>if dq r t then some m else none|none=>some (m++[(n,t)]))
   else if n=t.name/\us.length=t.args.length then mtL m us t.args else none
termination_by structural p
noncomputable def mtL (m:kr) (ps:List T) (ts:List T):Option kr:=
 match ps with
 | []=>some m
 | u::us=>(match ts with | []=>some m|t::ts=>(mt m u t).bind λm'=>mtL m' us ts)
termination_by structural ps
end
theorem jeR:∀ {u:kr} {n:List UInt8} {r:T},look u n=some r->(n,r)∈u
 | p::u,n,r,h=>by
  rw [look] at h;by_cases e:p.1=n
  .rw [if_pos e] at h;cases h;rw [<-e];simp
  .rw [if_neg e] at h;exact List.mem_cons_of_mem _ (jeR h)
def MOk (p:T->Prop) (m:kr):Prop:=(m.map Prod.fst).Nodup/\(∀q∈m,jw q.1=true/\p q.2)
theorem MOk.nil (p:T->Prop):MOk p []:=⟨by simp,λq h=>by cases h⟩
def jnJ (s:kr) (n:List UInt8) (t:T):kr:=s.takeWhile (λp=>y9 p.1 n)++(n,t)::s.dropWhile (λp=>y9 p.1 n)
def jnI (s:kr) (n:List UInt8) (t:T):kr:=if t.name=n then s else jnJ s n t
def jll (m:kr):kr:=m.foldl (λs p=>jnI s p.1 p.2) []
theorem je6 (a:List UInt8):y9 a a=false:=by
 unfold y9;cases h:Op.bytesLess a a with
 | false=>rfl
 | true=>
  exfalso;induction a with
  | nil=>simp [Op.bytesLess] at h
  | cons c r ih=>simp [Op.bytesLess] at h;exact ih h
theorem jhi (n:List UInt8) (h:jw n=true):zS (.mk n [])=true:=by rw [zU];show (if jw n then _ else _)=true;rw [if_pos h];rfl
theorem jbq {u:kr} (hu:∀q∈u,zS q.2=true):∀t:T,zS t=true->zS (sub u t)=true:=by
 refine T.ind λt ih hk=> ?_;cases hv:jw t.name with
 | true=>
  rw [jjt hv,jhZ];cases h:look u t.name with
  | none=>exact jhi _ hv
  | some r=>exact hu _ (jeR h)
 | false=>
  have hk':=hk;rw [zU,hv,if_neg Bool.false_ne_true,Bool.and_eq_true,Bool.and_eq_true,y5] at hk;rw [zU,Qp hv,hv,if_neg Bool.false_ne_true,jc1 hv,Bool.and_eq_true,Bool.and_eq_true,y5];refine ⟨hk.1,by simpa using hk.2.1,?_⟩;rw [List.all_map,List.all_eq_true];intro a ha;exact ih a ha (List.all_eq_true.1 hk.2.2 a ha)
def jiM (r:T):T:=r.args.getD 0 (.mk [] [])
def jjf (r:T):T:=r.args.getD 1 (.mk [] [])
noncomputable def jhQ:List T->T->Option T
 | [],_=>none
 | r::rs,t=>(match mt [] (jiM r) t with|some m=>some (sub m (jjf r))|none=>jhQ rs t)
mutual
noncomputable def jmp (rs:List T) (root:Bool):T->Option T
 | .mk n us=>(match jkk rs us with|some us'=>some (.mk n us')|none=>if root then jhQ rs (.mk n us) else none)
noncomputable def jkk (rs:List T):List T->Option (List T)
 | []=>none
 | t::ts=>(match jmp rs true t with|some t'=>some (t'::ts)|none=>(jkk rs ts).map (t::·))
end
def atT:List Nat->T->T
 | [],t=>t
 | i::p,t=>atT p (t.args.getD i (.mk [] []))
def jku (s:T):List Nat->T->T
 | [],_=>s
 | i::p,t=> .mk t.name (t.args.set i (jku s p (t.args.getD i (.mk [] []))))
mutual
def jcB:T->List (List Nat)
 | .mk _ us=>Y7 0 us++[[]]
def Y7 (i:Nat):List T->List (List Nat)
 | []=>[]
 | t::ts=>(jcB t).map (i::·)++Y7 (i+1) ts
end
noncomputable def jnM (rs:List T) (root:Bool) (t:T) (p:List Nat):Option T:=if p = []/\root=false then none else (jhQ rs (atT p t)).map λs=>jku s p t
def jig (rs:List T):Prop:=∀r∈rs,zS (jiM r)=true/\zS (jjf r)=true
noncomputable def rwN (rs:List T) (root:Bool):Nat->Nat->T->Option (T × Nat)
 | 0,_,_=>none
 | k+1,n,t=>(match jmp rs root t with
  | none=>some (t,n)
  | some u=>if k=0\/j7 u=false then none else rwN rs root k (n+1) u)
def MR (o:Option Out) (r:Option kr):Prop:=match r with
 | some m'=>o=some (.top,[vb true,.sl 259 (m'.map bc)])
 | none=>∃R,o=some (.top,[vb false,.sl 259 R])
def Tz (t:T):Prop:=tsz t<=1048576
theorem Tz.args {t:T} (h:Tz t):∀u∈t.args,Tz u:=λu hu=>by
 have:=zk hu;unfold Tz at h ⊢;rw [kh] at h;omega
theorem Tz.wf {t:T} (h:Tz t):JW t:=jlB t h
abbrev kv (p:List UInt8 × T):List A:=[sv p.1,tm p.2]
def MI (o:Option Out) (r:Option kr):Prop:=match r with
 | some m'=>o=some (.top,[vb true,.sl 128 (m'.map kv)])
 | none=>∃R,o=some (.top,[vb false,.sl 128 R])
abbrev pln (p:List Nat):A:= .sl 1 (p.map λn=>[vi (n:Nat)])
abbrev plc (p:List Nat):List A:=[pln p]
mutual
theorem jfV:∀t:T,(jcB t).length=nodes t
 | .mk n us=>by
  rw [jcB,nodes,List.length_append,jaf us 0];simp;omega
theorem jaf:∀(us:List T) (i:Nat),(Y7 i us).length=jv us
 | [],i=>rfl
 | t::ts,i=>by
  rw [Y7,jv,List.length_append,List.length_map,jfV t,jaf ts (i+1)]
end
def okP:List Nat->T->Prop
 | [],_=>True
 | i::p,t=>i < t.args.length/\okP p (t.args.getD i (.mk [] []))
theorem jeC {ts:List T} {i:Nat} (h:i < ts.length):ts.getD i (.mk [] [])=ts[i]:=by rw [List.getD_eq_getElem?_getD,List.getElem?_eq_getElem h];rfl
mutual
theorem jhH:∀(t:T),∀p∈jcB t,okP p t/\p.length<=nodes t
 | .mk n us=>λp hp=>by
  rw [jcB,List.mem_append] at hp;rcases hp with hp|hp
  .obtain ⟨j,q,rfl,h1,h2,h3⟩:=jcA us 0 p hp;refine ⟨?_,?_⟩
   .show (0+j) < us.length/\okP q (us.getD (0+j) _);rw [Nat.zero_add];exact ⟨h1,h2⟩
   .rw [List.length_cons,nodes];omega
  .rw [List.mem_singleton] at hp;subst hp;exact ⟨trivial,by simp⟩
theorem jcA:∀(us:List T) (i:Nat),∀p∈Y7 i us,∃j q,p=(i+j)::q/\j < us.length/\okP q (us.getD j (.mk [] []))/\q.length<=jv us
 | [],i,p,hp=>by rw [Y7] at hp;cases hp
 | t::ts,i,p,hp=>by
  rw [Y7,List.mem_append] at hp;rcases hp with hp|hp
  .obtain ⟨q,hq,rfl⟩:=List.mem_map.1 hp;obtain ⟨h1,h2⟩:=jhH t q hq;exact ⟨0,q,rfl,by simp,h1,by rw [jv];omega⟩
  .obtain ⟨j,q,rfl,h1,h2,h3⟩:=jcA ts (i+1) p hp;exact ⟨j+1,q,by rw [show i+1+j=i+(j+1) by omega],by simpa using h1,by simpa using h2,by rw [jv];omega⟩
end
theorem jeU {q:T->Prop} (hq:∀t,q t-> ∀u∈t.args,q u):∀ {p:List Nat} {t:T},okP p t->q t->q (atT p t)
 | [],_,_,h=>h
 | i::p,t,hp,h=>by
  obtain ⟨h1,h2⟩:=hp;refine jeU (p:=p) hq h2 ?_;rw [jeC h1];exact hq t h _ (List.getElem_mem _)
theorem jh7 {n:List UInt8} (h:jw n=true):n.length<=4:=by
 cases n with
 | nil=>simp
 | cons c r=>
  simp only [jw,Bool.and_eq_true,decide_eq_true_eq] at h;rw [List.length_cons];omega
theorem jgf {n:List UInt8} (h:zL n=true):n.length<=6:=by
 cases n with
 | nil=>simp
 | cons c r=>
  simp only [zL,Bool.and_eq_true,decide_eq_true_eq] at h;rw [List.length_cons];omega
theorem jdI:∀t:T,zS t=true->tsz t<=10 * nodes t:=by
 refine T.ind λt ih hk=> ?_;have hL:∀us:List T,(∀u∈us,tsz u<=10 * nodes u)->zj us<=10 * jv us:=by
  intro us;induction us with
  | nil=>intro _;simp [zj]
  | cons u us ih2=>
   intro h;have:=h u (by simp);have:=ih2 λw hw=>h w (by simp [hw]);simp only [zj,jv];omega
 have h1:=hL t.args λu hu=>ih u hu (yy hk u hu);rw [kh,jR];rw [zU] at hk;cases hv:jw t.name with
 | true=>
  rw [hv,if_pos rfl] at hk;have:=jh7 hv;rw [List.isEmpty_iff.1 hk] at h1 ⊢;simp only [List.length_nil,zj] at h1 ⊢;omega
 | false=>
  rw [hv,if_neg Bool.false_ne_true,Bool.and_eq_true,Bool.and_eq_true,decide_eq_true_eq] at hk;have:=jgf hk.1;omega
theorem jfC {t u:T} (h:u∈t.args):nodes u < nodes t:=by
 have:=Kc h;have:=jR t;omega
def Vs (t:T):Prop:=zS t=true/\nodes t<=30
theorem Vs.args {t:T} (h:Vs t):∀u∈t.args,Vs u:=λu hu=>⟨yy h.1 u hu,by have:=jfC hu;have:=h.2;omega⟩
theorem Vs.tz {t:T} (h:Vs t):Tz t:=by
 have:=jdI t h.1;have:=h.2;unfold Tz;omega
def RS (rs:List T):Prop:=rs.length<=10/\ ∀r∈rs,r.args.length=2/\Vs (jiM r)/\Vs (jjf r)
theorem RS.ok {rs:List T} (h:RS rs):jig rs:=λr hr=>⟨(h.2 r hr).2.1.1,(h.2 r hr).2.2.1⟩
def EX (root:Bool) (t:T):Prop:=(nodes t<=31/\Tz t)/\(∀u∈t.args,Vs u)/\(root=true->Vs t)
def jpp (t:T) (o:Option T):Option Out:=match o with|some u=>some (.tup [tm u,vb true],[])|none=>some (.tup [tm t,vb false],[])
theorem EX.at {root:Bool} {t:T} (h:EX root t) {p:List Nat} (hp:okP p t) (hne:¬(p = []/\root=false)):Vs (atT p t):=by
 obtain ⟨_,h1,h2⟩:=h;cases p with
 | nil=>
  cases root
  .exact absurd ⟨rfl,rfl⟩ hne
  .exact h2 rfl
 | cons i p=>
  obtain ⟨a,b⟩:=hp;refine jeU (p:=p) (q:=Vs) (λ_ h=>h.args) b ?_;rw [jeC a];exact h1 _ (List.getElem_mem _)
def jmq (o:Option T):Option Out:=match o with|some u=>some (.tup [tm u,vb true],[])|none=>some (.tup [.agg [sv [],.sl 2 []],vb false],[])
def Srt (l:List (List UInt8)):Prop:=l.Pairwise λx y=>x < y
theorem jbm (x y:List UInt8):y9 x y=decide (x < y):=Go.Proofs.bytesLess_eq x y
mutual
def jmM:T->List (List UInt8)
 | .mk n us=>(if jw n then [] else [n])++jh2 us
def jh2:List T->List (List UInt8)
 | []=>[]
 | t::ts=>jmM t++jh2 ts
end
theorem jd2 {n:List UInt8} (h:jw n=true):zL n=false:=by
 cases n with
 | nil=>rfl
 | cons c r=>
  simp only [jw,Bool.and_eq_true,upc,z7,decide_eq_true_eq] at h;have:J9 c=false:=by unfold J9 z7;rw [Bool.and_eq_false_iff];left;rw [decide_eq_false_iff_not];omega
  simp [zL,this]
def jnV (l vs:List (List UInt8)) (k:Nat) (r:List (List UInt8)):Prop:=jm6 l vs k r/\(l.Nodup->r.Nodup)
def jpy (r:List (List UInt8)):Ord':=⟨r,List.replicate r.length 1,1⟩
def EX' (root:Bool) (t:T):Prop:=EX root t/\(root=false->t.name = [61]/\t.args.length=2)
theorem jiX {us:List T} (h:∀u∈us,zS u=true):zj us<=10 * jv us:=by
 induction us with
 | nil=>simp [zj]
 | cons u us ih=>
  have:=jdI u (h u (by simp));have:=ih λw hw=>h w (by simp [hw]);simp only [zj,jv];omega
def jpo (o:Option (T × Nat)):Option Out:=match o with|some r=>some (.tup [tm r.1,vi (r.2:Nat),vb true],[])|none=>some (.tup [.agg [sv [],.sl 2 []],vi 0,vb false],[])
structure Law3 {α:Type} (c:α->α->Int):Prop where
 zero:∀a b,c a b=0↔a=b
 flip:∀a b,c b a = -(c a b)
 trans:∀a b d,c a b < 0->c b d < 0->c a d < 0
section
variable {α:Type} {c:α->α->Int}
def Asc (c:α->α->Int) (l:List α):Prop:=l.Pairwise λa b=>c a b < 0
def jl6 (eq:α->α->Bool):List α->List α
 | []=>[]
 | a::l=>(match jl6 eq l with | []=>[a]|b::m=>if eq a b then b::m else a::b::m)
theorem JV {p:α->Bool} :∀ {l:List α} {a:α},a∈l.takeWhile p->p a=true
 | x::l,a,h=>by
  by_cases hx:p x=true
  .rw [List.takeWhile_cons_of_pos hx] at h;rcases List.mem_cons.1 h with e|e
   .rw [e];exact hx
   .exact JV e
  .rw [List.takeWhile_cons_of_neg hx] at h;cases h
def QE (c:α->α->Int) (l:List α) (x:α):List α:=if (l.dropWhile λa=>decide (c a x < 0)).head?.any (λb=>decide (c b x=0)) then l else l.takeWhile (λa=>decide (c a x < 0))++x::l.dropWhile λa=>decide (c a x < 0)
theorem jgV (h:Law3 c) {l:List α} (hl:Asc c l) (x:α):Asc c (QE c l x)/\ ∀y,y∈QE c l x↔y∈l\/y=x:=by
 have e:=List.takeWhile_append_dropWhile (p:=λa=>decide (c a x < 0)) (l:=l);have ht:∀a∈l.takeWhile (λa=>decide (c a x < 0)),c a x < 0:=λa ha=>of_decide_eq_true (JV (p:=λa=>decide (c a x < 0)) ha);unfold QE;generalize l.takeWhile (λa=>decide (c a x < 0))=t at *;cases hd:l.dropWhile (λa=>decide (c a x < 0)) with
 | nil=>
  rw [hd,List.append_nil] at e;subst e;rw [if_neg (by simp)];refine ⟨?_,λy=>by simp⟩;refine List.pairwise_append.2 ⟨hl,by simp,λa ha b hb=> ?_⟩;simp only [List.mem_singleton] at hb;rw [hb];exact ht a ha
 | cons b m=>
  have hb:¬c b x < 0:=by
   intro hb;have:=List.head?_dropWhile_not (p:=λa=>decide (c a x < 0)) l;rw [hd] at this;simp [hb] at this
  rw [hd] at e;by_cases h0:c b x=0
  .rw [if_pos (by simp [h0])];refine ⟨hl,λy=>⟨Or.inl,λhy=> ?_⟩⟩;rcases hy with hy|hy
   .exact hy
   .rw [hy,<-(h.zero b x).1 h0,<-e];simp
  .rw [if_neg (by simp [h0])];rw [<-e] at hl;obtain ⟨p1,p2,p3⟩:=List.pairwise_append.1 hl;have hxb:c x b < 0:=by have:=h.flip b x;omega
   refine ⟨List.pairwise_append.2 ⟨p1,List.pairwise_cons.2 ⟨λy hy=> ?_,p2⟩,λa ha y hy=> ?_⟩,λy=> ?_⟩
   .rcases List.mem_cons.1 hy with e'|e'
    .rw [e'];exact hxb
    .exact h.trans x b y hxb ((List.pairwise_cons.1 p2).1 y e')
   .rcases List.mem_cons.1 hy with e'|e'
    .rw [e'];exact ht a ha
    .exact p3 a ha y e'
   .rw [<-e];simp only [List.mem_append,List.mem_cons];constructor
    .rintro (h|h|h|h)
     .exact Or.inl (Or.inl h)
     .exact Or.inr h
     .exact Or.inl (Or.inr (Or.inl h))
     .exact Or.inl (Or.inr (Or.inr h))
    .rintro ((h|h|h)|h)
     .exact Or.inl h
     .exact Or.inr (Or.inr (Or.inl h))
     .exact Or.inr (Or.inr (Or.inr h))
     .exact Or.inr (Or.inl h)
def JS (c:α->α->Int) (l:List α):List α:=l.foldl (QE c) []
theorem jfx (h:Law3 c) (l:List α):Asc c (JS c l)/\ ∀y,y∈JS c l↔y∈l:=by
 have key:∀(l m:List α),Asc c m->Asc c (l.foldl (QE c) m)/\ ∀y,y∈l.foldl (QE c) m↔y∈m\/y∈l:=by
  intro l;induction l with
  | nil=>intro m hm;exact ⟨hm,λy=>by simp⟩
  | cons x l ih=>
   intro m hm;obtain ⟨g1,g2⟩:=jgV h hm x;obtain ⟨k1,k2⟩:=ih _ g1;refine ⟨k1,λy=> ?_⟩;rw [List.foldl_cons,k2,g2,List.mem_cons,or_assoc]
 obtain ⟨g1,g2⟩:=key l [] List.Pairwise.nil;exact ⟨g1,λy=>by rw [JS,g2];simp⟩
end
theorem jk3 {α β γ:Type} {f:γ->α} {g:γ->β} {c:α->α->Int} {d:β->β->Int} (hc:Law3 c) (hd:Law3 d) (hi:∀x y,f x=f y->g x=g y->x=y):Law3 λx y:γ=>if c (f x) (f y)≠0 then c (f x) (f y) else d (g x) (g y):=by
 refine ⟨λa b=> ?_,λa b=> ?_,λa b e=> ?_⟩
 .show (if c (f a) (f b)≠0 then c (f a) (f b) else d (g a) (g b))=0↔_;by_cases h:c (f a) (f b)=0
  .rw [if_neg (λh'=>h' h),hd.zero];exact ⟨λh2=>hi a b ((hc.zero _ _).1 h) h2,λh2=>by rw [h2]⟩
  .rw [if_pos h];exact ⟨λh2=>absurd h2 h,λh2=>by rw [h2] at h;exact absurd ((hc.zero _ _).2 rfl) h⟩
 .show (if c (f b) (f a)≠0 then c (f b) (f a) else d (g b) (g a)) = -(if c (f a) (f b)≠0 then c (f a) (f b) else d (g a) (g b));rw [hc.flip (f a) (f b),hd.flip (g a) (g b)];by_cases h:c (f a) (f b)=0
  .rw [if_neg (by omega),if_neg (by omega)]
  .rw [if_pos (by omega),if_pos (by omega)]
 .show (if c (f a) (f b)≠0 then c (f a) (f b) else d (g a) (g b)) < 0->(if c (f b) (f e)≠0 then c (f b) (f e) else d (g b) (g e)) < 0->(if c (f a) (f e)≠0 then c (f a) (f e) else d (g a) (g e)) < 0;by_cases h1:c (f a) (f b)=0
  .have e1:=(hc.zero _ _).1 h1;rw [if_neg (λh'=>h' h1),e1];by_cases h2:c (f b) (f e)=0
   .rw [if_neg (λh'=>h' h2),if_neg (λh'=>h' h2)];exact hd.trans _ _ _
   .rw [if_pos h2,if_pos h2];exact λ_ h=>h
  .rw [if_pos h1];by_cases h2:c (f b) (f e)=0
   .have e2:=(hc.zero _ _).1 h2;rw [if_neg (λh'=>h' h2),<-e2,if_pos h1];exact λh _=>h
   .rw [if_pos h2];intro h3 h4;have:=hc.trans _ _ _ h3 h4;rw [if_pos (by omega)];exact this
def jN (x y:List UInt8):Int:=if y9 x y then -1 else if x=y then 0 else 1
theorem yW:Law3 jN:=by
 have irr:=je6;have asy:∀x y,y9 x y=true->y9 y x=true->False:=λx y h1 h2=>by
  rw [jbm,decide_eq_true_eq] at h1 h2;exact absurd (List.lt_trans h1 h2) (List.lt_irrefl _)
 have tot:∀x y,x=y\/y9 x y=true\/y9 y x=true:=λx y=>by
  rw [jbm,jbm,decide_eq_true_eq,decide_eq_true_eq];rcases Classical.em (x < y) with h|h
  .exact Or.inr (Or.inl h)
  rcases Classical.em (y < x) with h'|h'
  .exact Or.inr (Or.inr h')
  .exact Or.inl (List.le_antisymm (List.not_lt.1 h') (List.not_lt.1 h))
 have tr:∀x y z,y9 x y=true->y9 y z=true->y9 x z=true:=λx y z h1 h2=>by
  rw [jbm,decide_eq_true_eq] at *;exact List.lt_trans h1 h2
 have neg:∀x y,jN x y < 0↔y9 x y=true:=λx y=>by
  unfold jN;cases h:y9 x y with
  | true=>simp
  | false=>
   rw [if_neg Bool.false_ne_true];split<;>simp
 refine ⟨λa b=> ?_,λa b=> ?_,λa b d h1 h2=>(neg _ _).2 (tr _ _ _ ((neg _ _).1 h1) ((neg _ _).1 h2))⟩
 .unfold jN;cases h:y9 a b with
  | true=>rw [if_pos rfl];exact ⟨λh'=>by omega,λe=>by rw [e,irr] at h;cases h⟩
  | false=>
   rw [if_neg Bool.false_ne_true];by_cases e:a=b
   .rw [if_pos e];exact ⟨λ_=>e,λ_=>rfl⟩
   .rw [if_neg e];exact ⟨λh'=>by omega,λh'=>absurd h' e⟩
 .unfold jN;rcases tot a b with e|e|e
  .subst e;rw [irr,if_neg Bool.false_ne_true,if_pos rfl];rfl
  .have h2:y9 b a=false:=by
    cases h:y9 b a with
    | false=>rfl
    | true=>exact (asy _ _ e h).elim
   have hne:¬b=a:=λh=>by rw [h,irr] at e;cases e
   rw [e,h2,if_neg Bool.false_ne_true,if_neg hne,if_pos rfl];rfl
  .have h2:y9 a b=false:=by
    cases h:y9 a b with
    | false=>rfl
    | true=>exact (asy _ _ e h).elim
   have hne:¬a=b:=λh=>by rw [h,irr] at e;cases e
   rw [e,h2,if_neg Bool.false_ne_true,if_neg hne,if_pos rfl]
def jG (x y:Nat):Int:=if x < y then -1 else if y < x then 1 else 0
theorem qQ:Law3 jG:=by
 refine ⟨λa b=> ?_,λa b=> ?_,λa b d=> ?_⟩<;>unfold jG
 .split
  .omega
  .split<;>omega
 .split<;>split<;>(try split)<;>omega
 .intro h1 h2;by_cases h:a < b
  .by_cases h3:b < d
   .rw [if_pos (by omega)];omega
   .rw [if_neg h3] at h2;split at h2<;>omega
  .rw [if_neg h] at h1;split at h1<;>omega
def vF (n:List UInt8):Nat:=if jw n then 0 else 1
abbrev Key:=Nat × (List UInt8 × Nat)
def cK (x y:Key):Int:=if jG x.1 y.1≠0 then jG x.1 y.1 else if jN x.2.1 y.2.1≠0 then jN x.2.1 y.2.1 else jG x.2.2 y.2.2
theorem qN:Law3 cK:=by
 have h2:Law3 λx y:List UInt8 × Nat=>if jN x.1 y.1≠0 then jN x.1 y.1 else jG x.2 y.2:=jk3 (f:=Prod.fst) (g:=Prod.snd) yW qQ λx y h1 h2=>Prod.ext h1 h2;exact jk3 (f:=Prod.fst) (g:=Prod.snd) qQ h2 λx y h1 h2=>Prod.ext h1 h2
def zR (t:T):Key:=(vF t.name,(t.name,t.args.length))
mutual
def km (a b:T):Int:=
 match a with
 | .mk n us=>if cK (zR (.mk n us)) (zR b)≠0 then cK (zR (.mk n us)) (zR b) else jY us b.args
termination_by structural a
def jY (xs bs:List T):Int:=
 match xs with
 | []=>0
 | a::xs=>(match bs with | []=>0|b::bs=>if km a b≠0 then km a b else jY xs bs)
termination_by structural xs
end
theorem Jr (a b:T):km a b=if cK (zR a) (zR b)≠0 then cK (zR a) (zR b) else jY a.args b.args:=by cases a;rfl
theorem jaY {a b:T} (h:zR a=zR b):a.name=b.name/\a.args.length=b.args.length:=by
 unfold zR at h;simp only [Prod.mk.injEq] at h;exact h.2
theorem jlP {a b:T} (h1:a.name=b.name) (h2:a.args=b.args):a=b:=by
 cases a;cases b;simp only [T.name,T.args] at h1 h2;rw [h1,h2]
theorem jkv:∀ {xs bs:List T},(∀u∈xs,∀v,km u v=0↔u=v)->xs.length=bs.length->(jY xs bs=0↔xs=bs)
 | [],[],_,_=>by simp [jY]
 | [],_::_,_,h=>by cases h
 | _::_,[],_,h=>by cases h
 | a::xs,b::bs,h,hl=>by
  rw [jY];have ih:=jkv (xs:=xs) (bs:=bs) (λu hu=>h u (by simp [hu])) (Nat.succ.inj hl);by_cases h0:km a b=0
  .rw [if_neg (λh'=>h' h0),ih,(h a (by simp) b).1 h0];simp
  .rw [if_pos h0];exact ⟨λh'=>absurd h' h0,λe=>by rw [List.cons.injEq] at e;exact (h a (by simp) b).2 e.1⟩
theorem jjP:∀ {xs bs:List T},(∀u∈xs,∀v,km v u = -(km u v))->xs.length=bs.length->jY bs xs = -(jY xs bs)
 | [],[],_,_=>by simp [jY]
 | [],_::_,_,h=>by cases h
 | _::_,[],_,h=>by cases h
 | a::xs,b::bs,h,hl=>by
  rw [jY,jY,h a (by simp) b,jjP (xs:=xs) (bs:=bs) (λu hu=>h u (by simp [hu])) (Nat.succ.inj hl)];by_cases h0:km a b=0
  .rw [if_neg (by omega),if_neg (by omega)]
  .rw [if_pos (by omega),if_pos (by omega)]
theorem jh5 (z:∀u v:T,km u v=0↔u=v):∀ {xs bs ds:List T},(∀u∈xs,∀v w,km u v < 0->km v w < 0->km u w < 0)->xs.length=bs.length->bs.length=ds.length->jY xs bs < 0->jY bs ds < 0->jY xs ds < 0
 | [],_,_,_,_,_,h1,_=>by simp [jY] at h1
 | a::xs,[],_,_,h,_,_,_=>by cases h
 | a::xs,b::bs,[],_,_,h,_,_=>by cases h
 | a::xs,b::bs,d::ds,h,hl,hl2,h1,h2=>by
  rw [jY] at h1 h2 ⊢;by_cases c1:km a b=0
  .have e1:=(z a b).1 c1;rw [if_neg (λh'=>h' c1)] at h1;rw [e1];by_cases c2:km b d=0
   .rw [if_neg (λh'=>h' c2)] at h2;rw [if_neg (λh'=>h' c2)];exact jh5 z (λu hu=>h u (by simp [hu])) (Nat.succ.inj hl) (Nat.succ.inj hl2) h1 h2
   .rw [if_pos c2] at h2;rw [if_pos c2];exact h2
  .rw [if_pos c1] at h1;by_cases c2:km b d=0
   .rw [<-(z b d).1 c2,if_pos c1];exact h1
   .rw [if_pos c2] at h2;have:=h a (by simp) b d h1 h2;rw [if_pos (by omega)];exact this
theorem jgG:Law3 km:=by
 have z:∀a b:T,km a b=0↔a=b:=by
  refine T.ind λa ih b=> ?_;rw [Jr];by_cases h:cK (zR a) (zR b)=0
  .have hk:=(qN.zero _ _).1 h;obtain ⟨h1,h2⟩:=jaY hk;rw [if_neg (λh'=>h' h),jkv ih h2];exact ⟨λe=>jlP h1 e,λe=>by rw [e]⟩
  .rw [if_pos h];exact ⟨λh'=>absurd h' h,λe=>by rw [e] at h;exact absurd ((qN.zero _ _).2 rfl) h⟩
 refine ⟨z,?_,?_⟩
 .refine T.ind λa ih b=> ?_;rw [Jr,Jr a b,qN.flip (zR a) (zR b)];by_cases h:cK (zR a) (zR b)=0
  .obtain ⟨_,h2⟩:=jaY ((qN.zero _ _).1 h);rw [if_neg (by omega),if_neg (by omega),jjP ih h2]
  .rw [if_pos (by omega),if_pos (by omega)]
 .refine T.ind λa ih b d h1 h2=> ?_;rw [Jr] at h1 h2 ⊢;by_cases c1:cK (zR a) (zR b)=0
  .have e1:=(qN.zero _ _).1 c1;rw [if_neg (λh'=>h' c1)] at h1;rw [e1];by_cases c2:cK (zR b) (zR d)=0
   .have e2:=(qN.zero _ _).1 c2;rw [if_neg (λh'=>h' c2)] at h2;rw [if_neg (λh'=>h' c2)];exact jh5 z ih (jaY e1).2 (jaY e2).2 h1 h2
   .rw [if_pos c2] at h2;rw [if_pos c2];exact h2
  .rw [if_pos c1] at h1;by_cases c2:cK (zR b) (zR d)=0
   .rw [<-(qN.zero _ _).1 c2,if_pos c1];exact h1
   .rw [if_pos c2] at h2;have:=qN.trans _ _ _ h1 h2;rw [if_pos (by omega)];exact this
def upN:List UInt8->Bool
 | []=>false
 | c::_=>upc c
mutual
def val (M:List UInt8->List Int->Int) (e:List UInt8->Int):T->Int
 | .mk n us=>if us.isEmpty && upN n then e n else M n (jmP M e us)
def jmP (M:List UInt8->List Int->Int) (e:List UInt8->Int):List T->List Int
 | []=>[]
 | t::ts=>val M e t::jmP M e ts
end
section
variable {M:List UInt8->List Int->Int}
def Ext (m m':kr):Prop:=∀x r,look m x=some r->look m' x=some r
theorem Ext.refl (m:kr):Ext m m:=λ_ _ h=>h
theorem Ext.trans {a b c:kr} (h:Ext a b) (h':Ext b c):Ext a c:=λx r hx=>h' x r (h x r hx)
variable {jb3:Int->Prop}
def jnY (M:List UInt8->List Int->Int) (jb3:Int->Prop) (rs:List T):Prop:=∀r∈rs,∀e:List UInt8->Int,(∀x,jb3 (e x))->val M e (jiM r)=val M e (jjf r)
end
def dec (n:Nat):Nat->Nat->List Nat
 | 0,_=>[]
 | l+1,k=>k % n::dec n l (k / n)
def enc (n:Nat):List Nat->Nat
 | []=>0
 | v::vs=>v+n * enc n vs
def vnA (l:List (List UInt8)) (n:List UInt8):List (List UInt8):=if l.contains n then l else l++[n]
mutual
def vn (l:List (List UInt8)):T->List (List UInt8)
 | .mk n us=>if us.isEmpty && upN n then vnA l n else vnL l us
def vnL (l:List (List UInt8)):List T->List (List UInt8)
 | []=>l
 | t::ts=>vnL (vn l t) ts
end
def VIn (S:List (List UInt8)) (t:T):Prop:=∀x∈Qs t,x∈S
abbrev Lt:=Bool × T
def fl (b:Bool):Nat:=if b then 1 else 0
def cmpL (a b:Lt):Int:=if km a.2 b.2≠0 then km a.2 b.2 else jG (fl a.1) (fl b.1)
theorem jbQ:Law3 cmpL:=jk3 (f:=Prod.snd) (g:=λl:Lt=>fl l.1) jgG qQ λx y h1 h2=>by
 obtain ⟨p,t⟩:=x;obtain ⟨q,u⟩:=y;have h1:t=u:=h1;have h2:fl p=fl q:=h2;subst h1;cases p<;>cases q<;>first|rfl|(simp [fl] at h2)
abbrev zm:=List Lt
def jbI:zm->Bool
 | a::b::l=>decide (cmpL a b < 0) && jbI (b::l)
 | _=>true
theorem jbJ:∀c:zm,jbI c=true↔Asc cmpL c
 | []=>by simp [jbI,Asc]
 | [a]=>by simp [jbI,Asc]
 | a::b::l=>by
  rw [jbI,Bool.and_eq_true,decide_eq_true_eq,jbJ (b::l)];unfold Asc;constructor
  .rintro ⟨h1,h2⟩;refine List.pairwise_cons.2 ⟨λx hx=> ?_,h2⟩;rcases List.mem_cons.1 hx with e|e
   .rw [e];exact h1
   .exact jbQ.trans a b x h1 ((List.pairwise_cons.1 h2).1 x e)
  .intro h;exact ⟨(List.pairwise_cons.1 h).1 b (by simp),(List.pairwise_cons.1 h).2⟩
mutual
def YX (l:List (List UInt8)):T->List (List UInt8)
 | .mk n us=>if jw n then vnA l n else YV l us
def YV (l:List (List UInt8)):List T->List (List UInt8)
 | []=>l
 | t::ts=>YV (YX l t) ts
end
theorem ji0 (l:List (List UInt8)) (t:T):YX l t=if jw t.name then vnA l t.name else YV l t.args:=by cases t;rfl
def qj (c:zm):List (List UInt8):=c.foldl (λl x=>YX l x.2) []
def jk6 (p:UInt8) (i:Nat):List UInt8:=p::Lib.decDigits i
def jeI (c:zm):Bool:=decide (qj c=(List.range (qj c).length).map (jk6 88))
mutual
def qB (f:List UInt8->List UInt8):T->T
 | .mk n us=>if jw n then .mk (f n) [] else .mk n (zV f us)
def zV (f:List UInt8->List UInt8):List T->List T
 | []=>[]
 | t::ts=>qB f t::zV f ts
end
theorem jcH (f:List UInt8->List UInt8):∀ts:List T,zV f ts=ts.map (qB f)
 | []=>rfl
 | t::ts=>by rw [zV,jcH f ts,List.map_cons]
theorem jbi (f:List UInt8->List UInt8) (t:T):qB f t=if jw t.name then .mk (f t.name) [] else .mk t.name (t.args.map (qB f)):=by
 cases t;rw [qB,jcH];rfl
def Yj (p:UInt8) (l:List (List UInt8)) (n:List UInt8):List UInt8:=match l.findIdx? (λx=>decide (x=n)) with|some i=>jk6 p i|none=>n
def renC (p:UInt8) (c:zm):zm:=JS cmpL (c.map λl=>(l.1,qB (Yj p (qj c)) l.2))
def normF:Nat->zm->zm
 | 0,c=>c
 | k+1,c=>if jeI c then c else normF k (renC 88 c)
def normC (c:zm):zm:=normF 10 c
theorem QZ (t:T) (h:zS t=true\/t.name = [61]):G 73 [tm t]=some (vb (jw t.name),[]):=by
 rcases h with h|h
 .exact jgY t h
 .have e1:=J7 61;have hx:jT (sv t.name) (vi 0)=some (vy ((61:UInt8).toNat:Int)):=by rw [h];exact kq
  have hv:jw t.name=upc 61:=by rw [h];decide
  rw [g73,hv];simp only [jm,hx,e1]
theorem qf (x y:List UInt8):jN x y=if y9 x y then -1 else if y9 y x then 1 else 0:=by
 have hf:=yW.flip x y;cases h1:y9 x y with
 | true=>unfold jN;rw [h1];rfl
 | false=>
  rw [if_neg Bool.false_ne_true];cases h2:y9 y x with
  | true=>
   have:jN y x = -1:=by unfold jN;rw [h2,if_pos rfl]
   rw [if_pos rfl];omega
  | false=>
   rw [if_neg Bool.false_ne_true];have a1:jN x y=0\/jN x y=1:=by
    unfold jN;rw [h1,if_neg Bool.false_ne_true];split<;>simp
   have a2:jN y x=0\/jN y x=1:=by
    unfold jN;rw [h2,if_neg Bool.false_ne_true];split<;>simp
   omega
theorem jaa (b:Bool) (x y:List UInt8):js .gtr b (sv x) (sv y)=some (vb (y9 y x)):=by
 show some (vb (!(y9 x y || decide (x=y))))=_;by_cases e:x=y
 .subst e;rw [je6,decide_eq_true rfl];rfl
 have h1:=qf x y;have h3:=yW.flip x y;have h4:=qf y x;rw [decide_eq_false e,Bool.or_false];cases a:y9 x y<;>cases c:y9 y x<;>rw [a,c] at h1 h4
 .exact absurd ((yW.zero x y).1 h1) e
 .rfl
 .rfl
 .have h1:jN x y = -1:=h1;have h4:jN y x = -1:=h4;omega
theorem jbR (x y:List UInt8):G 74 [sv x,sv y]=some (vi (jN x y),[]):=by
 have n1:G 94 [sv x]=some (vb false,[]):=by rw [g94];simp only [jm]
 have n2:G 94 [sv y]=some (vb false,[]):=by rw [g94];simp only [jm]
 rw [g74,qf];cases h1:y9 x y<;>cases h2:y9 y x<;>simp only [jm,n1,n2,jaa,h1,h2]
theorem Zx (x y:Nat):G 53 [vi (x:Nat),vi (y:Nat)]=some (vi (jG x y),[]):=by
 have n1:G 76 [vi (x:Nat)]=some (vb false,[]):=by rw [g76];simp only [jm]
 have n2:G 76 [vi (y:Nat)]=some (vb false,[]):=by rw [g76];simp only [jm]
 rw [g53];unfold jG;by_cases h1:x < y
 .have h1':((x:Nat):Int) < ((y:Nat):Int):=by omega
  rw [if_pos h1];simp only [jm,n1,n2,h1']
 .have h1':¬((x:Nat):Int) < ((y:Nat):Int):=by omega
  rw [if_neg h1];by_cases h2:y < x
  .have h2':((y:Nat):Int) < ((x:Nat):Int):=by omega
   rw [if_pos h2];simp only [jm,n1,n2,h1',h2']
  .have h2':¬((y:Nat):Int) < ((x:Nat):Int):=by omega
   rw [if_neg h2];simp only [jm,n1,n2,h1',h2']
theorem jhm (a b:Int):G 51 [.sl 1 [[vi a],[vi b]]]=some (vi (if a≠0 then a else b),[]):=by
 have i0:jk 1 (.sl 1 [[vi a],[vi b]]) (vi 0)=some (.elt [vi a] 0):=rfl;have i1:jk 1 (.sl 1 [[vi a],[vi b]]) (vi 1)=some (.elt [vi b] 0):=rfl;have ll:KO (.sl 1 [[vi a],[vi b]])=some (vi 2):=rfl;have c0:js .add false (vi 0) (vi 1)=some (vi 1):=by rw [y7,z6 (by decide) (by decide)];rfl
 have c1:js .add false (vi 1) (vi 1)=some (vi 2):=by rw [y7,z6 (by decide) (by decide)];rfl
 have z0:(0:Int) < 2:=by decide
 have z1:(1:Int) < 2:=by decide
 have z2:¬(2:Int) < 2:=by decide
 generalize A.sl 1 [[vi a],[vi b]]=X at *;have k2:jbz (vi 0) X (vi 2) (vi 2)=some (vi 0,[]):=by rw [jg7];simp only [jm,z2]
 have k1:jbz (vi 0) X (vi 2) (vi 1)=some (vi b,[]):=by
  rw [jg7];by_cases hb:b=0
  .simp only [jm,z1,i1,hb,c1,k2]
  .simp only [jm,z1,i1,hb]
 rw [g51];simp only [cev];rw [ll,Option.bind_some,jg7];by_cases ha:a=0
 .rw [if_neg (λh=>h ha)];simp only [jm,z0,i0,ha,c0,k1]
 .rw [if_pos ha];simp only [jm,z0,i0,ha]
def Rx' (t:T):Prop:=zS t=true\/(t.name = [61]/\ ∀u∈t.args,zS u=true)
theorem Rx'.args {t:T} (h:Rx' t):∀u∈t.args,Rx' u:=λu hu=>Or.inl (by
 rcases h with h|h
 .exact yy h u hu
 .exact h.2 u hu)
theorem Za (ts us:List T) (hl:ts.length<=1048576) (hlen:ts.length=us.length) (ih:∀t∈ts,∀u∈us,G 52 [tm t,tm u]=some (vi (km t u),[])) :
  ∀i,i<=ts.length->jel (yG ts) (yG us) (.fn 52 []) (yG ts) (vi (ts.length:Nat)) (vi (i:Nat))=some (vi (jY (ts.drop i) (us.drop i)),[]):=by
 refine upto ?_ ?_
 .rw [jkb,List.drop_length,jY];simp only [jm,hlen]
 .intro i hi ih';have hlt:(i:Int) < ((ts.length:Nat):Int):=by omega
  have hi2:i < us.length:=by omega
  have hge:¬((us.length:Nat):Int)<=(i:Int):=by omega
  have h5:=jA hi (by show ts.length<=9223372036854775807;omega)
  have e1:=ih ts[i] (List.getElem_mem _) us[i] (List.getElem_mem _);rw [jkb,jB hi,jB hi2,jY];by_cases hc:km ts[i] us[i]=0
  .rw [if_neg (λh=>h hc)];rw [hc] at e1;simp only [jm,hlt,ja hi,ja hi2,ji,hge,qO (f:=52) rfl,List.append_nil,e1,h5,ih']
  .rw [if_pos hc];generalize km ts[i] us[i]=c at *;simp only [jm,hlt,ja hi,ja hi2,ji,hge,qO (f:=52) rfl,List.append_nil,e1,hc]
theorem ZP:∀a:T,Rx' a->Tz a-> ∀b:T,Rx' b->Tz b->G 52 [tm a,tm b]=some (vi (km a b),[]):=by
 refine T.ind λa ih ha za b hb zb=> ?_;have va:=QZ a (ha.imp id λh=>h.1);have vb':=QZ b (hb.imp id λh=>h.1);have hz:=za;unfold Tz at hz;rw [kh] at hz;have e1:=jbR a.name b.name;have e2:=Zx a.args.length b.args.length;have e3:=jhm (jN a.name b.name) (jG a.args.length b.args.length);have e4:a.args.length=b.args.length->G 75 [yG a.args,yG b.args,.fn 52 []]=some (vi (jY a.args b.args),[]):=λhlen=>by
  have key:=Za a.args b.args (by omega) hlen (λt ht u hu=>ih t ht (ha.args t ht) (za.args t ht) u (hb.args u hu) (zb.args u hu)) 0 (Nat.zero_le _);simp only [Int.natCast_zero,List.drop_zero] at key;rw [g75];simp only [jm,key]
 rw [g52,Jr];unfold cK zR vF;cases h1:jw a.name<;>cases h2:jw b.name<;>rw [h1] at va<;>rw [h2] at vb'
 .show _=some (vi (if (if jG 1 1≠0 then jG 1 1 else if jN a.name b.name≠0 then jN a.name b.name else jG a.args.length b.args.length)≠0 then (if jG 1 1≠0 then jG 1 1 else if jN a.name b.name≠0 then jN a.name b.name else jG a.args.length b.args.length) else jY a.args b.args),[]);rw [if_neg (show ¬jG 1 1≠0 by decide)];by_cases hz0:(if jN a.name b.name≠0 then jN a.name b.name else jG a.args.length b.args.length)=0
  .have hlen:a.args.length=b.args.length:=by
    split at hz0
    .rename_i h;exact absurd hz0 h
    .exact (qQ.zero _ _).1 hz0
   rw [if_neg (λh=>h hz0)];rw [hz0] at e3;simp only [jm,va,vb',e1,e2,e3,e4 hlen]
  .rw [if_pos hz0];generalize (if jN a.name b.name≠0 then jN a.name b.name else jG a.args.length b.args.length)=c at *;simp only [jm,va,vb',e1,e2,e3,hz0]
 .have:(if (if jG 1 0≠0 then jG 1 0 else if jN a.name b.name≠0 then jN a.name b.name else jG a.args.length b.args.length)≠0 then (if jG 1 0≠0 then jG 1 0 else if jN a.name b.name≠0 then jN a.name b.name else jG a.args.length b.args.length) else jY a.args b.args)=1:=by
   rw [if_pos (show jG 1 0≠0 by decide),if_pos (show jG 1 0≠0 by decide)];rfl
  show _=some (vi (if (if jG 1 0≠0 then jG 1 0 else if jN a.name b.name≠0 then jN a.name b.name else jG a.args.length b.args.length)≠0 then (if jG 1 0≠0 then jG 1 0 else if jN a.name b.name≠0 then jN a.name b.name else jG a.args.length b.args.length) else jY a.args b.args),[]);rw [this];simp only [jm,va,vb']
 .have:(if (if jG 0 1≠0 then jG 0 1 else if jN a.name b.name≠0 then jN a.name b.name else jG a.args.length b.args.length)≠0 then (if jG 0 1≠0 then jG 0 1 else if jN a.name b.name≠0 then jN a.name b.name else jG a.args.length b.args.length) else jY a.args b.args) = -1:=by
   rw [if_pos (show jG 0 1≠0 by decide),if_pos (show jG 0 1≠0 by decide)];rfl
  show _=some (vi (if (if jG 0 1≠0 then jG 0 1 else if jN a.name b.name≠0 then jN a.name b.name else jG a.args.length b.args.length)≠0 then (if jG 0 1≠0 then jG 0 1 else if jN a.name b.name≠0 then jN a.name b.name else jG a.args.length b.args.length) else jY a.args b.args),[]);rw [this];simp only [jm,va,vb']
 .show _=some (vi (if (if jG 0 0≠0 then jG 0 0 else if jN a.name b.name≠0 then jN a.name b.name else jG a.args.length b.args.length)≠0 then (if jG 0 0≠0 then jG 0 0 else if jN a.name b.name≠0 then jN a.name b.name else jG a.args.length b.args.length) else jY a.args b.args),[]);rw [if_neg (show ¬jG 0 0≠0 by decide)];by_cases hz0:(if jN a.name b.name≠0 then jN a.name b.name else jG a.args.length b.args.length)=0
  .have hlen:a.args.length=b.args.length:=by
    split at hz0
    .rename_i h;exact absurd hz0 h
    .exact (qQ.zero _ _).1 hz0
   rw [if_neg (λh=>h hz0)];rw [hz0] at e3;simp only [jm,va,vb',e1,e2,e3,e4 hlen]
  .rw [if_pos hz0];generalize (if jN a.name b.name≠0 then jN a.name b.name else jG a.args.length b.args.length)=c at *;simp only [jm,va,vb',e1,e2,e3,hz0]
theorem jft (x y:List UInt8):G 67 [sv x,sv y]=some (vi (jN x y),[]):=by
 rw [g67,qf];cases h1:y9 x y<;>cases h2:y9 y x<;>simp only [jm,jaa,h1,h2]
theorem YH (n m:List UInt8) (ts us:List T) (hl:ts.length<=1048576) (hlen:ts.length=us.length) (ih:∀t∈ts,∀u∈us,G 46 [tm t,tm u]=some (vi (km t u),[])) :
  ∀i,i<=ts.length->jby (vi (i:Nat)) (sv n) (yG ts) (sv m) (yG us)=some (vi (jY (ts.drop i) (us.drop i)),[]):=by
 refine upto ?_ ?_
 .rw [jj5,List.drop_length,jY];simp only [jm]
 .intro i hi ih';have hlt:(i:Int) < ((ts.length:Nat):Int):=by omega
  have hi2:i < us.length:=by omega
  have h5:=jA hi (by show ts.length<=9223372036854775807;omega)
  have e1:=ih ts[i] (List.getElem_mem _) us[i] (List.getElem_mem _);rw [jj5,jB hi,jB hi2,jY];by_cases hc:km ts[i] us[i]=0
  .rw [if_neg (λh=>h hc)];rw [hc] at e1;simp only [jm,hlt,ja hi,ja hi2,ji,e1,h5,ih']
  .rw [if_pos hc];generalize km ts[i] us[i]=c at *;simp only [jm,hlt,ja hi,ja hi2,ji,e1,hc]
theorem jdp (a b:T):km a b=if jw a.name=true/\jw b.name=false then -1 else if jw a.name=false/\jw b.name=true then 1 else if ¬a.name=b.name then jN a.name b.name else if a.args.length < b.args.length then -1 else if b.args.length < a.args.length then 1 else jY a.args b.args:=by
 rw [Jr];unfold cK zR vF;have hn:=yW.zero a.name b.name;have hzr:jG 1 1=0/\jG 0 0=0/\jG 0 1 = -1/\jG 1 0=1:=by decide
 obtain ⟨z1,z2,z3,z4⟩:=hzr;have hz:jG a.args.length b.args.length=if a.args.length < b.args.length then -1 else if b.args.length < a.args.length then 1 else 0:=rfl;cases h1:jw a.name<;>cases h2:jw b.name<;>simp only [Bool.false_eq_true,if_true,if_false,z1,z2,z3,z4,hz]
 all_goals have hs:=(yW.zero b.name b.name).2 rfl
 all_goals by_cases e:a.name=b.name
 all_goals by_cases l1:a.args.length < b.args.length
 all_goals by_cases l2:b.args.length < a.args.length
 all_goals first
  | (simp [e,hs,l1,l2];done)
  | (have ne:¬jN a.name b.name=0:=λh=>e (hn.1 h);simp only [ne_eq,e,ne,not_false_eq_true,not_true_eq_false,if_true,if_false,and_true,true_and,and_false,false_and,reduceCtorEq];done)
  | simp [l1,l2]
theorem jaZ:∀a:T,Tz a-> ∀b:T,Tz b->G 46 [tm a,tm b]=some (vi (km a b),[]):=by
 refine T.ind λa ih za b zb=> ?_;have va:=YJ a.name (((kY a).1 za.wf).1);have vb':=YJ b.name (((kY b).1 zb.wf).1);have hz:=za;unfold Tz at hz;rw [kh] at hz;have e1:=jft a.name b.name;have e4:a.args.length=b.args.length->jby (vi 0) (sv a.name) (yG a.args) (sv b.name) (yG b.args)=some (vi (jY a.args b.args),[]):=λhlen=>by
  have key:=YH a.name b.name a.args b.args (by omega) hlen (λt ht u hu=>ih t ht (za.args t ht) u (zb.args u hu)) 0 (Nat.zero_le _);simp only [Int.natCast_zero,List.drop_zero] at key;exact key
 rw [g46,jdp];have main:∀p:Bool,G 65 [sv a.name]=some (vb p,[])->G 65 [sv b.name]=some (vb p,[])->_:=λp _ _=>trivial;clear main;cases h1:jw a.name<;>cases h2:jw b.name<;>rw [h1] at va<;>rw [h2] at vb'
 all_goals by_cases en:a.name=b.name
 all_goals try (exfalso;rw [en,h2] at h1;cases h1;done)
 all_goals by_cases l1:a.args.length < b.args.length
 all_goals by_cases l2:b.args.length < a.args.length
 all_goals have l1':(((a.args.length:Nat):Int) < ((b.args.length:Nat):Int))=(a.args.length < b.args.length):=propext (by omega)
 all_goals have l2':(((b.args.length:Nat):Int) < ((a.args.length:Nat):Int))=(b.args.length < a.args.length):=propext (by omega)
 all_goals first
  | (have e4:=e4 (by omega);rw [en] at e4;simp only [jm,va,vb',e1,en,l1,l2,l1',l2',e4,and_true,true_and,and_false,false_and];done)
  | (simp only [jm,va,vb',e1,en,l1,l2,l1',l2',and_true,true_and,and_false,false_and];done)
  | (simp only [jm,va,vb',e1,en,l1,l2,l1',l2',and_true,true_and,and_false,false_and])
abbrev yP (l:Lt):List A:=[vb l.1,sv l.2.name,.sl 2 (l.2.args.map jI)]
abbrev ltm (l:Lt):A:= .agg [vb l.1,sv l.2.name,.sl 2 (l.2.args.map jI)]
theorem jez (b:Bool):G 54 [vb b]=some (vi (fl b:Nat),[]):=by
 rw [g54];cases b<;>simp only [jm]<;>rfl
theorem JZ (a b:Lt) (ha:Rx' a.2) (za:Tz a.2) (hb:Rx' b.2) (zb:Tz b.2):G 36 [ltm a,ltm b]=some (vi (cmpL a b),[]):=by
 have e1:=ZP a.2 ha za b.2 hb zb;have e2:=jez a.1;have e3:=jez b.1;have e4:=Zx (fl a.1) (fl b.1);have e5:=jhm (km a.2 b.2) (jG (fl a.1) (fl b.1));have e6:cmpL a b=if km a.2 b.2≠0 then km a.2 b.2 else jG (fl a.1) (fl b.1):=rfl;rw [g36,e6];generalize (if km a.2 b.2≠0 then km a.2 b.2 else jG (fl a.1) (fl b.1))=c at *;generalize jG (fl a.1) (fl b.1)=d at *;generalize km a.2 b.2=f at *;simp only [jm,e1,e2,e3,e4,e5]
theorem QI (a b:Lt) (za:Tz a.2) (zb:Tz b.2):G 29 [ltm a,ltm b]=some (vi (cmpL a b),[]):=by
 have e1:=jaZ a.2 za b.2 zb;have e6:cmpL a b=if km a.2 b.2≠0 then km a.2 b.2 else jG (fl a.1) (fl b.1):=rfl;rw [g29,e6];by_cases h:km a.2 b.2=0
 .rw [if_neg (λh'=>h' h)];rw [h] at e1;obtain ⟨p,t⟩:=a;obtain ⟨q,u⟩:=b;have d1:jG (fl false) (fl true) = -1:=by decide
  have d2:jG (fl true) (fl false)=1:=by decide
  have d3:jG (fl true) (fl true)=0:=by decide
  have d4:jG (fl false) (fl false)=0:=by decide
  cases p<;>cases q<;>simp only [jm,e1,d1,d2,d3,d4]
 .rw [if_pos h];generalize km a.2 b.2=c at *;simp only [jm,e1,h]
def kE (t:T):Bool:=if t.name = [61] then jbW t else zL t.name && zZ t
theorem jfr (t:T) (hw:JW t) (hs:tsz t<=1048576):G 28 [tm t]=some (vb (kE t),[]):=by
 unfold kE;by_cases he:t.name = [61]
 .rw [if_pos he];exact jdB t hw hs he
 .have e1:=ZF t.name ((kY t).1 hw).1;have e2:=jfs t hw hs;rw [if_neg he,g28];cases h:zL t.name<;>rw [h] at e1
  .simp only [jm,he,e1,Bool.false_and]
  .simp only [jm,he,e1,e2,Bool.true_and]
theorem YA (t:T) (hw:JW t) (hs:tsz t<=1048576):G 50 [tm t]=some (vb (kE t),[]):=by
 unfold kE;by_cases he:t.name = [61]
 .rw [if_pos he];exact ZT t hw hs he
 .have e0:=kO t;rw [decide_eq_false he] at e0;have e1:=ZD t.name ((kY t).1 hw).1;have e2:=YB t hw hs;rw [if_neg he,g50];cases h:zL t.name<;>rw [h] at e1
  .simp only [jm,e0,e1,Bool.false_and]
  .simp only [jm,e0,e1,e2,Bool.true_and]
abbrev cm (c:zm):A:= .agg [.sl 3 (c.map yP)]
def qy (c:zm):Bool:=c.all (λl=>kE l.2) && (jbI c && decide (c.length<=8))
theorem jer {t:T} (h:kE t=true):Rx' t:=by
 unfold kE at h;by_cases he:t.name = [61]
 .rw [if_pos he] at h;unfold jbW at h;rw [Bool.and_eq_true,decide_eq_true_eq,Bool.and_eq_true,Bool.and_eq_true] at h;refine Or.inr ⟨he,λu hu=> ?_⟩;obtain ⟨n,us⟩:=t
  match us,h.1 with
  | [a,b],_=>
   have hu:u ∈ [a,b]:=hu;simp only [List.mem_cons,List.not_mem_nil,or_false] at hu;rcases hu with rfl|rfl
   .exact h.2.2.1
   .exact h.2.2.2
 .rw [if_neg he,Bool.and_eq_true] at h;have h2:=h.2;unfold zZ at h2;rw [Bool.and_eq_true] at h2;exact Or.inl h2.2
theorem KI (l:Lt) (hz:Tz l.2):G 35 [ltm l]=some (vb (kE l.2),[]):=by
 have e:=YA l.2 hz.wf hz;rw [g35];simp only [jm,e]
def qC:Option Lt->zm->Bool
 | _,[]=>true
 | none,l::r=>kE l.2 && qC (some l) r
 | some p,l::r=>kE l.2 && (decide (cmpL p l < 0) && qC (some l) r)
theorem jay:∀(p:Lt) (c:zm),qC (some p) c=(c.all (λl=>kE l.2) && jbI (p::c))
 | p,[]=>rfl
 | p,l::r=>by
  rw [qC,jay l r,List.all_cons,jbI];cases kE l.2<;>cases decide (cmpL p l < 0)<;>simp
theorem jax (c:zm):(qC none c && decide (c.length<=8))=qy c:=by
 unfold qy;cases c with
 | nil=>rfl
 | cons l r=>rw [qC,jay,List.all_cons];cases kE l.2<;>simp [Bool.and_assoc]
theorem Jz (l:Lt):kJ 3 (.elt (yP l) 0)=some (ltm l):=rfl
theorem jda (c:zm) (hl:c.length<=1048576) (hz:∀l∈c,Tz l.2):∀i,i<=c.length-> ∀p:Option Lt,(p=none↔i=0)->(∀q,p=some q->kE q.2=true/\ ∃h:i - 1 < c.length,c[i - 1]=q)->
  jea (.sl 3 (c.map yP)) (vi (c.length:Nat)) (vi (i:Nat)) (.sl 3 (c.map yP))=some (vb (qC p (c.drop i) && decide (c.length<=8)),[]):=by
 refine upto ?_ ?_
 .intro p _ _;have e:decide (((c.length:Nat):Int)<=8)=decide (c.length<=8):=by congr 1;exact propext (by omega)
  rw [jjW,List.drop_length,<-e];have:qC p []=true:=by cases p<;>rfl
  rw [this];simp only [jm,Bool.true_and]
 .intro i hi ih p hp hq;have hlt:(i:Int) < ((c.length:Nat):Int):=by omega
  have h5:=jA hi (by show c.length<=9223372036854775807;omega)
  have e1:=KI c[i] (hz _ (List.getElem_mem hi));have ix:=ja (k:=3) (f:=yP) hi;have e1:G 35 [.agg [vb c[i].1,sv c[i].2.name,yG c[i].2.args]]=some (vb (kE c[i].2),[]):=e1;rw [jjW,jB hi];cases ha:kE c[i].2 with
  | false=>
   rw [ha] at e1;have:qC p (c[i]::c.drop (i+1))=false:=by cases p<;>rw [qC,ha]<;>rfl
   rw [this];simp only [jm,hlt,ix,Jz,e1,Bool.false_and]
  | true=>
   rw [ha] at e1;have ih1:=ih (some c[i]) (by simp) (λq hq=>by cases hq;exact ⟨ha,by simpa using hi,rfl⟩);cases p with
   | none=>
    have h0:i=0:=hp.1 rfl;have hg:¬(0:Int) < (i:Int):=by omega
    rw [qC,ha,Bool.true_and,<-ih1];simp only [jm,hlt,ix,Jz,e1,hg,h5]
   | some q=>
    obtain ⟨hqa,hq1,hq2⟩:=hq q rfl;have hi0:¬i=0:=λh=>by have:=hp.2 h;cases this
    have hg:(0:Int) < (i:Int):=by omega
    have c1:ck ((i:Int) - 1)=some (vi ((i - 1:Nat):Int)):=by rw [show (i:Int) - 1=((i - 1:Nat):Int) by omega,z6 (by omega) (by omega)]
    have ix2:=ja (k:=3) (f:=yP) hq1;rw [hq2] at ix2;have hqz:Tz q.2:=by rw [<-hq2];exact hz _ (List.getElem_mem hq1)
    have e2:=JZ q c[i] (jer hqa) hqz (jer ha) (hz _ (List.getElem_mem hi));have e2:G 36 [.agg [vb q.1,sv q.2.name,yG q.2.args],.agg [vb c[i].1,sv c[i].2.name,yG c[i].2.args]]=some (vi (cmpL q c[i]),[]):=e2;rw [qC,ha,Bool.true_and];by_cases hc:cmpL q c[i] < 0
    .have hc':¬(0:Int)<=cmpL q c[i]:=by omega
     rw [decide_eq_true hc,Bool.true_and,<-ih1];generalize cmpL q c[i]=d at *;simp only [jm,hlt,ix,Jz,e1,hg,c1,ix2,e2,hc',h5]
    .have hc':(0:Int)<=cmpL q c[i]:=by omega
     rw [decide_eq_false hc];generalize cmpL q c[i]=d at *;simp only [jm,hlt,ix,Jz,e1,hg,c1,ix2,e2,hc',Bool.false_and]
theorem Ze (c:zm) (hl:c.length<=1048576) (hz:∀l∈c,Tz l.2):G 21 [cm c]=some (vb (qy c),[]):=by
 have key:=jda c hl hz 0 (Nat.zero_le _) none (by simp) (λq h=>by cases h);rw [List.drop_zero,jax] at key;simp only [Int.natCast_zero] at key;rw [g21];simp only [jm,key]
theorem jdb (c:zm) (hl:c.length<=1048576) (hz:∀l∈c,Tz l.2):∀i,i<=c.length-> ∀p:Option Lt,(p=none↔i=0)->(∀q,p=some q-> ∃h:i - 1 < c.length,c[i - 1]=q)->
  jd8 (vi (i:Nat)) (.sl 3 (c.map yP))=some (vb (qC p (c.drop i)),[]):=by
 refine upto ?_ ?_
 .intro p _ _;rw [jjS,List.drop_length];have:qC p []=true:=by cases p<;>rfl
  rw [this];simp only [jm]
 .intro i hi ih p hp hq;have hlt:(i:Int) < ((c.length:Nat):Int):=by omega
  have h5:=jA hi (by show c.length<=9223372036854775807;omega)
  have e1:=jfr c[i].2 (hz _ (List.getElem_mem hi)).wf (hz _ (List.getElem_mem hi));have ix:=ja (k:=3) (f:=yP) hi;have ad:jdK (.elt (yP c[i]) 0) 1=some (.elt (yP c[i]) 1):=rfl;have ld:kJ 2 (.elt (yP c[i]) 1)=some (tm c[i].2):=rfl;rw [jjS,jB hi];cases ha:kE c[i].2 with
  | false=>
   rw [ha] at e1;have:qC p (c[i]::c.drop (i+1))=false:=by cases p<;>rw [qC,ha]<;>rfl
   rw [this];simp only [jm,hlt,ix,ad,ld,e1]
  | true=>
   rw [ha] at e1;have ih1:=ih (some c[i]) (by simp) (λq hq=>by cases hq;exact ⟨by simpa using hi,rfl⟩);cases p with
   | none=>
    have h0:i=0:=hp.1 rfl;have hg:¬(0:Int) < (i:Int):=by omega
    rw [qC,ha,Bool.true_and,<-ih1];simp only [jm,hlt,ix,ad,ld,e1,hg,h5]
   | some q=>
    obtain ⟨hq1,hq2⟩:=hq q rfl;have hi0:¬i=0:=λh=>by have:=hp.2 h;cases this
    have hg:(0:Int) < (i:Int):=by omega
    have c1:ck ((i:Int) - 1)=some (vi ((i - 1:Nat):Int)):=by rw [show (i:Int) - 1=((i - 1:Nat):Int) by omega,z6 (by omega) (by omega)]
    have ix2:=ja (k:=3) (f:=yP) hq1;rw [hq2] at ix2;have hqz:Tz q.2:=by rw [<-hq2];exact hz _ (List.getElem_mem hq1)
    have e2:=QI q c[i] hqz (hz _ (List.getElem_mem hi));rw [qC,ha,Bool.true_and];by_cases hc:cmpL q c[i] < 0
    .have hc':¬(0:Int)<=cmpL q c[i]:=by omega
     rw [decide_eq_true hc,Bool.true_and,<-ih1];generalize cmpL q c[i]=d at *;simp only [jm,hlt,ix,ad,ld,Jz,e1,hg,c1,ix2,e2,hc',h5]
    .have hc':(0:Int)<=cmpL q c[i]:=by omega
     rw [decide_eq_false hc];generalize cmpL q c[i]=d at *;simp only [jm,hlt,ix,ad,ld,Jz,e1,hg,c1,ix2,e2,hc',Bool.false_and]
theorem jfu (c:zm) (hl:c.length<=1048576) (hz:∀l∈c,Tz l.2):G 13 [cm c]=some (vb (qy c),[]):=by
 have key:=jdb c hl hz 0 (Nat.zero_le _) none (by simp) (λq h=>by cases h);rw [List.drop_zero] at key;simp only [Int.natCast_zero] at key;rw [g13,<-jax];by_cases h8:c.length<=8
 .have h8':¬(8:Int) < ((c.length:Nat):Int):=by omega
  rw [decide_eq_true h8,Bool.and_true];simp only [jm,h8',key]
 .have h8':(8:Int) < ((c.length:Nat):Int):=by omega
  rw [decide_eq_false h8,Bool.and_false];simp only [jm,h8']
theorem jlD (l:List (List UInt8)) (n:List UInt8):(vnA l n).length<=l.length+1:=by
 unfold vnA;split
 .omega
 .simp
theorem ji1:∀(t:T) (l:List (List UInt8)),(YX l t).length<=l.length+nodes t:=by
 refine T.ind λt ih l=> ?_;have hn:=jR t;rw [ji0];split
 .have:=jlD l t.name;omega
 .have key:∀us:List T,(∀u∈us,u∈t.args)-> ∀l:List (List UInt8),(YV l us).length<=l.length+jv us:=by
   intro us;induction us with
   | nil=>intro _ l;simp [YV,jv]
   | cons u us ih2=>
    intro hu l;have h1:=ih u (hu u (by simp)) l;have h2:=ih2 (λv hv=>hu v (by simp [hv])) (YX l u);rw [YV,jv];omega
  have:=key t.args (λ_ h=>h) l;omega
abbrev Eqs:=List (T × T)
def jkG:kr->Bool
 | []=>true
 | [_]=>true
 | p::q::s=>y9 p.1 q.1 && jkG (q::s)
noncomputable def Km (s:kr):Bool:=decide (s.length<=12) && (jkG s && s.all λq=>jw q.1 && (zZ q.2 && !dq q.2.name q.1))
def jjN (s u:kr):kr:=jll (s.map (λq=>(q.1,sub u q.2))++u.filter λq=>(look s q.1).isNone)
def jbM (x y:T):List UInt8 × T:=if jw x.name=false\/(jw y.name=true/\y9 x.name y.name=true) then (y.name,x) else (x.name,y)
noncomputable def jmI (s:kr) (l r:T) (rest:Eqs):Option (kr × Eqs):=
 if j7 (sub s l)=false\/j7 (sub s r)=false then none
 else if dq (sub s l) (sub s r) then some (s,rest)
 else if jw (sub s l).name=true\/jw (sub s r).name=true then
  (if (jbM (sub s l) (sub s r)).1∈Qs (jbM (sub s l) (sub s r)).2\/Km [jbM (sub s l) (sub s r)]=false\/Km (jjN s [jbM (sub s l) (sub s r)])=false then none else some (jjN s [jbM (sub s l) (sub s r)],rest))
 else if (sub s l).name=(sub s r).name/\(sub s l).args.length=(sub s r).args.length then some (s,(sub s l).args.zip (sub s r).args++rest) else none
noncomputable def jkt:Nat->kr->Eqs->Option (Option kr)
 | _,s,[]=>some (some s)
 | 0,_,_::_=>none
 | k+1,s,p::rest=>(match jmI s p.1 p.2 rest with|none=>some none|some q=>jkt k q.1 q.2)
def Exx (t:T):Prop:=(zS t=true\/(t.name = [61]/\t.args.length=2/\ ∀u∈t.args,zS u=true))/\nodes t<=31
def IdS (s:kr):Prop:=∀q∈s,∀x∈Qs q.2,look s x=none
def joo (s:kr) (es:Eqs):Prop:=Km s=true/\IdS s/\ ∀p∈es,Exx p.1/\Exx p.2
theorem K0 {s:kr} (h:Km s=true):s.length<=12/\jkG s=true/\ ∀q∈s,jw q.1=true/\zZ q.2=true/\q.2.name≠q.1:=by
 unfold Km at h;rw [Bool.and_eq_true,decide_eq_true_eq,Bool.and_eq_true,List.all_eq_true] at h;refine ⟨h.1,h.2.1,λq hq=> ?_⟩;have:=h.2.2 q hq;rw [Bool.and_eq_true,Bool.and_eq_true,Bool.not_eq_true'] at this;exact ⟨this.1,this.2.1,λe=>by rw [e,jix] at this;exact absurd this.2.2 (by decide)⟩
theorem jaz {t:T} (h:zZ t=true):zS t=true:=by
 unfold zZ at h;rw [Bool.and_eq_true] at h;exact h.2
def mz (s:kr):Eqs->Nat
 | []=>0
 | p::r=>nodes (sub s p.1)+nodes (sub s p.2)+mz s r
theorem Exx.sub {s:kr} (hs:Km s=true) {t:T} (h:Exx t):zS (sub s t)=true\/((sub s t).name = [61]/\(sub s t).args.length=2/\ ∀u∈(sub s t).args,zS u=true):=by
 obtain ⟨_,_,hv⟩:=K0 hs;have ho:∀q∈s,zS q.2=true:=λq hq=>(jaz (hv q hq).2.1);rcases h.1 with h|⟨h1,h2,h3⟩
 .exact Or.inl (jbq ho t h)
 .have hvn:jw t.name=false:=by rw [h1];decide
  right;rw [jbp hvn];refine ⟨h1,by show (t.args.map _).length=2;rw [List.length_map,h2],λu hu=> ?_⟩;obtain ⟨a,ha,rfl⟩:=List.mem_map.1 hu;exact jbq ho a (h3 a ha)
theorem jcV {t:T} (h:j7 t=true):nodes t<=30:=by
 simp only [j7,Bool.and_eq_true,decide_eq_true_eq] at h;exact h.1
end Go.Proofs.YtmmnimiohoammaaGreatDoor
