/- Pa -/
import Derived.Test.YteoaojbmnibpcaaGreatDoorKt
import Derived.Test.YteoaojbmnibpcaaGreatDoorPq
import Derived.Test.YteoaojbmnibpcaaGreatDoorEd
import Derived.ChangeSame
import Derived.Sort.Walk0
import Derived.Lib.ItoaNum
import Derived.Lib.Join
namespace Go.Proofs.YteoaojbmnibpcaaGreatDoor
open Go Go.RowKit Go.Proofs.YteoaojbmnibpcaaGreatDoor.Abs
set_option linter.unusedSimpArgs false
set_option linter.unusedVariables false
abbrev ci(n:Int):Xd:=[vi n]
abbrev cs(s:Xb):Xd:=[sv s]
abbrev ints(l:Xi):A:= .sl 1 (l.map ci)
abbrev strs(l:Xa):A:= .sl 1 (l.map cs)
section
theorem jnv{α:Type}(x y:α):brn true x y=x:=rfl
theorem jlH{α:Type}(x y:α):brn false x y=y:=rfl
theorem jpX{α:Type}(b:Bool)(x y:α):brn b x y=if b=true then x else y:=rfl
theorem jqK:(-1:Int)<0:=by decide
theorem joV(b:Bool):zD (vb b)=some b:=rfl
theorem jo2(b:Bool)(x y:A):yF (vb b) x y=some (if b=true then x else y):=rfl
theorem juJ(b w:Bool)(x:Xl):pG (vb b) w x=if b=w then x else some (.val undef):=rfl
theorem jo4(b w:Bool):qx (vb b) w=some (decide (b=w)):=rfl
theorem joX(w:Bool)(x:Xl):pG (.val undef) w x=some (.val undef):=rfl
theorem jh5(w:Bool):qx (.val undef) w=some false:=rfl
theorem joZ(k:Nat)(xs:Xc):Qz (.sl k xs)=some (vi xs.length):=rfl
theorem jq0(xs:Xc):jbi xs=vi xs.length:=rfl
theorem jpd(xs:Xc):kg xs=xs.length:=rfl
theorem Zg(l:Xb):J3 (sv l)=some (vi l.length):=rfl
theorem jnU(a:A):fin false (a,[])=some a:=rfl
theorem jsT(b c:Bool):fin c (vb b,[])=some (vb b):=by cases c<;>rfl
theorem jsU(c:Bool)(n:Int):fin c (vi n,[])=some (vi n):=by cases c<;>rfl
theorem jqW(b:Bool):JA .not (vb b)=some (vb (!b)):=rfl
theorem joR(b:Bool)(x y:Int):jw .lss b (vi x) (vi y)=some (vb (decide (x<y))):=rfl
theorem joQ(b:Bool)(x y:Int):jw .leq b (vi x) (vi y)=some (vb (decide (x<=y))):=rfl
theorem joP(b:Bool)(x y:Int):jw .gtr b (vi x) (vi y)=some (vb (decide (y<x))):=rfl
theorem joO(b:Bool)(x y:Int):jw .geq b (vi x) (vi y)=some (vb (decide (y<=x))):=rfl
theorem joN(b:Bool)(x y:Int):jw .eql b (vi x) (vi y)=some (vb (decide (x=y))):=rfl
theorem joT(b:Bool)(x y:Int):jw .neq b (vi x) (vi y)=some (vb (!decide (x=y))):=rfl
theorem jmj(b:Bool)(x y:Int):jw .lss b (vy x) (vy y)=some (vb (decide (x<y))):=rfl
theorem jmi(b:Bool)(x y:Int):jw .leq b (vy x) (vy y)=some (vb (decide (x<=y))):=rfl
theorem jmh(b:Bool)(x y:Int):jw .gtr b (vy x) (vy y)=some (vb (decide (y<x))):=rfl
theorem jmg(b:Bool)(x y:Int):jw .geq b (vy x) (vy y)=some (vb (decide (y<=x))):=rfl
theorem jmf(b:Bool)(x y:Int):jw .eql b (vy x) (vy y)=some (vb (decide (x=y))):=rfl
theorem jmk(b:Bool)(x y:Int):jw .neq b (vy x) (vy y)=some (vb (!decide (x=y))):=rfl
theorem jml(x y:Bool):jw .eql true (vb x) (vb y)=some (vb (decide (x=y))):=rfl
theorem jmm(x y:Bool):jw .neq true (vb x) (vb y)=some (vb (!decide (x=y))):=rfl
theorem Jf(b:Bool)(x y:Int):jw .add b (vi x) (vi y)=ck (x+y):=by cases b<;>rfl
theorem joU(b:Bool)(x y:Int):jw .sub b (vi x) (vi y)=ck (x-y):=by cases b<;>rfl
theorem joS(b:Bool)(x y:Int):jw .mul b (vi x) (vi y)=ck (x*y):=by cases b<;>rfl
theorem zo{n:Int}(h1: -9223372036854775808<=n)(h2:n<=9223372036854775807):ck n=some (vi n):=if_pos ⟨h1,h2⟩
theorem ZL(b:Bool)(x y:Xb):jw .add b (sv x) (sv y)=if x.length+y.length<=9223372036854775807 then some (sv (x++y))else none:=by cases b<;>rfl
theorem jmn(b:Bool)(x y:Xb):jw .eql b (sv x) (sv y)=some (vb (decide (x=y))):=rfl
theorem jmp(b:Bool)(x y:Xb):jw .neq b (sv x) (sv y)=some (vb (!decide (x=y))):=rfl
theorem jmo(b:Bool)(x y:Xb):jw .lss b (sv x) (sv y)=some (vb (J6 x y)):=rfl
theorem jo1(a:A)(l:Xd):zI (.elt (a::l) 0)=some a:=rfl
theorem Je(cs:Xd)(off n:Nat):Z6 (.elt cs off) n=some (.elt cs (off+n)):=rfl
theorem jjF(off:Nat)(cs:Xd):jcO off (.agg cs)=cs[off]? :=rfl
theorem jjE(n:Nat)(ds:Xd):jcM n (.agg ds)=if ds.length=n/\ds.all kj=true then some ds else none:=rfl
theorem jlJ(a:A)(l:Xd):jd (a::l) 0=a:=rfl
theorem jnB(a b:A)(l:Xd):jd (a::b::l) 1=b:=rfl
theorem jnC(a b c:A)(l:Xd):jd (a::b::c::l) 2=c:=rfl
theorem ji0(a b c d:A)(l:Xd):jd (a::b::c::d::l) 3=d:=rfl
theorem js6(k:Nat)(xs:Xc):kj (.sl k xs)=true:=rfl
theorem jqN(cs:Xd)(o:Nat):kj (.elt cs o)=true:=rfl
theorem js5(f:FuncId)(l:Xd):kj (.fn f l)=true:=rfl
theorem js9(n:Int):kj (vi n)=true:=rfl
theorem js8(b:Bool):kj (vb b)=true:=rfl
theorem js7(l:Xb):kj (sv l)=true:=rfl
theorem jtd(n:Nat)(i:Int):pIx n (vi i)=if 0<=i/\i<(n:Int)then some i.toNat else none:=rfl
theorem joY{n i:Nat}(h:i<n):pIx n (vi i)=some i:=by
 rw[jtd,if_pos ⟨by omega,by omega⟩];simp
theorem jo3(k:Nat)(xs:Xc):Jh k (.sl k xs)=some xs:=if_pos rfl
theorem jtg(a:A)(l:Xd):jcP (.tup (a::l)) 0=some a:=rfl
theorem jth(a b:A)(l:Xd):jcP (.tup (a::b::l)) 1=some b:=rfl
theorem jti(a b c:A)(l:Xd):jcP (.tup (a::b::c::l)) 2=some c:=rfl
theorem jqU(x y:Int):jjG (vi x) (vi y)=some (vi (if x<y then y else x)):=by
 unfold jjG;simp
theorem jqV(x y:Int):jmr (vi x) (vi y)=some (vi (if y<x then y else x)):=by
 unfold jmr;simp
theorem jut(a:A)(l:Xd)(i:Nat):hD (a,l) i=l[i]? :=rfl
theorem jwL(k:Nat)(a:A)(xs:Xc)(l:Xd):hR k (a,.sl k xs::l) 0=some xs:=by simp[hR]
theorem jwM(k:Nat)(a b:A)(xs:Xc)(l:Xd):hR k (a,b:: .sl k xs::l) 1=some xs:=by simp[hR]
theorem jwN(k:Nat)(a b c:A)(xs:Xc)(l:Xd):hR k (a,b::c:: .sl k xs::l) 2=some xs:=by simp[hR]
theorem KZ{f:FuncId}{caps args:Xd}{c:Bool}(h:K.pureF f=true):DX.run K (MM K) (.callc (.fn f caps) args c)=(G f (args++caps)).bind (fin c):=by
 simp only[DX.run,h,if_true]
theorem jc{α:Type}{k:Nat}{f:α->Xd}{xs:List α}{i:Nat}(h:i<xs.length):ji k (.sl k (xs.map f)) (vi i)=some (.elt (f xs[i]) 0):=by
 simp only[ji,if_true,List.length_map,joY h,Option.map_some];simp[List.getD_eq_getElem?_getD,h]
theorem jx{i n:Nat}(h:i<n)(hn:n<=9223372036854775807):jw .add false (vi i) (vi 1)=some (vi ((i+1:Nat):Int)):=by
 rw[Jf,zo (by omega) (by omega)];rfl
theorem upto{P:Nat->Prop}{n:Nat}(h0:P n)(hs:∀i,i<n->P (i+1)->P i):∀i,i<=n->P i:=by
 intro i hi;obtain⟨k,hk⟩:∃k,n=i+k:=⟨n-i,by omega⟩;induction k generalizing i with
 |zero=>rw[show i=n by omega];exact h0
 |succ k ih=>exact hs i (by omega) (ih (i+1) (by omega) (by omega))
theorem jC{α:Type}{xs:List α}{i:Nat}(h:i<xs.length):xs.drop i=xs[i]::xs.drop (i+1):=List.drop_eq_getElem_cons h
theorem evs :
  ((-1:Int)<0)/\
  (∀{α:Type}(x y:α),brn true x y=x)/\
  (∀{α:Type}(x y:α),brn false x y=y)/\
  (∀{α:Type}(b:Bool)(x y:α),brn b x y=if b=true then x else y)/\
  (∀{α β:Type}(a:α)(f:α->Option β),(some a).bind f=f a)/\
  (∀{α β:Type}(f:α->Option β),none.bind f=none)/\
  (∀(b:Bool),zD (vb b)=some b)/\
  (∀(b:Bool)(x y:A),yF (vb b) x y=some (if b=true then x else y))/\
  (∀(b w:Bool)(x:Xl),pG (vb b) w x=if b=w then x else some (A.val undef))/\
  (∀(b w:Bool),qx (vb b) w=some (decide (b=w)))/\
  (∀(w:Bool)(x:Xl),pG (A.val undef) w x=some (A.val undef))/\
  (∀(w:Bool),qx (A.val undef) w=some false)/\
  (∀(k:Nat)(xs:Xc),Qz (A.sl k xs)=some (vi ↑xs.length))/\
  (∀(xs:Xc),jbi xs=vi ↑xs.length)/\
  (∀(xs:Xc),kg xs=xs.length)/\
  (∀(l:Xb),J3 (sv l)=some (vi ↑l.length))/\
  (∀(a:A),fin false (a,[])=some a)/\
  (∀(b c:Bool),fin c (vb b,[])=some (vb b))/\
  (∀(c:Bool)(n:Int),fin c (vi n,[])=some (vi n))/\
  (∀(b:Bool),JA UnOp.not (vb b)=some (vb !b))/\
  (∀(b:Bool)(x y:Int),jw BinOp.lss b (vi x) (vi y)=some (vb (decide (x<y))))/\
  (∀(b:Bool)(x y:Int),jw BinOp.leq b (vi x) (vi y)=some (vb (decide (x<=y))))/\
  (∀(b:Bool)(x y:Int),jw BinOp.gtr b (vi x) (vi y)=some (vb (decide (y<x))))/\
  (∀(b:Bool)(x y:Int),jw BinOp.geq b (vi x) (vi y)=some (vb (decide (y<=x))))/\
  (∀(b:Bool)(x y:Int),jw BinOp.eql b (vi x) (vi y)=some (vb (decide (x=y))))/\
  (∀(b:Bool)(x y:Int),jw BinOp.neq b (vi x) (vi y)=some (vb !decide (x=y)))/\
  (∀(b:Bool)(x y:Int),jw BinOp.lss b (vy x) (vy y)=some (vb (decide (x<y))))/\
  (∀(b:Bool)(x y:Int),jw BinOp.leq b (vy x) (vy y)=some (vb (decide (x<=y))))/\
  (∀(b:Bool)(x y:Int),jw BinOp.gtr b (vy x) (vy y)=some (vb (decide (y<x))))/\
  (∀(b:Bool)(x y:Int),jw BinOp.geq b (vy x) (vy y)=some (vb (decide (y<=x))))/\
  (∀(b:Bool)(x y:Int),jw BinOp.eql b (vy x) (vy y)=some (vb (decide (x=y))))/\
  (∀(b:Bool)(x y:Int),jw BinOp.neq b (vy x) (vy y)=some (vb !decide (x=y)))/\
  (∀(x y:Bool),jw BinOp.eql true (vb x) (vb y)=some (vb (decide (x=y))))/\
  (∀(x y:Bool),jw BinOp.neq true (vb x) (vb y)=some (vb !decide (x=y)))/\
  (∀(b:Bool)(x y:Int),jw BinOp.add b (vi x) (vi y)=ck (x+y))/\
  (∀(b:Bool)(x y:Int),jw BinOp.sub b (vi x) (vi y)=ck (x-y))/\
  (∀(b:Bool)(x y:Int),jw BinOp.mul b (vi x) (vi y)=ck (x*y))/\
  (∀(b:Bool)(x y:Xb),jw BinOp.eql b (sv x) (sv y)=some (vb (decide (x=y))))/\
  (∀(b:Bool)(x y:Xb),jw BinOp.neq b (sv x) (sv y)=some (vb !decide (x=y)))/\
  (∀(b:Bool)(x y:Xb),jw BinOp.lss b (sv x) (sv y)=some (vb (J6 x y)))/\
  (∀(a:A)(l:Xd),zI (A.elt (a::l) 0)=some a)/\
  (∀(cs:Xd)(off n:Nat),Z6 (A.elt cs off) n=some (A.elt cs (off+n)))/\
  (∀(off:Nat)(cs:Xd),jcO off (A.agg cs)=cs[off]?)/\
  (∀(n:Nat)(ds:Xd),jcM n (A.agg ds)=if ds.length=n/\ds.all kj=true then some ds else none)/\
  (∀(a:A)(l:Xd),jd (a::l) 0=a)/\
  (∀(a b:A)(l:Xd),jd (a::b::l) 1=b)/\
  (∀(a b c:A)(l:Xd),jd (a::b::c::l) 2=c)/\
  (∀(a b c d:A)(l:Xd),jd (a::b::c::d::l) 3=d)/\
  (∀(k:Nat)(xs:Xc),kj (A.sl k xs)=true)/\
  (∀(cs:Xd)(o:Nat),kj (A.elt cs o)=true)/\
  (∀(f:FuncId)(l:Xd),kj (A.fn f l)=true)/\
  (∀(n:Int),kj (vi n)=true)/\
  (∀(b:Bool),kj (vb b)=true)/\
  (∀(l:Xb),kj (sv l)=true)/\
  (∀(k:Nat)(xs:Xc),Jh k (A.sl k xs)=some xs)/\
  (∀(a:A)(l:Xd),jcP (A.tup (a::l)) 0=some a)/\
  (∀(a b:A)(l:Xd),jcP (A.tup (a::b::l)) 1=some b)/\
  (∀(a b c:A)(l:Xd),jcP (A.tup (a::b::c::l)) 2=some c)/\
  (∀(x y:Int),jjG (vi x) (vi y)=some (vi (if x<y then y else x)))/\
  (∀(x y:Int),jmr (vi x) (vi y)=some (vi (if y<x then y else x)))/\
  (∀(a:A)(l:Xd)(i:Nat),hD (a,l) i=l[i]?)/\
  (∀(k:Nat)(a:A)(xs:Xc)(l:Xd),hR k (a,A.sl k xs::l) 0=some xs)/\
  (∀(k:Nat)(a b:A)(xs:Xc)(l:Xd),hR k (a,b::A.sl k xs::l) 1=some xs)/\
  (∀(k:Nat)(a b c:A)(xs:Xc)(l:Xd),hR k (a,b::c::A.sl k xs::l) 2=some xs)/\
  (∀{α:Type}{a:α}{l:List α}{f:α->Bool},(a::l).all f=(f a && l.all f))/\
  (∀{α:Type}{f:α->Bool},([]:List α).all f=true)/\
  (∀{α:Type}{a:α}{l:List α},(a::l).length=l.length+1)/\
  (∀{α:Type},([]:List α).length=0)/\
  (∀{α β:Type}{l:List α}(f:α->β),(List.map f l).length=l.length)/\
  (∀(n:Nat),0+n=n)/\
  (∀(b:Bool),(b && b)=b)/\
  (∀(b:Bool),(b && true)=b)/\
  (∀(p:Prop),(p/\p)=p)/\
  (∀{α:Type}{_x:Decidable True}(t e:α),(if True then t else e)=t)/\
  (∀{α:Type}{_x:Decidable False}(t e:α),(if False then t else e)=e)/\
  ((true=false)=False)/\
  ((false=true)=False)/\
  (∀(_h:Decidable True),decide True=true)/\
  (∀(_h:Decidable False),decide False=false)/\
  ((!true)=false)/\
  ((!false)=true)/\
  (∀(b:Bool),((!b)=true)=(b=false))/\
  (∀{p:Prop} [Decidable p],(decide p=true)=p)/\
  (∀{p:Prop}{x:Decidable p},decide p=false↔ ¬p)/\
  (∀(a:Int),¬a<a)/\
  ((¬True)=False)/\
  ((¬False)=True)/\
  (∀{α:Type}(a b:α),(if True then a else b)=a)/\
  (∀{α:Type}(a b:α),(if False then a else b)=b):=
 ⟨@jqK,@jnv,@jlH,@jpX,@Option.bind_some.{0,0},@Option.bind_none.{0,0},@joV,@jo2,@juJ,@jo4,@joX,@jh5,@joZ,@jq0,@jpd,@Zg,@jnU,@jsT,@jsU,@jqW,@joR,@joQ,@joP,@joO,@joN,@joT,@jmj,@jmi,@jmh,@jmg,@jmf,@jmk,@jml,@jmm,@Jf,@joU,@joS,@jmn,@jmp,@jmo,@jo1,@Je,@jjF,@jjE,@jlJ,@jnB,@jnC,@ji0,@js6,@jqN,@js5,@js9,@js8,@js7,@jo3,@jtg,@jth,@jti,@jqU,@jqV,@jut,@jwL,@jwM,@jwN,@List.all_cons.{0},@List.all_nil.{0},@List.length_cons.{0},@List.length_nil.{0},@List.length_map.{0,0},@Nat.zero_add,@Bool.and_self,@Bool.and_true,@and_self,@if_true.{1},@if_false.{1},@Bool.true_eq_false,@Bool.false_eq_true,@decide_true,@decide_false,@Bool.not_true,@Bool.not_false,@Bool.not_eq_true',@decide_eq_true_eq,@decide_eq_false_iff_not,@Int.lt_irrefl,@not_true_eq_false,@not_false_eq_true,@ite_true.{1},@ite_false.{1}⟩
end
theorem jum:(∀{α:Type}{h:Decidable True}(a b:α),@ite α True h a b=a)/\(∀{α:Type}{h:Decidable False}(a b:α),@ite α False h a b=b)/\(1+1=2/\1+2=3/\1+3=4/\1+4=5/\2+1=3/\2+2=4/\2+3=5/\2+4=6/\3+1=4/\3+2=5/\3+3=6/\3+4=7/\4+1=5/\4+2=6/\4+3=7/\4+4=8/\5+1=6/\5+2=7/\5+3=8/\5+4=9/\6+1=7/\6+2=8/\6+3=9/\6+4=10/\7+1=8/\7+2=9/\7+3=10/\7+4=11/\8+1=9/\8+2=10/\8+3=11/\8+4=12/\9+1=10/\9+2=11/\9+3=12/\9+4=13/\10+1=11/\10+2=12/\10+3=13/\10+4=14/\11+1=12/\11+2=13/\11+3=14/\11+4=15/\12+1=13/\12+2=14/\12+3=15/\12+4=16):=by refine⟨?_,?_,by decide⟩<;>intros<;>simp
theorem jo:type_of% (And.intro evs (And.intro cev jum)):=And.intro evs (And.intro cev jum)
open Go Go.RowKit Go.ChangeShapes Go.Deep Go.Proofs.YteoaojbmnibpcaaGreatDoor.Abs
section
variable{P:Program}{t:Nat}{H:Type}{enc:TypeId×Value->H}{w:World}{base:Nat}{spare:Nat->Bool}{held:Bool}{fuel:Nat}{cs:Xh}{x:DataW H×List MemPlace}
end
inductive T where
 |mk (name:Xb) (args:List T)
abbrev Xg:=List T
def T.name:T->Xb|.mk n _=>n
def T.args:T->Xg|.mk _ us=>us
mutual
def jl:T->Xd
 |.mk n us=>[sv n,.sl 2 (jbB us)]
def jbB:Xg->Xc
 | []=>[]
 |t::ts=>jl t::jbB ts
end
theorem ja8:∀ts:Xg,jbB ts=ts.map jl
 | []=>rfl
 |t::ts=>by simp[jbB,ja8 ts]
theorem j7(t:T):jl t=[sv t.name,.sl 2 (t.args.map jl)]:=by
 cases t;simp[jl,T.name,T.args,ja8]
abbrev tm(t:T):A:= .agg [sv t.name,.sl 2 (t.args.map jl)]
abbrev zh(ts:Xg):A:= .sl 2 (ts.map jl)
theorem js(t:T):zX 2 (.elt (jl t) 0)=some (.agg [sv t.name,.sl 2 (t.args.map jl)]):=by rw[j7];rfl
mutual
def tsz:T->Nat
 |.mk n us=>n.length+us.length+ya us
def ya:Xg->Nat
 | []=>0
 |t::ts=>tsz t+ya ts
end
theorem zB(t:T):tsz t=t.name.length+t.args.length+ya t.args:=by cases t;simp[tsz,T.name,T.args]
theorem y8:∀{ts:Xg}{t:T},t∈ts->tsz t<=ya ts
 | [],_,h=>by cases h
 |u::us,t,h=>by
  simp only[ya];rcases List.mem_cons.1 h with rfl|h
  .omega
  .have:=y8 h;omega
mutual
def twf:T->Prop
 |.mk n us=>n.length<=9223372036854775807/\us.length<=9223372036854775807/\jm1 us
def jm1:Xg->Prop
 | []=>True
 |t::ts=>twf t/\jm1 ts
end
theorem yi(t:T):twf t↔t.name.length<=9223372036854775807/\t.args.length<=9223372036854775807/\jm1 t.args:=by cases t;simp[twf,T.name,T.args]
theorem zy:∀ts:Xg,jm1 ts↔ ∀t∈ts,twf t
 | []=>by simp[jm1]
 |t::ts=>by simp[jm1,zy ts]
theorem T.ind{p:T->Prop}(h:∀t,(∀u∈t.args,p u)->p t):∀t,p t:=by
 intro t;induction hn:SizeOf.sizeOf t using Nat.strongRecOn generalizing t with
 |ind n ih=>
  subst hn;refine h t λu hu=>ih (SizeOf.sizeOf u) ?_ u rfl;cases t with
  |mk nm us=>
   have:=List.sizeOf_lt_of_mem hu;simp only[T.args]at this;simp only[T.mk.sizeOf_spec];omega
section
variable{P:Program}{tT tS:Nat}
end
structure Ord' where
 syms:Xa
 ws:Xi
 var:Int
abbrev jwV(o:Ord'):Xd:=[strs o.syms,ints o.ws,vi o.var]
abbrev od(o:Ord'):A:= .agg [strs o.syms,ints o.ws,vi o.var]
def owf(o:Ord'):Prop:=((∀s∈o.syms,s.length<=9223372036854775807)/\o.syms.length<=9223372036854775807)/\((∀x∈o.ws,I64 x)/\o.ws.length<=9223372036854775807)/\I64 o.var
set_option maxHeartbeats 1000000
def jxv(left n:Int):Int:=if 0<=left-n then left-n else -1
def part{α:Type}(f:α->Xd)(z:Xd)(xs:List α)(i:Nat):Xc:=(xs.take i).map f++List.replicate (xs.length-i) z
section
variable{α:Type}{f:α->Xd}{z:Xd}{xs:List α}
end
def jwO(k:Int):Nat->Xi
 |0=>[]
 |n+1=>k::jwO (k+1) n
section
variable{α:Type}{f:α->Xd}(M r:List α)(x:α)
theorem jcE{k:Nat} :ji k (.sl k ((M++x::r).map f)) (vi (M.length:Nat))=some (.elt (f x) 0):=by
 rw[jc (by simp)];simp
theorem jjv:((M.length:Nat):Int)<(((M++x::r).length:Nat):Int):=by simp only[List.length_append,List.length_cons];omega
end
section
variable(M R:Xc)(x y:Xd)
theorem ZQ:jbh (M++x::R) M.length=some x:=by
 unfold jbh;rw[List.getElem?_append_right (Nat.le_refl _)];simp
theorem ZR:yC (M++x::R) M.length y=M++y::R:=by
 unfold yC;rw[List.set_append_right _ _ (by simp)];simp
theorem jam:pIx (M++x::R).length (vi (M.length:Nat))=some M.length:=joY (by simp)
end
def jpq:Xa->Nat
 | []=>0
 |s::l=>s.length+jpq l
def osz(o:Ord'):Nat:=o.syms.length+jpq o.syms+o.ws.length
theorem jkH(l:Xi)(hl:l.length<=9223372036854775807):G 40 [ints l,ints l]=some (vb true,[]):=by
 have key:=(upto (P:=λi=>jkk (ints l) (ints l) (vi i)=some (vb true,[])) (n:=l.length) ?_ ?_ 0 (Nat.zero_le _))
 .rw [g40];simp only[Int.natCast_zero]at key;simp only[jo,key]
 .rw [jrP];simp only[jo]
 .intro i hi ih;have h5:=jx hi hl;rw[jrP];simp only[jo,hi,Int.ofNat_lt,jc hi,h5,ih]
theorem jnR(ts:Xg)(hl:ts.length<=9223372036854775807)(ih:∀t∈ts,G 148 [tm t,tm t]=some (vb true,[])):G 174 [zh ts,zh ts]=some (vb true,[]):=by
 have key:=(upto (P:=λi=>jfn (zh ts) (zh ts) (vi i)=some (vb true,[])) (n:=ts.length) ?_ ?_ 0 (Nat.zero_le _))
 .rw [jwG];simp only[Int.natCast_zero]at key;simp only[jo,key]
 .rw [jon];simp only[jo]
 .intro i hi ih';have h5:=jx hi hl;have e1:=ih ts[i] (List.getElem_mem _);rw[jon];simp only[jo,hi,Int.ofNat_lt,jc hi,js,e1,h5,ih']
theorem jqh(t:T):twf t->G 148 [tm t,tm t]=some (vb true,[]):=by
 refine T.ind (p:=λt=>twf t->G 148 [tm t,tm t]=some (vb true,[])) ?_ t;intro t ih h;obtain⟨w1,w2,w3⟩:=(yi t).1 h;have w3:=(zy _).1 w3;have e1:=jnR t.args w2 λu hu=>ih u hu (w3 u hu);rw[jws];simp only[jo,e1]
theorem yQ{l:Xb}{i:Nat}(h:i<l.length):jK (sv l) (vi i)=some (vy (l[i].toNat:Int)):=by
 show(if _ then _ else _)=_;rw[if_pos ⟨by omega,by simpa using h⟩];simp[List.getD_eq_getElem?_getD,h]
theorem zj{c:UInt8}{l:Xb} :jK (sv (c::l)) (vi 0)=some (vy (c.toNat:Int)):=yQ (i:=0) (l:=c::l) (by simp)
def ym(lo hi x:Int):Bool:=decide (lo<=x) && decide (x<=hi)
theorem qR(x a b:Int):G 69 [vi x,vi a,vi b]=some (vb (ym a b x),[]):=by
 rw[g69];by_cases h:a<=x<;>simp only[jo,h,ym,Bool.true_and,Bool.false_and]
theorem qF(x a b:Int):G 64 [vi x,vi a,vi b]=some (vb (ym a b x),[]):=by
 rw[g64];by_cases h:a<=x<;>simp only[jo,h,ym,Bool.true_and,Bool.false_and]
def upc(c:UInt8):Bool:=ym 65 90 (c.toNat:Int)
def Z5(c:UInt8):Bool:=ym 97 122 (c.toNat:Int)
def ji9(c:UInt8):Bool:=ym 48 57 (c.toNat:Int)
def kV(c:UInt8):Bool:=Z5 c || ji9 c
theorem Jb(c:UInt8):G 158 [vy (c.toNat:Int)]=some (vb (upc c),[]):=by
 rw[jwC];by_cases h:65<=(c.toNat:Int)<;>simp only[jo,h,upc,ym,Bool.true_and,Bool.false_and]
theorem Ja(c:UInt8):G 154 [vy (c.toNat:Int)]=some (vb (Z5 c),[]):=by
 rw[jwy];by_cases h:97<=(c.toNat:Int)<;>simp only[jo,h,Z5,ym,Bool.true_and,Bool.false_and]
theorem Kn(c:UInt8):G 155 [vy (c.toNat:Int)]=some (vb (ji9 c),[]):=by
 rw[jwz];by_cases h:48<=(c.toNat:Int)<;>simp only[jo,h,ji9,ym,Bool.true_and,Bool.false_and]
theorem YA(c:UInt8):G 137 [vy (c.toNat:Int)]=some (vb (kV c),[]):=by
 rw[jwo];by_cases h:97<=(c.toNat:Int)<;>by_cases h2:(c.toNat:Int)<=122<;>by_cases h3:48<=(c.toNat:Int)<;>simp only[jo,h,h2,h3,kV,Z5,ji9,ym,Bool.true_and,Bool.false_and,Bool.or_false,Bool.true_or,Bool.false_or]
def jI:Xb->Bool
 | []=>false
 |c::r=>upc c && (r.all kV && decide (r.length<=3))
theorem jbs(r:Xb)(k:Nat)(hk:k<=9):ym 1 (k+1:Nat) (((r.length+1:Nat)):Int)=decide (r.length<=k):=by
 unfold ym;have:decide ((1:Int)<=((r.length+1:Nat):Int))=true:=by simp;omega
 rw[this,Bool.true_and];by_cases h:r.length<=k<;>simp[h]<;>omega
theorem jbf(s:Xb)(hs:s.length<=9223372036854775807):∀i,i<=s.length->1<=i->jbI (sv s) (vi (s.length:Nat)) (vi i)=some (vb ((s.drop i).all kV && ym 1 4 (s.length:Nat)),[]):=by
 refine upto (P:=λi=>1<=i->jbI (sv s) (vi (s.length:Nat)) (vi i)=some (vb ((s.drop i).all kV && ym 1 4 (s.length:Nat)),[])) ?_ ?_
 .intro _;rw[jfV,List.drop_length];have e:=qR (s.length:Nat) 1 4;simp only[jo,e,Bool.true_and]
 .intro i hi ih h1;have ih:=ih (by omega);have hn:¬((i:Int)=0):=by omega
  have hp:(0:Int)<(i:Int):=by omega
  have hlt:(i:Int)<((s.length:Nat):Int):=by omega
  have h5:=jx hi hs;have hx:=yQ hi;have e1:=Ja s[i];have e2:=Kn s[i];rw[jfV,jC hi];generalize s[i]=ch at *;rw[List.all_cons];cases h8:Z5 ch<;>cases h9:ji9 ch<;>rw[h8]at e1<;>rw[h9]at e2<;>simp only[jo,hn,hp,hlt,hx,e1,e2,h5,ih,kV,h8,h9,Bool.true_and,Bool.false_and,Bool.or_true,Bool.or_false]
theorem jdF(s:Xb)(hs:s.length<=9223372036854775807):G 151 [sv s]=some (vb (jI s),[]):=by
 rw[jwv];show(J3 (sv s)).bind _=_;rw[Zg,Option.bind_some];cases s with
 |nil=>
  rw[jfV];have e:=qR ((0:Nat):Int) 1 4;simp only[jo,e];rfl
 |cons c r=>
  have key:=jbf (c::r) hs 1 (by simp) (Nat.le_refl _);simp only[List.drop_succ_cons,List.drop_zero]at key;have e':ym 1 4 (((c::r).length:Nat):Int)=decide (r.length<=3):=jbs r 3 (by decide);rw[e']at key;rw[jfV];have h5:jw .add false (vi 0) (vi 1)=some (vi ((1:Nat):Int)):=by rw[Jf,zo (by decide) (by decide)];rfl
  have h6:(0:Int)<(((c::r).length:Nat):Int):=Int.natCast_pos.2 (Nat.succ_pos _);have e1:=Jb c;generalize ((((c::r).length:Nat)):Int)=n at *;cases hu:upc c<;>rw[hu]at e1<;>simp only[jo,h6,zj,e1,h5,key,jI,hu,Bool.true_and,Bool.false_and]
theorem jjs(s:Xb)(hs:s.length<=9223372036854775807):∀i,i<=s.length->QX (sv s) (vi i)=some (vb ((s.drop i).all kV),[]):=by
 refine upto (P:=λi=>QX (sv s) (vi i)=some (vb ((s.drop i).all kV),[])) ?_ ?_
 .rw [jok,List.drop_length];simp only[jo]
 .intro i hi ih;have hlt:(i:Int)<((s.length:Nat):Int):=by omega
  have h5:=jx hi hs;have hx:=yQ hi;have e1:=YA s[i];rw[jok,jC hi];generalize s[i]=ch at *;rw[List.all_cons];cases h8:kV ch<;>rw[h8]at e1<;>simp only[jo,hlt,hx,e1,h5,ih,Bool.true_and,Bool.false_and]
theorem jcx(s:Xb)(hs:s.length<=9223372036854775807):G 136 [sv s]=some (vb (jI s),[]):=by
 rw[jwn];show(J3 (sv s)).bind _=_;rw[Zg,Option.bind_some];cases s with
 |nil=>
  have e:=qF ((0:Nat):Int) 1 4;simp only[jo,e];rfl
 |cons c r=>
  have e:=qF (((c::r).length:Nat):Int) 1 4;have e':ym 1 4 (((c::r).length:Nat):Int)=decide (r.length<=3):=jbs r 3 (by decide);rw[e']at e;have key:=jjs (c::r) hs 1 (by simp);simp only[List.drop_succ_cons,List.drop_zero]at key;have key:QX (sv (c::r)) (vi 1)=some (vb (r.all kV),[]):=key;generalize ((((c::r).length:Nat)):Int)=n at *;by_cases h3:r.length<=3
  .rw [decide_eq_true h3]at e;by_cases ha:(c.toNat:Int)<65
   .have:¬(65<=(c.toNat:Int)):=by omega
    simp only[jo,e,zj,ha,jI,upc,ym,this,Bool.false_and]
   .have h65:65<=(c.toNat:Int):=by omega
    by_cases hb:90<(c.toNat:Int)
    .have:¬((c.toNat:Int)<=90):=by omega
     simp only[jo,e,zj,ha,hb,jI,upc,ym,this,Bool.false_and,Bool.and_false]
    .have:(c.toNat:Int)<=90:=by omega
     simp only[jo,e,zj,ha,hb,jI,upc,ym,this,h65,key,h3,Bool.true_and]
  .rw [decide_eq_false h3]at e;simp only[jo,e,jI,h3,Bool.and_false]
def Yq(s:Xb):Xa->Option Nat
 | []=>none
 |x::l=>if s=x then some 0 else(Yq s l).map (· + 1)
def Ya(i:Nat):Option Nat->Int
 |none=> -1
 |some k=>((i+k:Nat):Int)
theorem jaL(s:Xb):∀l,(Yq s l).isSome=l.contains s
 | []=>rfl
 |x::l=>by
  simp only[Yq,List.contains_cons];by_cases h:s=x
  .simp [h]
  .have:=jaL s l;simp[h,this]
theorem jfG(s:Xb)(l:Xa):decide (0<=Ya 0 (Yq s l))=l.contains s:=by
 rw[<-jaL];cases Yq s l<;>simp[Ya]
theorem jjd{s x:Xb}{l:Xa}{i:Nat}(h:¬s=x):Ya (i+1) (Yq s l)=Ya i (Yq s (x::l)):=by
 simp only[Yq,h,if_false];cases Yq s l<;>simp[Ya];omega
theorem jjk(l:Xa)(s:Xb)(hl:l.length<=9223372036854775807):G 36 [strs l,sv s]=some (vi (Ya 0 (Yq s l)),[]):=by
 have key:=upto (P:=λi=>jgL (strs l) (sv s) (vi (l.length:Nat)) (vi i)=some (vi (Ya i (Yq s (l.drop i))),[])) (n:=l.length) ?_ ?_ 0 (Nat.zero_le _)
 .simp only[Int.natCast_zero,List.drop_zero]at key;rw[g36];simp only[jo,key]
 .rw [jkW,List.drop_length];simp only[jo,Yq,Ya]
 .intro i hi ih;have hlt:(i:Int)<((l.length:Nat):Int):=by omega
  have h5:=jx hi hl;rw[jkW,jC hi];by_cases h:s=l[i]
  .simp only[jo,hlt,jc hi,h,Yq,Ya,Nat.add_zero]
  .simp only[jo,hlt,jc hi,h,h5,ih,jjd h]
theorem jdB(l:Xa)(s:Xb)(hl:l.length<=9223372036854775807):G 156 [strs l,sv s]=some (vb (l.contains s),[]):=by
 have e:=jjk l s hl;rw[jwA];simp only[jo,e,jfG]
def jil:Xa:=[[116,114,117,101],[102,97,108,115,101],[116,114,117,116,104],[98,111,116,104],[101,105,116,104,101,114],[105,102],[97,108,108],[115,111,109,101]]
def jdn(c:UInt8):Bool:=kV c || decide ((c.toNat:Int)=95)
def yX:Xb->Bool
 | []=>false
 |c::r=>Z5 c && (r.all jdn && (decide (r.length<=5) && !jil.contains (c::r)))
theorem jpV(a b:Xb):(a == b)=decide (a=b):=by by_cases h:a=b<;>simp[h]
theorem jdE(s:Xb)(hs:s.length<=9223372036854775807):∀i,i<=s.length->1<=i->jbH (sv s) (vi (s.length:Nat)) (vi i)=some (vb ((s.drop i).all jdn && (ym 1 6 (s.length:Nat) && !jil.contains s)),[]):=by
 refine upto (P:=λi=>1<=i->jbH (sv s) (vi (s.length:Nat)) (vi i)=some (vb ((s.drop i).all jdn && (ym 1 6 (s.length:Nat) && !jil.contains s)),[])) ?_ ?_
 .intro _;rw[jfU,List.drop_length];have e:=qR (s.length:Nat) 1 6;have e2:=jdB jil s (by decide);have e3:G 157 []=some (strs jil,[]):=jwB;cases h:ym 1 6 (s.length:Nat)<;>rw[h]at e<;>simp only[jo,e,e2,e3,Bool.true_and,Bool.false_and]
 .intro i hi ih h1;have ih:=ih (by omega);have hn:¬((i:Int)=0):=by omega
  have hlt:(i:Int)<((s.length:Nat):Int):=by omega
  have h5:=jx hi hs;have hx:=yQ hi;have e1:=Ja s[i];have e2:=Kn s[i];rw[jfU,jC hi];generalize s[i]=ch at *;rw[List.all_cons];cases h7:decide ((ch.toNat:Int)=95)<;>cases h8:Z5 ch<;>cases h9:ji9 ch<;>rw[h8]at e1<;>rw[h9]at e2<;>
   simp only[jo,hn,hlt,hx,e1,e2,h5,ih,jdn,kV,h7,h8,h9,Bool.true_and,Bool.false_and,Bool.or_true,Bool.or_false]
theorem jaQ(s:Xb)(hs:s.length<=9223372036854775807):G 120 [sv s]=some (vb (yX s),[]):=by
 rw[jwh];show(J3 (sv s)).bind _=_;rw[Zg,Option.bind_some];cases s with
 |nil=>
  rw[jfU];have e:G 69 [vi ((0:Nat):Int),vi 1,vi 6]=some (vb false,[]):=qR ((0:Nat):Int) 1 6;simp only[jo,e];rfl
 |cons c r=>
  have key:=jdE (c::r) hs 1 (by simp) (Nat.le_refl _);simp only[List.drop_succ_cons,List.drop_zero]at key;have e':ym 1 6 (((c::r).length:Nat):Int)=decide (r.length<=5):=jbs r 5 (by decide);rw[e']at key;rw[jfU];have h5:jw .add false (vi 0) (vi 1)=some (vi ((1:Nat):Int)):=by rw[Jf,zo (by decide) (by decide)];rfl
  have h6:(0:Int)<(((c::r).length:Nat):Int):=Int.natCast_pos.2 (Nat.succ_pos _);have e1:=Ja c;generalize ((((c::r).length:Nat)):Int)=n at *;cases hu:Z5 c<;>rw[hu]at e1<;>simp only[jo,h6,zj,e1,h5,key,yX,hu,Bool.true_and,Bool.false_and]
theorem jdG(s:Xb)(hs:s.length<=9223372036854775807):∀i,i<=s.length->JO (sv s) (vi i)=some (vb ((s.drop i).all jdn),[]):=by
 refine upto (P:=λi=>JO (sv s) (vi i)=some (vb ((s.drop i).all jdn),[])) ?_ ?_
 .rw [jrZ,List.drop_length];simp only[jo]
 .intro i hi ih;have hlt:(i:Int)<((s.length:Nat):Int):=by omega
  have h5:=jx hi hs;have hx:=yQ hi;have e1:=YA s[i];rw[jrZ,jC hi];generalize s[i]=ch at *;rw[List.all_cons];cases h7:decide ((ch.toNat:Int)=95)<;>cases h8:kV ch<;>rw[h8]at e1<;>simp only[jo,hlt,hx,e1,h5,ih,jdn,h7,h8,Bool.true_and,Bool.false_and,Bool.or_true,Bool.or_false]
theorem jaV(s:Xb)(hs:s.length<=9223372036854775807):G 96 [sv s]=some (vb (yX s),[]):=by
 rw[g96];show(J3 (sv s)).bind _=_;rw[Zg,Option.bind_some];cases s with
 |nil=>
  have e:G 64 [vi ((0:Nat):Int),vi 1,vi 6]=some (vb false,[]):=qF ((0:Nat):Int) 1 6;simp only[jo,e];rfl
 |cons c r=>
  have e:=qF (((c::r).length:Nat):Int) 1 6;have e':ym 1 6 (((c::r).length:Nat):Int)=decide (r.length<=5):=jbs r 5 (by decide);rw[e']at e;have key:=jdG (c::r) hs 1 (by simp);simp only[List.drop_succ_cons,List.drop_zero]at key;have key:JO (sv (c::r)) (vi 1)=some (vb (r.all jdn),[]):=key;generalize ((((c::r).length:Nat)):Int)=n at *;have hres:jil.contains (c::r)=(decide (c::r=[116,114,117,101]) || (decide (c::r=[102,97,108,115,101]) || (decide (c::r=[116,114,117,116,104]) || (decide (c::r=[98,111,116,104]) || (decide (c::r=[101,105,116,104,101,114]) || (decide (c::r=[105,102]) || (decide (c::r=[97,108,108]) || decide (c::r=[115,111,109,101])))))))):=by
   simp only[jil,List.contains_cons,List.contains_nil,Bool.or_false,jpV]
  by_cases h3:r.length<=5
  .rw [decide_eq_true h3]at e;by_cases ha:(c.toNat:Int)<97
   .have:¬(97<=(c.toNat:Int)):=by omega
    simp only[jo,e,zj,ha,yX,Z5,ym,this,Bool.false_and]
   .have h65:97<=(c.toNat:Int):=by omega
    by_cases hb:122<(c.toNat:Int)
    .have:¬((c.toNat:Int)<=122):=by omega
     simp only[jo,e,zj,ha,hb,yX,Z5,ym,this,Bool.false_and,Bool.and_false]
    .have h122:(c.toNat:Int)<=122:=by omega
     have e0:yX (c::r)=(r.all jdn && !jil.contains (c::r)):=by
      simp[yX,Z5,ym,h65,h122,h3]
     rw[e0,hres];have hx0:=zj (c:=c) (l:=r);clear hres e0;generalize c::r=s at *;cases q0:decide (s=[116,114,117,101]);rotate_left
     .simp only[jo,e,hx0,ha,hb,q0,Bool.true_or,Bool.and_false]
     cases q1:decide (s=[102,97,108,115,101]);rotate_left
     .simp only[jo,e,hx0,ha,hb,q0,q1,Bool.true_or,Bool.false_or,Bool.and_false]
     cases q2:decide (s=[116,114,117,116,104]);rotate_left
     .simp only[jo,e,hx0,ha,hb,q0,q1,q2,Bool.true_or,Bool.false_or,Bool.and_false]
     cases q3:decide (s=[98,111,116,104]);rotate_left
     .simp only[jo,e,hx0,ha,hb,q0,q1,q2,q3,Bool.true_or,Bool.false_or,Bool.and_false]
     cases q4:decide (s=[101,105,116,104,101,114]);rotate_left
     .simp only[jo,e,hx0,ha,hb,q0,q1,q2,q3,q4,Bool.true_or,Bool.false_or,Bool.and_false]
     cases q5:decide (s=[105,102]);rotate_left
     .simp only[jo,e,hx0,ha,hb,q0,q1,q2,q3,q4,q5,Bool.true_or,Bool.false_or,Bool.and_false]
     cases q6:decide (s=[97,108,108]);rotate_left
     .simp only[jo,e,hx0,ha,hb,q0,q1,q2,q3,q4,q5,q6,Bool.true_or,Bool.false_or,Bool.and_false]
     cases q7:decide (s=[115,111,109,101]);rotate_left
     .simp only[jo,e,hx0,ha,hb,q0,q1,q2,q3,q4,q5,q6,q7,Bool.false_or,Bool.and_false]
     simp only[jo,e,hx0,ha,hb,q0,q1,q2,q3,q4,q5,q6,q7,Bool.or_false,key]
  .rw [decide_eq_false h3]at e;simp only[jo,e,yX,h3,Bool.false_and,Bool.and_false]
mutual
def nodes:T->Nat
 |.mk _ us=>1+jE us
def jE:Xg->Nat
 | []=>0
 |t::ts=>nodes t+jE ts
end
theorem j5(t:T):nodes t=1+jE t.args:=by cases t;rfl
mutual
def dep:T->Nat
 |.mk _ us=>1+Z4 us
def Z4:Xg->Nat
 | []=>0
 |t::ts=>max (dep t) (Z4 ts)
end
theorem jbY(t:T):dep t=1+Z4 t.args:=by cases t;rfl
mutual
def yb:T->Bool
 |.mk n us=>if jI n then us.isEmpty else yX n && (decide (us.length<=4) && jh0 us)
def jh0:Xg->Bool
 | []=>true
 |t::ts=>yb t && jh0 ts
end
theorem yP(t:T):yb t=if jI t.name then t.args.isEmpty else yX t.name && (decide (t.args.length<=4) && jh0 t.args):=by cases t;rfl
theorem J2:∀ts,jh0 ts=ts.all yb
 | []=>rfl
 |t::ts=>by rw[jh0,J2 ts,List.all_cons]
theorem Qu:∀t:T,nodes t<=1+tsz t:=by
 refine T.ind λt ih=>?_;have:∀ts:Xg,(∀u∈ts,nodes u<=1+tsz u)->jE ts<=ts.length+ya ts:=by
  intro ts;induction ts with
  |nil=>intro _;simp[jE]
  |cons u us ih=>
   intro h;have h1:=h u (by simp);have h2:=ih λv hv=>h v (by simp[hv]);simp only[jE,ya,List.length_cons];omega
 have h:=this t.args ih;rw[j5,zB];omega
theorem jag(t:T):1<=nodes t:=by rw[j5];omega
theorem YE{ts:Xg}{t:T}(h:t∈ts):nodes t<=jE ts:=by
 induction ts with
 |nil=>cases h
 |cons u us ih=>
  simp only[jE];rcases List.mem_cons.1 h with rfl|h
  .omega
  .have:=ih h;omega
theorem jnL:∀t:T,dep t<=nodes t:=by
 refine T.ind λt ih=>?_;have:∀ts:Xg,(∀u∈ts,dep u<=nodes u)->Z4 ts<=jE ts:=by
  intro ts;induction ts with
  |nil=>intro _;simp[Z4]
  |cons u us ih=>
   intro h;have h1:=h u (by simp);have h2:=ih λv hv=>h v (by simp[hv]);simp only[jE,Z4];omega
 have h:=this t.args ih;rw[j5,jbY];omega
theorem jmN(ts:Xg)(hl:ts.length<=9223372036854775807)(hn:jE ts<=1048577)(ih:∀t∈ts,∃r:Nat,G 149 [tm t]=some (vi r,[])/\r<=nodes t/\(nodes t<=30->r=nodes t)/\(30<nodes t->30<r)) :
  ∀i,i<=ts.length-> ∀a:Nat,a+jE (ts.drop i)<=1048578-> ∃r:Nat,jfl (vi a) (zh ts) (vi (ts.length:Nat)) (vi i)=some (vi r,[])/\r<=a+jE (ts.drop i)/\(a+jE (ts.drop i)<=30->r=a+jE (ts.drop i))/\(30<a+jE (ts.drop i)->30<r):=by
 refine upto ?_ ?_
 .intro a ha;rw[jjo,List.drop_length];simp only[jo,jE,Nat.add_zero];exact⟨a,rfl,Nat.le_refl _,λ_=>rfl,λh=>h⟩
 .intro i hi ih' a ha;have hlt:(i:Int)<((ts.length:Nat):Int):=by omega
  have h5:=jx hi hl;rw[jC hi]at ha⊢;simp only[jE]at ha⊢;obtain⟨r1,e1,b1,b2,b3⟩:=ih ts[i] (List.getElem_mem _);by_cases hc:(30:Int)<(a:Int)
  .refine ⟨a,?_,by omega,by omega,by omega⟩;rw[jjo];simp only[jo,hlt,jc hi,js,hc]
  .have hk:ck ((a:Int)+(r1:Int))=some (vi ((a+r1:Nat):Int)):=by rw[zo (by omega) (by omega)];rfl
   obtain⟨r2,e2,c1,c2,c3⟩:=ih' (a+r1) (by omega);refine⟨r2,?_,by omega,by omega,by omega⟩;rw[jjo];simp only[jo,hlt,jc hi,js,hc,e1,hk,h5,e2]
theorem size_eq:∀t:T,twf t->tsz t<=1048576-> ∃r:Nat,G 149 [tm t]=some (vi r,[])/\r<=nodes t/\(nodes t<=30->r=nodes t)/\(30<nodes t->30<r):=by
 refine T.ind λt ih hw hs=>?_;obtain⟨w1,w2,w3⟩:=(yi t).1 hw;have w3:=(zy _).1 w3;have hn:=Qu t;rw[j5]at hn;rw[zB]at hs;obtain⟨r,h1,h2,h3,h4⟩:=jmN t.args w2 (by rw[zB]at hn;omega) (λu hu=>ih u hu (w3 u hu) (by have:=y8 hu;omega)) 0 (Nat.zero_le _) 1 (by rw[zB]at hn;simp;omega);simp only[List.drop_zero,Int.natCast_zero,Int.natCast_one]at h1 h2 h3 h4;refine⟨r,?_,by rw[j5];exact h2,by rw[j5];exact h3,by rw[j5];exact h4⟩;rw[jwt];simp only[jo,h1]
theorem jl8(n:Xb)(most:Int)(hm1: -1048600<=most)(hm:most<=1048576)(ts:Xg)(hl:ts.length<=9223372036854775807)(ih:∀t∈ts,∀m:Int,-1048600<=m->m<=1048576-> ∃r:Nat,G 134 [tm t,vi m]=some (vi r,[])/\1<=r/\r<=nodes t/\((nodes t:Int)<=m->r=nodes t)/\(m<nodes t->m<r)) :
  ∀i,i<=ts.length-> ∀a:Nat,1<=a->a+jE (ts.drop i)<=1048578-> ∃r:Nat,jfh (vi most) (vi a) (vi i) (sv n) (zh ts)=some (vi r,[])/\1<=r/\r<=a+jE (ts.drop i)/\(((a+jE (ts.drop i):Nat):Int)<=most->r=a+jE (ts.drop i))/\(most<((a+jE (ts.drop i):Nat):Int)->most<r):=by
 refine upto ?_ ?_
 .intro a h1 ha;rw[jjn,List.drop_length];simp only[jo,jE,Nat.add_zero];exact⟨a,rfl,h1,Nat.le_refl _,λ_=>rfl,λh=>h⟩
 .intro i hi ih' a h1 ha;have hlt:(i:Int)<((ts.length:Nat):Int):=by omega
  have h5:=jx hi hl;rw[jC hi]at ha⊢;simp only[jE]at ha⊢;by_cases hc:(a:Int)<=most
  .obtain ⟨r1,e1,b0,b1,b2,b3⟩:=ih ts[i] (List.getElem_mem _) (most-a) (by omega) (by omega);have hk0:ck (most-(a:Int))=some (vi (most-a)):=zo (by omega) (by omega);have hk:ck ((a:Int)+(r1:Int))=some (vi ((a+r1:Nat):Int)):=by rw[zo (by omega) (by omega)];rfl
   obtain⟨r2,e2,c0,c1,c2,c3⟩:=ih' (a+r1) (by omega) (by omega);refine⟨r2,?_,by omega,by omega,by omega,by omega⟩;rw[jjn];simp only[jo,hlt,jc hi,js,hc,hk0,e1,hk,h5,e2]
  .refine ⟨a,?_,h1,by omega,by omega,by omega⟩;rw[jjn];simp only[jo,hlt,hc]
theorem jqF:∀t:T,twf t->tsz t<=1048576-> ∀m:Int,-1048600<=m->m<=1048576-> ∃r:Nat,G 134 [tm t,vi m]=some (vi r,[])/\1<=r/\r<=nodes t/\((nodes t:Int)<=m->r=nodes t)/\(m<nodes t->m<r):=by
 refine T.ind λt ih hw hs m hm1 hm=>?_;obtain⟨w1,w2,w3⟩:=(yi t).1 hw;have w3:=(zy _).1 w3;have hn:=Qu t;rw[j5]at hn;obtain⟨r,h1,h0,h2,h3,h4⟩:=jl8 t.name m hm1 hm t.args w2 (λu hu m h1 h2=>ih u hu (w3 u hu) (by have:=y8 hu;rw[zB]at hs;omega) m h1 h2) 0 (Nat.zero_le _) 1 (Nat.le_refl _) (by simp;omega);simp only[List.drop_zero,Int.natCast_zero,Int.natCast_one]at h1 h2 h3 h4;refine⟨r,?_,h0,by rw[j5];exact h2,by rw[j5];exact h3,by rw[j5];exact h4⟩;rw[jwl];simp only[jo,h1]
theorem ji6(ts:Xg)(hl:ts.length<=9223372036854775807)(hn:jE ts<=1048577)(ih:∀t∈ts,G 150 [tm t]=some (vi (dep t:Nat),[])) :
  ∀i,i<=ts.length-> ∀a:Nat,a<=1048577->jfm (vi a) (zh ts) (vi (ts.length:Nat)) (vi i)=some (vi ((max a (Z4 (ts.drop i))+1:Nat):Int),[]):=by
 refine upto ?_ ?_
 .intro a ha;have hk:ck ((a:Int)+1)=some (vi ((a+1:Nat):Int)):=by rw[zo (by omega) (by omega)];rfl
  rw[jom,List.drop_length];simp only[jo,Z4,hk,Nat.max_zero]
 .intro i hi ih' a ha;have hlt:(i:Int)<((ts.length:Nat):Int):=by omega
  have h5:=jx hi hl;have e1:=ih ts[i] (List.getElem_mem _);have hd:dep ts[i]<=1048577:=Nat.le_trans (jnL _) (Nat.le_trans (YE (List.getElem_mem hi)) hn);have hmx:(if(a:Int)<((dep ts[i]:Nat):Int)then((dep ts[i]:Nat):Int)else(a:Int))=((max a (dep ts[i]):Nat):Int):=by split<;>omega
  have ih':=ih' (max a (dep ts[i])) (by omega);rw[jom,jC hi];simp only[jo,hlt,jc hi,js,e1,hmx,h5,ih',Z4,Nat.max_assoc]
theorem jnM:∀t:T,twf t->tsz t<=1048576->G 150 [tm t]=some (vi (dep t:Nat),[]):=by
 refine T.ind λt ih hw hs=>?_;obtain⟨w1,w2,w3⟩:=(yi t).1 hw;have w3:=(zy _).1 w3;have hn:=Qu t;rw[j5]at hn;have h1:=ji6 t.args w2 (by omega) (λu hu=>ih u hu (w3 u hu) (by have:=y8 hu;rw[zB]at hs;omega)) 0 (Nat.zero_le _) 0 (by omega);simp only[List.drop_zero,Int.natCast_zero,Nat.zero_max]at h1;rw[jwu,jbY,Nat.add_comm];simp only[jo,h1]
theorem jqH(a b:Nat):G 164 [vi a,vi b]=some (vi ((max a b:Nat):Int),[]):=by
 rw[jwE];by_cases h:(b:Int)<(a:Int)
 .simp only[jo,h];rw[Nat.max_eq_left (by omega)]
 .simp only[jo,h];rw[Nat.max_eq_right (by omega)]
theorem jfX(n:Xb)(ts:Xg)(hl:ts.length<=9223372036854775807)(hn:jE ts<=1048577)(ih:∀t∈ts,G 135 [tm t]=some (vi (dep t:Nat),[])) :
  ∀i,i<=ts.length-> ∀a:Nat,a<=1048577->jfi (vi a) (vi i) (sv n) (zh ts)=some (vi ((max a (Z4 (ts.drop i))+1:Nat):Int),[]):=by
 refine upto ?_ ?_
 .intro a ha;have hk:ck ((a:Int)+1)=some (vi ((a+1:Nat):Int)):=by rw[zo (by omega) (by omega)];rfl
  rw[joj,List.drop_length];simp only[jo,Z4,hk,Nat.max_zero]
 .intro i hi ih' a ha;have hlt:(i:Int)<((ts.length:Nat):Int):=by omega
  have h5:=jx hi hl;have e1:=ih ts[i] (List.getElem_mem _);have e2:=jqH a (dep ts[i]);have hd:dep ts[i]<=1048577:=Nat.le_trans (jnL _) (Nat.le_trans (YE (List.getElem_mem hi)) hn);have ih':=ih' (max a (dep ts[i])) (by omega);rw[joj,jC hi];simp only[jo,hlt,jc hi,js,e1,e2,h5,ih',Z4,Nat.max_assoc]
theorem jjr:∀t:T,twf t->tsz t<=1048576->G 135 [tm t]=some (vi (dep t:Nat),[]):=by
 refine T.ind λt ih hw hs=>?_;obtain⟨w1,w2,w3⟩:=(yi t).1 hw;have w3:=(zy _).1 w3;have hn:=Qu t;rw[j5]at hn;have h1:=jfX t.name t.args w2 (by omega) (λu hu=>ih u hu (w3 u hu) (by have:=y8 hu;rw[zB]at hs;omega)) 0 (Nat.zero_le _) 0 (by omega);simp only[List.drop_zero,Int.natCast_zero,Nat.zero_max]at h1;rw[jwm,jbY,Nat.add_comm];simp only[jo,h1]
def kB(t:T):Bool:=decide (nodes t<=30) && decide (dep t<=8)
def kC(t:T):Bool:=kB t && yb t
theorem jci(t:T)(hw:twf t)(hs:tsz t<=1048576):G 118 [tm t]=some (vb (kB t),[]):=by
 obtain⟨r,h1,h2,h3,h4⟩:=size_eq t hw hs;have hd:=jnM t hw hs;rw[jwf];by_cases h:nodes t<=30
 .have:(r:Int)<=30:=by have:=h3 h;omega
  have e:decide (((dep t:Nat):Int)<=8)=decide (dep t<=8):=by congr 1;exact propext (by omega)
  simp only[jo,h1,hd,this,kB,h,e,Bool.true_and]
 .have:¬(r:Int)<=30:=by have:=h4 (by omega);omega
  simp only[jo,h1,this,kB,h,Bool.false_and]
theorem jeh(t:T)(hw:twf t)(hs:tsz t<=1048576):G 94 [tm t]=some (vb (kB t),[]):=by
 obtain⟨r,h1,h0,h2,h3,h4⟩:=jqF t hw hs 30 (by decide) (by decide);have hd:=jjr t hw hs;rw[g94];by_cases h:nodes t<=30
 .have:(r:Int)<=30:=by have:=h3 (by omega);omega
  have e:decide (((dep t:Nat):Int)<=8)=decide (dep t<=8):=by congr 1;exact propext (by omega)
  simp only[jo,h1,hd,this,kB,h,e,Bool.true_and]
 .have:¬(r:Int)<=30:=by have:=h4 (by omega);omega
  simp only[jo,h1,this,kB,h,Bool.false_and]
theorem jbd{f:FuncId}{caps:Xd}(hsig:K.pureF f=true)(p:T->Bool)(ts:Xg)(hl:ts.length<=9223372036854775807)(h:∀t∈ts,G f (tm t::caps)=some (vb (p t),[])) :
  ∃r:Int,G 175 [zh ts,.fn f caps]=some (vi r,[])/\decide (0<=r)=ts.any p:=by
 have key:=upto (P:=λi=>∃r:Int,jfo (zh ts) (.fn f caps) (vi (ts.length:Nat)) (vi i)=some (vi r,[])/\decide (0<=r)=(ts.drop i).any p) (n:=ts.length) ?_ ?_ 0 (Nat.zero_le _)
 .obtain ⟨r,h1,h2⟩:=key;simp only[Int.natCast_zero,List.drop_zero]at h1 h2;refine⟨r,?_,h2⟩;rw[jwH];simp only[jo,h1]
 .refine ⟨-1,?_,by simp⟩;rw[joo];simp only[jo]
 .intro i hi ih;obtain⟨r,h1,h2⟩:=ih;have hlt:(i:Int)<((ts.length:Nat):Int):=by omega
  have h5:=jx hi hl;have e1:=h ts[i] (List.getElem_mem _);rw[joo,jC hi,List.any_cons];cases hp:p ts[i]<;>rw[hp]at e1
  .refine ⟨r,?_,by rw[h2,Bool.false_or]⟩;simp only[jo,hlt,jc hi,js,KZ hsig,List.cons_append,List.nil_append,e1,h5,h1]
  .refine ⟨i,?_,by simp⟩;simp only[jo,hlt,jc hi,js,KZ hsig,List.cons_append,List.nil_append,e1]
theorem jbX{f:FuncId}{caps:Xd}(hsig:K.pureF f=true)(p:T->Bool)(ts:Xg)(hl:ts.length<=9223372036854775807)(h:∀t∈ts,G f (tm t::caps)=some (vb (p t),[])) :
  G 152 [zh ts,.fn f caps]=some (vb (ts.any p),[]):=by
 obtain⟨r,h1,h2⟩:=jbd hsig p ts hl h;rw[jww];simp only[jo,h1,h2]
theorem jgU(p:T->Bool)(ts:Xg):(ts.any λt=> !p t)=!ts.all p:=by
 induction ts with
 |nil=>rfl
 |cons t ts ih=>rw[List.any_cons,List.all_cons,ih];cases p t<;>rfl
theorem K5:∀t:T,twf t->G 119 [tm t]=some (vb (yb t),[]):=by
 refine T.ind λt ih hw=>?_;obtain⟨w1,w2,w3⟩:=(yi t).1 hw;have w3:=(zy _).1 w3;have e1:=jdF t.name w1;have e2:=jaQ t.name w1;have e3:=jbX (f:=153) (caps:=[]) rfl (λu=> !yb u) t.args w2 (λu hu=>by
  have:=ih u hu (w3 u hu);rw[jwx];simp only[jo,this])
 rw[jgU,<-J2]at e3;rw[jwg,yP];have e4:decide (((t.args.length:Nat):Int)=0)=t.args.isEmpty:=by cases t.args<;>simp;omega
 have e5:decide (((t.args.length:Nat):Int)<=4)=decide (t.args.length<=4):=by congr 1;exact propext (by omega)
 cases hv:jI t.name<;>rw[hv]at e1
 .cases hy:yX t.name<;>rw[hy]at e2
  .simp only[jo,e1,e2,Bool.false_and]
  .cases ha:decide (t.args.length<=4)<;>rw[ha]at e5
   .simp only[jo,e1,e2,e5,Bool.false_and,Bool.true_and]
   .simp only[jo,e1,e2,e5,e3,Bool.true_and,Bool.not_not]
 .simp only[jo,e1,e4]
theorem Yz:∀t:T,twf t->G 95 [tm t]=some (vb (yb t),[]):=by
 refine T.ind λt ih hw=>?_;obtain⟨w1,w2,w3⟩:=(yi t).1 hw;have w3:=(zy _).1 w3;have e1:=jcx t.name w1;have e2:=jaV t.name w1;have key:=upto (P:=λi=>jks (vi i) (sv t.name) (zh t.args)=some (vb (jh0 (t.args.drop i)),[])) (n:=t.args.length) ?_ ?_ 0 (Nat.zero_le _)
 .simp only[Int.natCast_zero,List.drop_zero]at key;rw[g95,yP];have e4:decide (((t.args.length:Nat):Int)=0)=t.args.isEmpty:=by cases t.args<;>simp;omega
  cases hv:jI t.name<;>rw[hv]at e1
  .cases hy:yX t.name<;>rw[hy]at e2
   .simp only[jo,e1,e2,Bool.false_and]
   .by_cases ha:4<((t.args.length:Nat):Int)
    .have:¬t.args.length<=4:=by omega
     simp only[jo,e1,e2,ha,this,Bool.false_and,Bool.and_false]
    .have:t.args.length<=4:=by omega
     simp only[jo,e1,e2,ha,this,key,Bool.true_and]
  .simp only[jo,e1,e4]
 .rw [jrY,List.drop_length];simp only[jo,jh0]
 .intro i hi ih';have hlt:(i:Int)<((t.args.length:Nat):Int):=by omega
  have h5:=jx hi w2;have e3:=ih t.args[i] (List.getElem_mem _) (w3 _ (List.getElem_mem _));rw[jrY,jC hi,jh0];cases hp:yb t.args[i]<;>rw[hp]at e3
  .simp only[jo,hlt,jc hi,js,e3,Bool.false_and]
  .simp only[jo,hlt,jc hi,js,e3,h5,ih',Bool.true_and]
theorem jck(t:T)(hw:twf t)(hs:tsz t<=1048576):G 121 [tm t]=some (vb (kC t),[]):=by
 have e1:=jci t hw hs;have e2:=K5 t hw;rw[jwi,kC];cases h:kB t<;>rw[h]at e1<;>simp only[jo,e1,e2,Bool.true_and,Bool.false_and]
theorem jei(t:T)(hw:twf t)(hs:tsz t<=1048576):G 97 [tm t]=some (vb (kC t),[]):=by
 have e1:=jeh t hw hs;have e2:=Yz t hw;rw[g97,kC];cases h:kB t<;>rw[h]at e1<;>simp only[jo,e1,e2,Bool.true_and,Bool.false_and]
def jv1(o:Ord')(i:Nat):Bool:=yX (o.syms.getD i []) && (!(o.syms.take i).contains (o.syms.getD i []) && ym o.var 100 (o.ws.getD i 0))
def jkc(o:Ord'):Bool:=ym 1 12 (o.syms.length:Nat) && (decide (o.ws.length=o.syms.length) && (ym 1 100 o.var && (List.range o.syms.length).all (jv1 o)))
mutual
def jp6(l:Xa):T->Bool
 |.mk n us=>(jI n || l.contains n) && jrB l us
def jrB(l:Xa):Xg->Bool
 | []=>true
 |t::ts=>jp6 l t && jrB l ts
end
theorem qe{t:T}(h:yb t=true):∀u∈t.args,yb u=true:=by
 rw[yP]at h;intro u hu;split at h
 .rw [List.isEmpty_iff.1 h]at hu;cases hu
 .simp only[Bool.and_eq_true]at h;rw[J2]at h;exact List.all_eq_true.1 h.2.2 u hu
theorem joG{t:T}(h:yb t=true):∃c r,t.name=c::r/\jI t.name=upc c/\(upc c=false->yX t.name=true):=by
 rw[yP]at h;cases hn:t.name with
 |nil=>rw[hn]at h;simp[jI,yX]at h
 |cons c r=>
  refine⟨c,r,rfl,?_,?_⟩
  .rw [hn]at h;cases hu:upc c with
   |false=>simp[jI,hu]
   |true=>
    cases hv:jI (c::r)with
    |true=>rfl
    |false=>
     rw[hv]at h;have:Z5 c=false:=by
      simp only[upc,ym,Z5,Bool.and_eq_true,decide_eq_true_eq]at hu⊢;have:¬(97<=(c.toNat:Int)):=by omega
      simp[this]
     simp[yX,this]at h
  .intro hu;rw[hn]at h;have:jI (c::r)=false:=by simp[jI,hu]
   rw[this]at h;simp at h;exact h.1
theorem jn6(t:T)(h:yb t=true):G 122 [tm t]=some (vb (jI t.name),[]):=by
 obtain⟨c,r,hn,hv,_⟩:=joG h;have e1:=Jb c;rw[<-hv]at e1;rw[juo];have hx:jK (sv t.name) (vi 0)=some (vy (c.toNat:Int)):=by rw[hn];exact zj
 simp only[jo,hx,e1]
def jhm(o:Ord')(t:T):Bool:=kC t && jp6 o.syms t
def jw8(o:Ord')(n:Xb):Int:=match Yq n o.syms with|some k=>o.ws.getD k 0|none=>0
mutual
def wt(o:Ord'):T->Int
 |.mk n us=>(if jI n then o.var else jw8 o n)+wtL o us
def wtL(o:Ord'):Xg->Int
 | []=>0
 |t::ts=>wt o t+wtL o ts
end
def jtv(o:Ord')(t:T):A:=if jkc o && jhm o t then .tup [vi (wt o t),vb true]else .tup [vi 0,vb false]
noncomputable def dq{α:Type}(a b:α):Bool:=@decide (a=b) (Classical.propDecidable _)
theorem jqe{α:Type}{a b:α} :dq a b=true↔a=b:=by unfold dq;exact @decide_eq_true_iff _ (Classical.propDecidable _)
theorem jqd{α:Type}(a:α):dq a a=true:=jqe.2 rfl
def rk(o:Ord')(t:T):Int:=Ya 0 (Yq t.name o.syms)
def jub(a b:Int):Int:=if a<b then -1 else if b<a then 1 else 0
def jlh(o:Ord')(s t:T):Int:=if rk o s=rk o t then jub (s.args.length:Nat) (t.args.length:Nat)else jub (rk o s) (rk o t)
noncomputable def fd:Xg->Xg->Option (T×T)
 |a::l,b::r=>if dq a b=true then fd l r else some (a,b)
 |_,_=>none
def zT:A:= .agg [sv [],.sl 2 []]
noncomputable def fdR(s t:T):A:=match fd s.args t.args with|some (a,b)=>.tup [tm a,tm b,vb true]|none=>.tup [zT,zT,vb false]
noncomputable def jl4(o:Ord'):Nat->T->T->Bool
 |0,_,_=>false
 |n+1,s,t=>if jI s.name then false else if(s.args.any λa=>dq a t || jl4 o n a t)then true else if jI t.name then false
   else if(t.args.any λb=> !jl4 o n s b)then false else if 0<jlh o s t then true else if jlh o s t<0 then false
   else match fd s.args t.args with|some (a,b)=>jl4 o n a b|none=>false
def jrz(e g l:Bool):Int:=if e then 1 else if g then 2 else if l then 3 else 0
noncomputable def jsI(o:Ord')(s t:T):Int:=jrz (dq s t) (jl4 o (nodes s+nodes t) s t) (jl4 o (nodes s+nodes t) t s)
noncomputable def jsK(o:Ord')(s t:T):A:=if jkc o && (jhm o s && jhm o t)then .tup [vi (jsI o s t),vb true]else .tup [vi 0,vb false]
mutual
def jdr:T->Xa
 |.mk n us=>if jI n then[n]else jds us
def jds:Xg->Xa
 | []=>[]
 |t::ts=>jdr t++jds ts
end
def jvD(l:Xa)(vs:Xa)(k:Nat)(r:Xa):Prop:=(∀n,n∈r↔n∈l\/n∈vs)/\r.length<=l.length+k
mutual
def cnt(n:Xb):T->Nat
 |.mk m us=>(if m=n then 1 else 0)+juc n us
def juc(n:Xb):Xg->Nat
 | []=>0
 |t::ts=>cnt n t+juc n ts
end
def bal(s t:T):Bool:=(jdr t).all λn=>decide (cnt n t<=cnt n s)
noncomputable def jqv(o:Ord'):Nat->T->T->Bool
 |0,_,_=>false
 |n+1,s,t=>if bal s t then(if wt o s=wt o t then(if jI s.name || jI t.name then false else if jlh o s t=0 then(match fd s.args t.args with|some (a,b)=>jqv o n a b|none=>false)else decide (0<jlh o s t))else decide (wt o t<wt o s))else false
noncomputable def jsH(o:Ord')(s t:T):Int:=jrz (dq s t) (jqv o (nodes s+nodes t) s t) (jqv o (nodes s+nodes t) t s)
noncomputable def jsJ(o:Ord')(s t:T):A:=if jkc o && (jhm o s && jhm o t)then .tup [vi (jsH o s t),vb true]else .tup [vi 0,vb false]
def yo(t:T):T:=t.args.getD 0 (.mk [] [])
def ql(t:T):T:=t.args.getD 1 (.mk [] [])
def jfC(t:T):Bool:=decide (t.args.length=2) && (kB t && (yb (yo t) && yb (ql t)))
theorem Q4{t:T}(hl:t.args.length=2):ji 2 (zh t.args) (vi 0)=some (.elt (jl (yo t)) 0)/\ji 2 (zh t.args) (vi 1)=some (.elt (jl (ql t)) 0)/\yo t∈t.args/\ql t∈t.args:=by
 have e0:yo t=t.args[0]:=by unfold yo;simp[List.getD_eq_getElem?_getD,hl]
 have e1:ql t=t.args[1]:=by unfold ql;simp[List.getD_eq_getElem?_getD,hl]
 rw[e0,e1];exact⟨jc (i:=0) (by omega),jc (i:=1) (by omega),List.getElem_mem _,List.getElem_mem _⟩
theorem jjq(t:T)(hw:twf t)(hs:tsz t<=1048576)(he:t.name=[61]):G 55 [tm t]=some (vb (jfC t),[]):=by
 obtain⟨w1,w2,w3⟩:=(yi t).1 hw;have w3:=(zy _).1 w3;have het:(t.name=[61])=True:=eq_true he;unfold jfC;rw[g55];by_cases hl:t.args.length=2;rotate_left
 .have hl':¬((t.args.length:Nat):Int)=2:=by omega
  simp only[jo,het,hl',hl,Bool.false_and]
 have hl':((t.args.length:Nat):Int)=2:=by omega
 rw[decide_eq_true hl,Bool.true_and];obtain⟨i0,i1,ma,mb⟩:=Q4 hl;have p1:=jeh t hw hs;have p2:=Yz _ (w3 _ ma);have p3:=Yz _ (w3 _ mb);cases h1:kB t<;>rw[h1]at p1
 .simp only[jo,het,hl',p1,Bool.false_and]
 .cases h2:yb (yo t)<;>rw[h2]at p2
  .simp only[jo,het,hl',p1,i0,js,p2,Bool.false_and,Bool.and_false]
  .simp only[jo,het,hl',p1,i0,i1,js,p2,p3,Bool.true_and]
theorem z8(t:T):G 84 [tm t]=some (vb (decide (t.name=[61])),[]):=by
 rw[g84];simp only[jo]
theorem jbe(t:T)(hw:twf t)(hs:tsz t<=1048576)(he:t.name=[61]):G 78 [tm t]=some (vb (jfC t),[]):=by
 obtain⟨w1,w2,w3⟩:=(yi t).1 hw;have w3:=(zy _).1 w3;have q0:=z8 t;rw[decide_eq_true he]at q0;unfold jfC;rw[g78];by_cases hl:t.args.length=2;rotate_left
 .have hl':¬((t.args.length:Nat):Int)=2:=by omega
  simp only[jo,q0,hl',hl,Bool.false_and]
 have hl':((t.args.length:Nat):Int)=2:=by omega
 rw[decide_eq_true hl,Bool.true_and];obtain⟨i0,i1,ma,mb⟩:=Q4 hl;have p1:=jci t hw hs;have p2:=K5 _ (w3 _ ma);have p3:=K5 _ (w3 _ mb);cases h1:kB t<;>rw[h1]at p1
 .simp only[jo,q0,hl',p1,Bool.false_and]
 .cases h2:yb (yo t)<;>rw[h2]at p2
  .simp only[jo,q0,hl',p1,i0,js,p2,Bool.false_and,Bool.and_false]
  .simp only[jo,q0,hl',p1,i0,i1,js,p2,p3,Bool.true_and]
def jxQ(o:Ord')(t:T):Bool:=decide (t.name=[61]) && (jfC t && (jp6 o.syms (yo t) && jp6 o.syms (ql t)))
theorem jar(n:Xb)(us:Xg):tsz (.mk n us)=n.length+us.length+ya us:=rfl
theorem jat:∀t:T,tsz t<=1048576->twf t:=by
 refine T.ind λt ih h=>?_;have h':=h;rw[zB]at h';exact(yi t).2 ⟨by omega,by omega,(zy _).2 λu hu=>ih u hu (by have:=y8 hu;omega)⟩
theorem juH{n:Nat}(h:n<=4194304):zq n 40=true:=by
 unfold zq;exact decide_eq_true ⟨by omega,by omega⟩
def Lp(o:Ord')(s t:T):Prop:=jl4 o (nodes s+nodes t) s t=true
def Kp(o:Ord')(s t:T):Prop:=jqv o (nodes s+nodes t) s t=true
def rbI(c:Int):Int:=if c=2 then 3 else if c=3 then 2 else c
open Classical in
open Classical in
def look:List (Xb×T)->Xb->Option T
 | [],_=>none
 |p::u,n=>if p.1=n then some p.2 else look u n
def jpr(u:List (Xb×T))(n:Xb):T:=(look u n).getD (.mk n [])
mutual
def sub(u:List (Xb×T)):T->T
 |.mk n us=>if jI n then jpr u n else .mk n (jmV u us)
def jmV(u:List (Xb×T)):Xg->Xg
 | []=>[]
 |t::ts=>sub u t::jmV u ts
end
theorem jiD(u:List (Xb×T)):∀ts:Xg,jmV u ts=ts.map (sub u)
 | []=>rfl
 |t::ts=>by rw[jmV,jiD u ts,List.map_cons]
theorem jrk{u:List (Xb×T)}{t:T}(h:jI t.name=true):sub u t=jpr u t.name:=by
 obtain⟨n,us⟩:=t;have h:jI n=true:=h;show(if jI n then jpr u n else T.mk n (jmV u us))=_;rw[if_pos h];rfl
theorem jgy{u:List (Xb×T)}{t:T}(h:jI t.name=false):sub u t = .mk t.name (t.args.map (sub u)):=by
 obtain⟨n,us⟩:=t;have h:jI n=false:=h;show(if jI n then jpr u n else T.mk n (jmV u us))=_;rw[h,if_neg Bool.false_ne_true,jiD];rfl
theorem jdj{u:List (Xb×T)}{t:T}(h:jI t.name=false):(sub u t).name=t.name:=by rw[jgy h];rfl
theorem jiE{u:List (Xb×T)}{t:T}(h:jI t.name=false):(sub u t).args=t.args.map (sub u):=by rw[jgy h];rfl
theorem jpB{t:T}(h:yb t=true)(hv:jI t.name=true):t.args=[]:=by
 rw[yP,hv,if_pos rfl]at h;exact List.isEmpty_iff.1 h
def jw7(f:Xb->Int):Xa->Int
 | []=>0
 |x::l=>f x+jw7 f l
abbrev bc(p:Xb×T):Xd:=[sv p.1,sv p.2.name,.sl 2 (p.2.args.map jl)]
abbrev sbs(u:List (Xb×T)):A:= .sl 3 (u.map bc)
abbrev sb(u:List (Xb×T)):A:= .agg [sbs u]
def Sz(z:Nat)(u:List (Xb×T)):Prop:=u.length<=z/\ ∀p∈u,p.1.length<=z/\tsz p.2<=z
abbrev zF:=List (Xb×T)
mutual
noncomputable def mt(m:zF)(p:T)(t:T):Option zF:=
 match p with
 |.mk n us=>if jI n then(match look m n with|some r=>if dq r t then some m else none|none=>some (m++[(n,t)]))
   else if n=t.name/\us.length=t.args.length then mtL m us t.args else none
termination_by structural p
noncomputable def mtL(m:zF)(ps:Xg)(ts:Xg):Option zF:=
 match ps with
 | []=>some m
 |u::us=>(match ts with| []=>some m|t::ts=>(mt m u t).bind λm'=>mtL m' us ts)
termination_by structural ps
end
theorem jk2:∀{u:zF}{n:Xb}{r:T},look u n=some r->(n,r)∈u
 |p::u,n,r,h=>by
  rw[look]at h;by_cases e:p.1=n
  .rw [if_pos e]at h;cases h;rw[<-e];simp
  .rw [if_neg e]at h;exact List.mem_cons_of_mem _ (jk2 h)
def MOk(p:T->Prop)(m:zF):Prop:=(m.map Prod.fst).Nodup/\(∀q∈m,jI q.1=true/\p q.2)
theorem MOk.nil(p:T->Prop):MOk p []:=⟨by simp,λq h=>by cases h⟩
def jwZ(s:zF)(n:Xb)(t:T):zF:=s.takeWhile (λp=>J6 p.1 n)++(n,t)::s.dropWhile (λp=>J6 p.1 n)
def jwY(s:zF)(n:Xb)(t:T):zF:=if t.name=n then s else jwZ s n t
def jtj(m:zF):zF:=m.foldl (λs p=>jwY s p.1 p.2) []
theorem jlk(a:Xb):J6 a a=false:=by
 unfold J6;cases h:Op.bytesLess a a with
 |false=>rfl
 |true=>
  exfalso;induction a with
  |nil=>simp[Op.bytesLess]at h
  |cons c r ih=>simp[Op.bytesLess]at h;exact ih h
theorem joF(n:Xb)(h:jI n=true):yb (.mk n [])=true:=by rw[yP];show(if jI n then _ else _)=true;rw[if_pos h];rfl
theorem jgz{u:zF}(hu:∀q∈u,yb q.2=true):∀t:T,yb t=true->yb (sub u t)=true:=by
 refine T.ind λt ih hk=>?_;cases hv:jI t.name with
 |true=>
  rw[jrk hv,jpr];cases h:look u t.name with
  |none=>exact joF _ hv
  |some r=>exact hu _ (jk2 h)
 |false=>
  have hk':=hk;rw[yP,hv,if_neg Bool.false_ne_true,Bool.and_eq_true,Bool.and_eq_true,J2]at hk;rw[yP,jdj hv,hv,if_neg Bool.false_ne_true,jiE hv,Bool.and_eq_true,Bool.and_eq_true,J2];refine⟨hk.1,by simpa using hk.2.1,?_⟩;rw[List.all_map,List.all_eq_true];intro a ha;exact ih a ha (List.all_eq_true.1 hk.2.2 a ha)
def jqB(r:T):T:=r.args.getD 0 (.mk [] [])
def jq4(r:T):T:=r.args.getD 1 (.mk [] [])
noncomputable def jpg:Xg->T->Option T
 | [],_=>none
 |r::rs,t=>(match mt [] (jqB r) t with|some m=>some (sub m (jq4 r))|none=>jpg rs t)
mutual
noncomputable def juC(rs:Xg)(root:Bool):T->Option T
 |.mk n us=>(match jr6 rs us with|some us'=>some (.mk n us')|none=>if root then jpg rs (.mk n us)else none)
noncomputable def jr6(rs:Xg):Xg->Option Xg
 | []=>none
 |t::ts=>(match juC rs true t with|some t'=>some (t'::ts)|none=>(jr6 rs ts).map (t::·))
end
def atT:Xf->T->T
 | [],t=>t
 |i::p,t=>atT p (t.args.getD i (.mk [] []))
def jsn(s:T):Xf->T->T
 | [],_=>s
 |i::p,t=>.mk t.name (t.args.set i (jsn s p (t.args.getD i (.mk [] []))))
mutual
def jh8:T->List Xf
 |.mk _ us=>jcT 0 us++[[]]
def jcT(i:Nat):Xg->List Xf
 | []=>[]
 |t::ts=>(jh8 t).map (i::·)++jcT (i+1) ts
end
noncomputable def jw5(rs:Xg)(root:Bool)(t:T)(p:Xf):Option T:=if p=[]/\root=false then none else(jpg rs (atT p t)).map λs=>jsn s p t
def jpQ(rs:Xg):Prop:=∀r∈rs,yb (jqB r)=true/\yb (jq4 r)=true
noncomputable def rwN(rs:Xg)(root:Bool):Nat->Nat->T->Option (T×Nat)
 |0,_,_=>none
 |k+1,n,t=>(match juC rs root t with
  |none=>some (t,n)
  |some u=>if k=0\/kB u=false then none else rwN rs root k (n+1) u)
def MR(o:Xe)(r:Option zF):Prop:=match r with
 |some m'=>o=some (.top,[vb true,.sl 259 (m'.map bc)])
 |none=>∃R,o=some (.top,[vb false,.sl 259 R])
def Tz(t:T):Prop:=tsz t<=1048576
theorem Tz.args{t:T}(h:Tz t):∀u∈t.args,Tz u:=λu hu=>by
 have:=y8 hu;unfold Tz at h⊢;rw[zB]at h;omega
theorem Tz.wf{t:T}(h:Tz t):twf t:=jat t h
abbrev kv(p:Xb×T):Xd:=[sv p.1,tm p.2]
def MI(o:Xe)(r:Option zF):Prop:=match r with
 |some m'=>o=some (.top,[vb true,.sl 128 (m'.map kv)])
 |none=>∃R,o=some (.top,[vb false,.sl 128 R])
abbrev pln(p:Xf):A:= .sl 1 (p.map λn=>[vi (n:Nat)])
abbrev plc(p:Xf):Xd:=[pln p]
mutual
theorem jmt:∀t:T,(jh8 t).length=nodes t
 |.mk n us=>by
  rw[jh8,nodes,List.length_append,jex us 0];simp;omega
theorem jex:∀(us:Xg)(i:Nat),(jcT i us).length=jE us
 | [],i=>rfl
 |t::ts,i=>by
  rw[jcT,jE,List.length_append,List.length_map,jmt t,jex ts (i+1)]
end
def okP:Xf->T->Prop
 | [],_=>True
 |i::p,t=>i<t.args.length/\okP p (t.args.getD i (.mk [] []))
theorem jkK{ts:Xg}{i:Nat}(h:i<ts.length):ts.getD i (.mk [] [])=ts[i]:=by rw[List.getD_eq_getElem?_getD,List.getElem?_eq_getElem h];rfl
mutual
theorem jo8:∀(t:T),∀p∈jh8 t,okP p t/\p.length<=nodes t
 |.mk n us=>λp hp=>by
  rw[jh8,List.mem_append]at hp;rcases hp with hp|hp
  .obtain ⟨j,q,rfl,h1,h2,h3⟩:=jh7 us 0 p hp;refine⟨?_,?_⟩
   .show (0+j)<us.length/\okP q (us.getD (0+j) _);rw[Nat.zero_add];exact⟨h1,h2⟩
   .rw [List.length_cons,nodes];omega
  .rw [List.mem_singleton]at hp;subst hp;exact⟨trivial,by simp⟩
theorem jh7:∀(us:Xg)(i:Nat),∀p∈jcT i us,∃j q,p=(i+j)::q/\j<us.length/\okP q (us.getD j (.mk [] []))/\q.length<=jE us
 | [],i,p,hp=>by rw[jcT]at hp;cases hp
 |t::ts,i,p,hp=>by
  rw[jcT,List.mem_append]at hp;rcases hp with hp|hp
  .obtain ⟨q,hq,rfl⟩:=List.mem_map.1 hp;obtain⟨h1,h2⟩:=jo8 t q hq;exact⟨0,q,rfl,by simp,h1,by rw[jE];omega⟩
  .obtain ⟨j,q,rfl,h1,h2,h3⟩:=jh7 ts (i+1) p hp;exact⟨j+1,q,by rw[show i+1+j=i+(j+1) by omega],by simpa using h1,by simpa using h2,by rw[jE];omega⟩
end
theorem jk5{q:T->Prop}(hq:∀t,q t-> ∀u∈t.args,q u):∀{p:Xf}{t:T},okP p t->q t->q (atT p t)
 | [],_,_,h=>h
 |i::p,t,hp,h=>by
  obtain⟨h1,h2⟩:=hp;refine jk5 (p:=p) hq h2 ?_;rw[jkK h1];exact hq t h _ (List.getElem_mem _)
theorem jpA{n:Xb}(h:jI n=true):n.length<=4:=by
 cases n with
 |nil=>simp
 |cons c r=>
  simp only[jI,Bool.and_eq_true,decide_eq_true_eq]at h;rw[List.length_cons];omega
theorem jmW{n:Xb}(h:yX n=true):n.length<=6:=by
 cases n with
 |nil=>simp
 |cons c r=>
  simp only[yX,Bool.and_eq_true,decide_eq_true_eq]at h;rw[List.length_cons];omega
theorem jah:∀t:T,yb t=true->tsz t<=10*nodes t:=by
 refine T.ind λt ih hk=>?_;have hL:∀us:Xg,(∀u∈us,tsz u<=10*nodes u)->ya us<=10*jE us:=by
  intro us;induction us with
  |nil=>intro _;simp[ya]
  |cons u us ih2=>
   intro h;have:=h u (by simp);have:=ih2 λw hw=>h w (by simp[hw]);simp only[ya,jE];omega
 have h1:=hL t.args λu hu=>ih u hu (qe hk u hu);rw[zB,j5];rw[yP]at hk;cases hv:jI t.name with
 |true=>
  rw[hv,if_pos rfl]at hk;have:=jpA hv;rw[List.isEmpty_iff.1 hk]at h1⊢;simp only[List.length_nil,ya]at h1⊢;omega
 |false=>
  rw[hv,if_neg Bool.false_ne_true,Bool.and_eq_true,Bool.and_eq_true,decide_eq_true_eq]at hk;have:=jmW hk.1;omega
theorem jmb{t u:T}(h:u∈t.args):nodes u<nodes t:=by
 have:=YE h;have:=j5 t;omega
def Vs(t:T):Prop:=yb t=true/\nodes t<=30
theorem Vs.args{t:T}(h:Vs t):∀u∈t.args,Vs u:=λu hu=>⟨qe h.1 u hu,by have:=jmb hu;have:=h.2;omega⟩
theorem Vs.tz{t:T}(h:Vs t):Tz t:=by
 have:=jah t h.1;have:=h.2;unfold Tz;omega
def RS(rs:Xg):Prop:=rs.length<=10/\ ∀r∈rs,r.args.length=2/\Vs (jqB r)/\Vs (jq4 r)
theorem RS.ok{rs:Xg}(h:RS rs):jpQ rs:=λr hr=>⟨(h.2 r hr).2.1.1,(h.2 r hr).2.2.1⟩
def EX(root:Bool)(t:T):Prop:=(nodes t<=31/\Tz t)/\(∀u∈t.args,Vs u)/\(root=true->Vs t)
def jyu(t:T)(o:Option T):Xe:=match o with|some u=>some (.tup [tm u,vb true],[])|none=>some (.tup [tm t,vb false],[])
theorem EX.at{root:Bool}{t:T}(h:EX root t){p:Xf}(hp:okP p t)(hne:¬(p=[]/\root=false)):Vs (atT p t):=by
 obtain⟨_,h1,h2⟩:=h;cases p with
 |nil=>
  cases root
  .exact absurd ⟨rfl,rfl⟩ hne
  .exact h2 rfl
 |cons i p=>
  obtain⟨a,b⟩:=hp;refine jk5 (p:=p) (q:=Vs) (λ_ h=>h.args) b ?_;rw[jkK a];exact h1 _ (List.getElem_mem _)
def juD(o:Option T):Xe:=match o with|some u=>some (.tup [tm u,vb true],[])|none=>some (.tup [.agg [sv [],.sl 2 []],vb false],[])
def Srt(l:Xa):Prop:=l.Pairwise λx y=>x<y
theorem jgr(x y:Xb):J6 x y=decide (x<y):=Go.Proofs.bytesLess_eq x y
mutual
def ju6:T->Xa
 |.mk n us=>(if jI n then[]else[n])++jpv us
def jpv:Xg->Xa
 | []=>[]
 |t::ts=>ju6 t++jpv ts
end
theorem jj6{n:Xb}(h:jI n=true):yX n=false:=by
 cases n with
 |nil=>rfl
 |cons c r=>
  simp only[jI,Bool.and_eq_true,upc,ym,decide_eq_true_eq]at h;have:Z5 c=false:=by unfold Z5 ym;rw[Bool.and_eq_false_iff];left;rw[decide_eq_false_iff_not];omega
  simp[yX,this]
def jxg(l vs:Xa)(k:Nat)(r:Xa):Prop:=jvD l vs k r/\(l.Nodup->r.Nodup)
def jyH(r:Xa):Ord':=⟨r,List.replicate r.length 1,1⟩
def EX'(root:Bool)(t:T):Prop:=EX root t/\(root=false->t.name=[61]/\t.args.length=2)
theorem jqO{us:Xg}(h:∀u∈us,yb u=true):ya us<=10*jE us:=by
 induction us with
 |nil=>simp[ya]
 |cons u us ih=>
  have:=jah u (h u (by simp));have:=ih λw hw=>h w (by simp[hw]);simp only[ya,jE];omega
def jyt(o:Option (T×Nat)):Xe:=match o with|some r=>some (.tup [tm r.1,vi (r.2:Nat),vb true],[])|none=>some (.tup [.agg [sv [],.sl 2 []],vi 0,vb false],[])
structure Law3{α:Type}(c:α->α->Int):Prop where
 zero:∀a b,c a b=0↔a=b
 flip:∀a b,c b a = -(c a b)
 trans:∀a b d,c a b<0->c b d<0->c a d<0
section
variable{α:Type}{c:α->α->Int}
def Asc(c:α->α->Int)(l:List α):Prop:=l.Pairwise λa b=>c a b<0
def jue(eq:α->α->Bool):List α->List α
 | []=>[]
 |a::l=>(match jue eq l with| []=>[a]|b::m=>if eq a b then b::m else a::b::m)
theorem Yn{p:α->Bool} :∀{l:List α}{a:α},a∈l.takeWhile p->p a=true
 |x::l,a,h=>by
  by_cases hx:p x=true
  .rw [List.takeWhile_cons_of_pos hx]at h;rcases List.mem_cons.1 h with e|e
   .rw [e];exact hx
   .exact Yn e
  .rw [List.takeWhile_cons_of_neg hx]at h;cases h
def jdD(c:α->α->Int)(l:List α)(x:α):List α:=if(l.dropWhile λa=>decide (c a x<0)).head?.any (λb=>decide (c b x=0))then l else l.takeWhile (λa=>decide (c a x<0))++x::l.dropWhile λa=>decide (c a x<0)
theorem jn2(h:Law3 c){l:List α}(hl:Asc c l)(x:α):Asc c (jdD c l x)/\ ∀y,y∈jdD c l x↔y∈l\/y=x:=by
 have e:=List.takeWhile_append_dropWhile (p:=λa=>decide (c a x<0)) (l:=l);have ht:∀a∈l.takeWhile (λa=>decide (c a x<0)),c a x<0:=λa ha=>of_decide_eq_true (Yn (p:=λa=>decide (c a x<0)) ha);unfold jdD;generalize l.takeWhile (λa=>decide (c a x<0))=t at *;cases hd:l.dropWhile (λa=>decide (c a x<0))with
 |nil=>
  rw[hd,List.append_nil]at e;subst e;rw[if_neg (by simp)];refine⟨?_,λy=>by simp⟩;refine List.pairwise_append.2 ⟨hl,by simp,λa ha b hb=>?_⟩;simp only[List.mem_singleton]at hb;rw[hb];exact ht a ha
 |cons b m=>
  have hb:¬c b x<0:=by
   intro hb;have:=List.head?_dropWhile_not (p:=λa=>decide (c a x<0)) l;rw[hd]at this;simp[hb]at this
  rw[hd]at e;by_cases h0:c b x=0
  .rw [if_pos (by simp[h0])];refine⟨hl,λy=>⟨Or.inl,λhy=>?_⟩⟩;rcases hy with hy|hy
   .exact hy
   .rw [hy,<-(h.zero b x).1 h0,<-e];simp
  .rw [if_neg (by simp[h0])];rw[<-e]at hl;obtain⟨p1,p2,p3⟩:=List.pairwise_append.1 hl;have hxb:c x b<0:=by have:=h.flip b x;omega
   refine⟨List.pairwise_append.2 ⟨p1,List.pairwise_cons.2 ⟨λy hy=>?_,p2⟩,λa ha y hy=>?_⟩,λy=>?_⟩
   .rcases List.mem_cons.1 hy with e'|e'
    .rw [e'];exact hxb
    .exact h.trans x b y hxb ((List.pairwise_cons.1 p2).1 y e')
   .rcases List.mem_cons.1 hy with e'|e'
    .rw [e'];exact ht a ha
    .exact p3 a ha y e'
   .rw [<-e];simp only[List.mem_append,List.mem_cons];constructor
    .rintro (h|h|h|h)
     .exact Or.inl (Or.inl h)
     .exact Or.inr h
     .exact Or.inl (Or.inr (Or.inl h))
     .exact Or.inl (Or.inr (Or.inr h))
    .rintro ((h|h|h)|h)
     .exact Or.inl h
     .exact Or.inr (Or.inr (Or.inl h))
     .exact Or.inr (Or.inr (Or.inr h))
     .exact Or.inr (Or.inl h)
def Yj(c:α->α->Int)(l:List α):List α:=l.foldl (jdD c) []
theorem jl5(h:Law3 c)(l:List α):Asc c (Yj c l)/\ ∀y,y∈Yj c l↔y∈l:=by
 have key:∀(l m:List α),Asc c m->Asc c (l.foldl (jdD c) m)/\ ∀y,y∈l.foldl (jdD c) m↔y∈m\/y∈l:=by
  intro l;induction l with
  |nil=>intro m hm;exact⟨hm,λy=>by simp⟩
  |cons x l ih=>
   intro m hm;obtain⟨g1,g2⟩:=jn2 h hm x;obtain⟨k1,k2⟩:=ih _ g1;refine⟨k1,λy=>?_⟩;rw[List.foldl_cons,k2,g2,List.mem_cons,or_assoc]
 obtain⟨g1,g2⟩:=key l [] List.Pairwise.nil;exact⟨g1,λy=>by rw[Yj,g2];simp⟩
end
theorem js3{α β γ:Type}{f:γ->α}{g:γ->β}{c:α->α->Int}{d:β->β->Int}(hc:Law3 c)(hd:Law3 d)(hi:∀x y,f x=f y->g x=g y->x=y):Law3 λx y:γ=>if c (f x) (f y)≠0 then c (f x) (f y)else d (g x) (g y):=by
 refine⟨λa b=>?_,λa b=>?_,λa b e=>?_⟩
 .show (if c (f a) (f b)≠0 then c (f a) (f b)else d (g a) (g b))=0↔_;by_cases h:c (f a) (f b)=0
  .rw [if_neg (λh'=>h' h),hd.zero];exact⟨λh2=>hi a b ((hc.zero _ _).1 h) h2,λh2=>by rw[h2]⟩
  .rw [if_pos h];exact⟨λh2=>absurd h2 h,λh2=>by rw[h2]at h;exact absurd ((hc.zero _ _).2 rfl) h⟩
 .show (if c (f b) (f a)≠0 then c (f b) (f a)else d (g b) (g a)) = -(if c (f a) (f b)≠0 then c (f a) (f b)else d (g a) (g b));rw[hc.flip (f a) (f b),hd.flip (g a) (g b)];by_cases h:c (f a) (f b)=0
  .rw [if_neg (by omega),if_neg (by omega)]
  .rw [if_pos (by omega),if_pos (by omega)]
 .show (if c (f a) (f b)≠0 then c (f a) (f b)else d (g a) (g b))<0->(if c (f b) (f e)≠0 then c (f b) (f e)else d (g b) (g e))<0->(if c (f a) (f e)≠0 then c (f a) (f e)else d (g a) (g e))<0;by_cases h1:c (f a) (f b)=0
  .have e1:=(hc.zero _ _).1 h1;rw[if_neg (λh'=>h' h1),e1];by_cases h2:c (f b) (f e)=0
   .rw [if_neg (λh'=>h' h2),if_neg (λh'=>h' h2)];exact hd.trans _ _ _
   .rw [if_pos h2,if_pos h2];exact λ_ h=>h
  .rw [if_pos h1];by_cases h2:c (f b) (f e)=0
   .have e2:=(hc.zero _ _).1 h2;rw[if_neg (λh'=>h' h2),<-e2,if_pos h1];exact λh _=>h
   .rw [if_pos h2];intro h3 h4;have:=hc.trans _ _ _ h3 h4;rw[if_pos (by omega)];exact this
def kx(x y:Xb):Int:=if J6 x y then -1 else if x=y then 0 else 1
theorem JW:Law3 kx:=by
 have irr:=jlk;have asy:∀x y,J6 x y=true->J6 y x=true->False:=λx y h1 h2=>by
  rw[jgr,decide_eq_true_eq]at h1 h2;exact absurd (List.lt_trans h1 h2) (List.lt_irrefl _)
 have tot:∀x y,x=y\/J6 x y=true\/J6 y x=true:=λx y=>by
  rw[jgr,jgr,decide_eq_true_eq,decide_eq_true_eq];rcases Classical.em (x<y)with h|h
  .exact Or.inr (Or.inl h)
  rcases Classical.em (y<x)with h'|h'
  .exact Or.inr (Or.inr h')
  .exact Or.inl (List.le_antisymm (List.not_lt.1 h') (List.not_lt.1 h))
 have tr:∀x y z,J6 x y=true->J6 y z=true->J6 x z=true:=λx y z h1 h2=>by
  rw[jgr,decide_eq_true_eq]at *;exact List.lt_trans h1 h2
 have neg:∀x y,kx x y<0↔J6 x y=true:=λx y=>by
  unfold kx;cases h:J6 x y with
  |true=>simp
  |false=>
   rw[if_neg Bool.false_ne_true];split<;>simp
 refine⟨λa b=>?_,λa b=>?_,λa b d h1 h2=>(neg _ _).2 (tr _ _ _ ((neg _ _).1 h1) ((neg _ _).1 h2))⟩
 .unfold kx;cases h:J6 a b with
  |true=>rw[if_pos rfl];exact⟨λh'=>by omega,λe=>by rw[e,irr]at h;cases h⟩
  |false=>
   rw[if_neg Bool.false_ne_true];by_cases e:a=b
   .rw [if_pos e];exact⟨λ_=>e,λ_=>rfl⟩
   .rw [if_neg e];exact⟨λh'=>by omega,λh'=>absurd h' e⟩
 .unfold kx;rcases tot a b with e|e|e
  .subst e;rw[irr,if_neg Bool.false_ne_true,if_pos rfl];rfl
  .have h2:J6 b a=false:=by
    cases h:J6 b a with
    |false=>rfl
    |true=>exact(asy _ _ e h).elim
   have hne:¬b=a:=λh=>by rw[h,irr]at e;cases e
   rw[e,h2,if_neg Bool.false_ne_true,if_neg hne,if_pos rfl];rfl
  .have h2:J6 a b=false:=by
    cases h:J6 a b with
    |false=>rfl
    |true=>exact(asy _ _ e h).elim
   have hne:¬a=b:=λh=>by rw[h,irr]at e;cases e
   rw[e,h2,if_neg Bool.false_ne_true,if_neg hne,if_pos rfl]
def jV(x y:Nat):Int:=if x<y then -1 else if y<x then 1 else 0
theorem K0:Law3 jV:=by
 refine⟨λa b=>?_,λa b=>?_,λa b d=>?_⟩<;>unfold jV
 .split
  .omega
  .split<;>omega
 .split<;>split<;>(try split)<;>omega
 .intro h1 h2;by_cases h:a<b
  .by_cases h3:b<d
   .rw [if_pos (by omega)];omega
   .rw [if_neg h3]at h2;split at h2<;>omega
  .rw [if_neg h]at h1;split at h1<;>omega
def vF(n:Xb):Nat:=if jI n then 0 else 1
abbrev Key:=Nat×(Xb×Nat)
def cK(x y:Key):Int:=if jV x.1 y.1≠0 then jV x.1 y.1 else if kx x.2.1 y.2.1≠0 then kx x.2.1 y.2.1 else jV x.2.2 y.2.2
theorem KY:Law3 cK:=by
 have h2:Law3 λx y:Xb×Nat=>if kx x.1 y.1≠0 then kx x.1 y.1 else jV x.2 y.2:=js3 (f:=Prod.fst) (g:=Prod.snd) JW K0 λx y h1 h2=>Prod.ext h1 h2;exact js3 (f:=Prod.fst) (g:=Prod.snd) K0 h2 λx y h1 h2=>Prod.ext h1 h2
def qm(t:T):Key:=(vF t.name,(t.name,t.args.length))
mutual
def zv(a b:T):Int:=
 match a with
 |.mk n us=>if cK (qm (.mk n us)) (qm b)≠0 then cK (qm (.mk n us)) (qm b)else kN us b.args
termination_by structural a
def kN(xs bs:Xg):Int:=
 match xs with
 | []=>0
 |a::xs=>(match bs with| []=>0|b::bs=>if zv a b≠0 then zv a b else kN xs bs)
termination_by structural xs
end
theorem Zz(a b:T):zv a b=if cK (qm a) (qm b)≠0 then cK (qm a) (qm b)else kN a.args b.args:=by cases a;rfl
theorem jfT{a b:T}(h:qm a=qm b):a.name=b.name/\a.args.length=b.args.length:=by
 unfold qm at h;simp only[Prod.mk.injEq]at h;exact h.2
theorem jtO{a b:T}(h1:a.name=b.name)(h2:a.args=b.args):a=b:=by
 cases a;cases b;simp only[T.name,T.args]at h1 h2;rw[h1,h2]
theorem jso:∀{xs bs:Xg},(∀u∈xs,∀v,zv u v=0↔u=v)->xs.length=bs.length->(kN xs bs=0↔xs=bs)
 | [],[],_,_=>by simp[kN]
 | [],_::_,_,h=>by cases h
 |_::_,[],_,h=>by cases h
 |a::xs,b::bs,h,hl=>by
  rw[kN];have ih:=jso (xs:=xs) (bs:=bs) (λu hu=>h u (by simp[hu])) (Nat.succ.inj hl);by_cases h0:zv a b=0
  .rw [if_neg (λh'=>h' h0),ih,(h a (by simp) b).1 h0];simp
  .rw [if_pos h0];exact⟨λh'=>absurd h' h0,λe=>by rw[List.cons.injEq]at e;exact(h a (by simp) b).2 e.1⟩
theorem jrE:∀{xs bs:Xg},(∀u∈xs,∀v,zv v u = -(zv u v))->xs.length=bs.length->kN bs xs = -(kN xs bs)
 | [],[],_,_=>by simp[kN]
 | [],_::_,_,h=>by cases h
 |_::_,[],_,h=>by cases h
 |a::xs,b::bs,h,hl=>by
  rw[kN,kN,h a (by simp) b,jrE (xs:=xs) (bs:=bs) (λu hu=>h u (by simp[hu])) (Nat.succ.inj hl)];by_cases h0:zv a b=0
  .rw [if_neg (by omega),if_neg (by omega)]
  .rw [if_pos (by omega),if_pos (by omega)]
theorem jpx(z:∀u v:T,zv u v=0↔u=v):∀{xs bs ds:Xg},(∀u∈xs,∀v w,zv u v<0->zv v w<0->zv u w<0)->xs.length=bs.length->bs.length=ds.length->kN xs bs<0->kN bs ds<0->kN xs ds<0
 | [],_,_,_,_,_,h1,_=>by simp[kN]at h1
 |a::xs,[],_,_,h,_,_,_=>by cases h
 |a::xs,b::bs,[],_,_,h,_,_=>by cases h
 |a::xs,b::bs,d::ds,h,hl,hl2,h1,h2=>by
  rw[kN]at h1 h2⊢;by_cases c1:zv a b=0
  .have e1:=(z a b).1 c1;rw[if_neg (λh'=>h' c1)]at h1;rw[e1];by_cases c2:zv b d=0
   .rw [if_neg (λh'=>h' c2)]at h2;rw[if_neg (λh'=>h' c2)];exact jpx z (λu hu=>h u (by simp[hu])) (Nat.succ.inj hl) (Nat.succ.inj hl2) h1 h2
   .rw [if_pos c2]at h2;rw[if_pos c2];exact h2
  .rw [if_pos c1]at h1;by_cases c2:zv b d=0
   .rw [<-(z b d).1 c2,if_pos c1];exact h1
   .rw [if_pos c2]at h2;have:=h a (by simp) b d h1 h2;rw[if_pos (by omega)];exact this
theorem jnK:Law3 zv:=by
 have z:∀a b:T,zv a b=0↔a=b:=by
  refine T.ind λa ih b=>?_;rw[Zz];by_cases h:cK (qm a) (qm b)=0
  .have hk:=(KY.zero _ _).1 h;obtain⟨h1,h2⟩:=jfT hk;rw[if_neg (λh'=>h' h),jso ih h2];exact⟨λe=>jtO h1 e,λe=>by rw[e]⟩
  .rw [if_pos h];exact⟨λh'=>absurd h' h,λe=>by rw[e]at h;exact absurd ((KY.zero _ _).2 rfl) h⟩
 refine⟨z,?_,?_⟩
 .refine T.ind λa ih b=>?_;rw[Zz,Zz a b,KY.flip (qm a) (qm b)];by_cases h:cK (qm a) (qm b)=0
  .obtain ⟨_,h2⟩:=jfT ((KY.zero _ _).1 h);rw[if_neg (by omega),if_neg (by omega),jrE ih h2]
  .rw [if_pos (by omega),if_pos (by omega)]
 .refine T.ind λa ih b d h1 h2=>?_;rw[Zz]at h1 h2⊢;by_cases c1:cK (qm a) (qm b)=0
  .have e1:=(KY.zero _ _).1 c1;rw[if_neg (λh'=>h' c1)]at h1;rw[e1];by_cases c2:cK (qm b) (qm d)=0
   .have e2:=(KY.zero _ _).1 c2;rw[if_neg (λh'=>h' c2)]at h2;rw[if_neg (λh'=>h' c2)];exact jpx z ih (jfT e1).2 (jfT e2).2 h1 h2
   .rw [if_pos c2]at h2;rw[if_pos c2];exact h2
  .rw [if_pos c1]at h1;by_cases c2:cK (qm b) (qm d)=0
   .rw [<-(KY.zero _ _).1 c2,if_pos c1];exact h1
   .rw [if_pos c2]at h2;have:=KY.trans _ _ _ h1 h2;rw[if_pos (by omega)];exact this
def upN:Xb->Bool
 | []=>false
 |c::_=>upc c
mutual
def val(M:Xb->Xi->Int)(e:Xb->Int):T->Int
 |.mk n us=>if us.isEmpty && upN n then e n else M n (jva M e us)
def jva(M:Xb->Xi->Int)(e:Xb->Int):Xg->Xi
 | []=>[]
 |t::ts=>val M e t::jva M e ts
end
section
variable{M:Xb->Xi->Int}
def Ext(m m':zF):Prop:=∀x r,look m x=some r->look m' x=some r
theorem Ext.refl(m:zF):Ext m m:=λ_ _ h=>h
theorem Ext.trans{a b c:zF}(h:Ext a b)(h':Ext b c):Ext a c:=λx r hx=>h' x r (h x r hx)
variable{jhm:Int->Prop}
def jxk(M:Xb->Xi->Int)(jhm:Int->Prop)(rs:Xg):Prop:=∀r∈rs,∀e:Xb->Int,(∀x,jhm (e x))->val M e (jqB r)=val M e (jq4 r)
end
def dec(n:Nat):Nat->Nat->Xf
 |0,_=>[]
 |l+1,k=>k % n::dec n l (k / n)
def enc(n:Nat):Xf->Nat
 | []=>0
 |v::vs=>v+n*enc n vs
def vnA(l:Xa)(n:Xb):Xa:=if l.contains n then l else l++[n]
mutual
def vn(l:Xa):T->Xa
 |.mk n us=>if us.isEmpty && upN n then vnA l n else vnL l us
def vnL(l:Xa):Xg->Xa
 | []=>l
 |t::ts=>vnL (vn l t) ts
end
def VIn(S:Xa)(t:T):Prop:=∀x∈jdr t,x∈S
abbrev Lt:=Bool×T
def fl(b:Bool):Nat:=if b then 1 else 0
def cmpL(a b:Lt):Int:=if zv a.2 b.2≠0 then zv a.2 b.2 else jV (fl a.1) (fl b.1)
theorem jg5:Law3 cmpL:=js3 (f:=Prod.snd) (g:=λl:Lt=>fl l.1) jnK K0 λx y h1 h2=>by
 obtain⟨p,t⟩:=x;obtain⟨q,u⟩:=y;have h1:t=u:=h1;have h2:fl p=fl q:=h2;subst h1;cases p<;>cases q<;>first|rfl|(simp[fl]at h2)
abbrev kW:=List Lt
def jgW:kW->Bool
 |a::b::l=>decide (cmpL a b<0) && jgW (b::l)
 |_=>true
theorem jgX:∀c:kW,jgW c=true↔Asc cmpL c
 | []=>by simp[jgW,Asc]
 | [a]=>by simp[jgW,Asc]
 |a::b::l=>by
  rw[jgW,Bool.and_eq_true,decide_eq_true_eq,jgX (b::l)];unfold Asc;constructor
  .rintro ⟨h1,h2⟩;refine List.pairwise_cons.2 ⟨λx hx=>?_,h2⟩;rcases List.mem_cons.1 hx with e|e
   .rw [e];exact h1
   .exact jg5.trans a b x h1 ((List.pairwise_cons.1 h2).1 x e)
  .intro h;exact⟨(List.pairwise_cons.1 h).1 b (by simp),(List.pairwise_cons.1 h).2⟩
mutual
def jcL(l:Xa):T->Xa
 |.mk n us=>if jI n then vnA l n else jcJ l us
def jcJ(l:Xa):Xg->Xa
 | []=>l
 |t::ts=>jcJ (jcL l t) ts
end
theorem jqR(l:Xa)(t:T):jcL l t=if jI t.name then vnA l t.name else jcJ l t.args:=by cases t;rfl
def Ks(c:kW):Xa:=c.foldl (λl x=>jcL l x.2) []
def js4(p:UInt8)(i:Nat):Xb:=p::Lib.decDigits i
def jkR(c:kW):Bool:=decide (Ks c=(List.range (Ks c).length).map (js4 88))
mutual
def KO(f:Xb->Xb):T->T
 |.mk n us=>if jI n then .mk (f n) []else .mk n (qf f us)
def qf(f:Xb->Xb):Xg->Xg
 | []=>[]
 |t::ts=>KO f t::qf f ts
end
theorem jii(f:Xb->Xb):∀ts:Xg,qf f ts=ts.map (KO f)
 | []=>rfl
 |t::ts=>by rw[qf,jii f ts,List.map_cons]
theorem jgo(f:Xb->Xb)(t:T):KO f t=if jI t.name then .mk (f t.name) []else .mk t.name (t.args.map (KO f)):=by
 cases t;rw[KO,jii];rfl
def jbT(p:UInt8)(l:Xa)(n:Xb):Xb:=match l.findIdx? (λx=>decide (x=n))with|some i=>js4 p i|none=>n
def renC(p:UInt8)(c:kW):kW:=Yj cmpL (c.map λl=>(l.1,KO (jbT p (Ks c)) l.2))
def normF:Nat->kW->kW
 |0,c=>c
 |k+1,c=>if jkR c then c else normF k (renC 88 c)
def normC(c:kW):kW:=normF 10 c
theorem jd8(t:T)(h:yb t=true\/t.name=[61]):G 122 [tm t]=some (vb (jI t.name),[]):=by
 rcases h with h|h
 .exact jn6 t h
 .have e1:=Jb 61;have hx:jK (sv t.name) (vi 0)=some (vy ((61:UInt8).toNat:Int)):=by rw[h];exact zj
  have hv:jI t.name=upc 61:=by rw[h];decide
  rw[juo,hv];simp only[jo,hx,e1]
theorem Kj(x y:Xb):kx x y=if J6 x y then -1 else if J6 y x then 1 else 0:=by
 have hf:=JW.flip x y;cases h1:J6 x y with
 |true=>unfold kx;rw[h1];rfl
 |false=>
  rw[if_neg Bool.false_ne_true];cases h2:J6 y x with
  |true=>
   have:kx y x = -1:=by unfold kx;rw[h2,if_pos rfl]
   rw[if_pos rfl];omega
  |false=>
   rw[if_neg Bool.false_ne_true];have a1:kx x y=0\/kx x y=1:=by
    unfold kx;rw[h1,if_neg Bool.false_ne_true];split<;>simp
   have a2:kx y x=0\/kx y x=1:=by
    unfold kx;rw[h2,if_neg Bool.false_ne_true];split<;>simp
   omega
theorem jer(b:Bool)(x y:Xb):jw .gtr b (sv x) (sv y)=some (vb (J6 y x)):=by
 show some (vb (!(J6 x y || decide (x=y))))=_;by_cases e:x=y
 .subst e;rw[jlk,decide_eq_true rfl];rfl
 have h1:=Kj x y;have h3:=JW.flip x y;have h4:=Kj y x;rw[decide_eq_false e,Bool.or_false];cases a:J6 x y<;>cases c:J6 y x<;>rw[a,c]at h1 h4
 .exact absurd ((JW.zero x y).1 h1) e
 .rfl
 .rfl
 .have h1:kx x y = -1:=h1;have h4:kx y x = -1:=h4;omega
theorem jg6(x y:Xb):G 123 [sv x,sv y]=some (vi (kx x y),[]):=by
 have n1:G 159 [sv x]=some (vb false,[]):=by rw[juq];simp only[jo]
 have n2:G 159 [sv y]=some (vb false,[]):=by rw[juq];simp only[jo]
 rw[jwj,Kj];cases h1:J6 x y<;>cases h2:J6 y x<;>simp only[jo,n1,n2,jer,h1,h2]
theorem jaH(x y:Nat):G 81 [vi (x:Nat),vi (y:Nat)]=some (vi (jV x y),[]):=by
 have n1:G 125 [vi (x:Nat)]=some (vb false,[]):=by rw[jup];simp only[jo]
 have n2:G 125 [vi (y:Nat)]=some (vb false,[]):=by rw[jup];simp only[jo]
 rw[g81];unfold jV;by_cases h1:x<y
 .have h1':((x:Nat):Int)<((y:Nat):Int):=by omega
  rw[if_pos h1];simp only[jo,n1,n2,h1']
 .have h1':¬((x:Nat):Int)<((y:Nat):Int):=by omega
  rw[if_neg h1];by_cases h2:y<x
  .have h2':((y:Nat):Int)<((x:Nat):Int):=by omega
   rw[if_pos h2];simp only[jo,n1,n2,h1',h2']
  .have h2':¬((y:Nat):Int)<((x:Nat):Int):=by omega
   rw[if_neg h2];simp only[jo,n1,n2,h1',h2']
theorem joK(a b:Int):G 79 [.sl 1 [[vi a],[vi b]]]=some (vi (if a≠0 then a else b),[]):=by
 have i0:ji 1 (.sl 1 [[vi a],[vi b]]) (vi 0)=some (.elt [vi a] 0):=rfl;have i1:ji 1 (.sl 1 [[vi a],[vi b]]) (vi 1)=some (.elt [vi b] 0):=rfl;have ll:Qz (.sl 1 [[vi a],[vi b]])=some (vi 2):=rfl;have c0:jw .add false (vi 0) (vi 1)=some (vi 1):=by rw[Jf,zo (by decide) (by decide)];rfl
 have c1:jw .add false (vi 1) (vi 1)=some (vi 2):=by rw[Jf,zo (by decide) (by decide)];rfl
 have z0:(0:Int)<2:=by decide
 have z1:(1:Int)<2:=by decide
 have z2:¬(2:Int)<2:=by decide
 generalize A.sl 1 [[vi a],[vi b]]=X at *;have k2:jgM (vi 0) X (vi 2) (vi 2)=some (vi 0,[]):=by rw[jor];simp only[jo,z2]
 have k1:jgM (vi 0) X (vi 2) (vi 1)=some (vi b,[]):=by
  rw[jor];by_cases hb:b=0
  .simp only[jo,z1,i1,hb,c1,k2]
  .simp only[jo,z1,i1,hb]
 rw[g79];simp only[cev];rw[ll,Option.bind_some,jor];by_cases ha:a=0
 .rw [if_neg (λh=>h ha)];simp only[jo,z0,i0,ha,c0,k1]
 .rw [if_pos ha];simp only[jo,z0,i0,ha]
def Rx'(t:T):Prop:=yb t=true\/(t.name=[61]/\ ∀u∈t.args,yb u=true)
theorem Rx'.args{t:T}(h:Rx' t):∀u∈t.args,Rx' u:=λu hu=>Or.inl (by
 rcases h with h|h
 .exact qe h u hu
 .exact h.2 u hu)
theorem Q8(ts us:Xg)(hl:ts.length<=1048576)(hlen:ts.length=us.length)(ih:∀t∈ts,∀u∈us,G 80 [tm t,tm u]=some (vi (zv t u),[])) :
  ∀i,i<=ts.length->jfg (zh ts) (zh us) (.fn 80 []) (zh ts) (vi (ts.length:Nat)) (vi (i:Nat))=some (vi (kN (ts.drop i) (us.drop i)),[]):=by
 refine upto ?_ ?_
 .rw [joi,List.drop_length,kN];simp only[jo,hlen]
 .intro i hi ih';have hlt:(i:Int)<((ts.length:Nat):Int):=by omega
  have hi2:i<us.length:=by omega
  have hge:¬((us.length:Nat):Int)<=(i:Int):=by omega
  have h5:=jx hi (by show ts.length<=9223372036854775807;omega)
  have e1:=ih ts[i] (List.getElem_mem _) us[i] (List.getElem_mem _);rw[joi,jC hi,jC hi2,kN];by_cases hc:zv ts[i] us[i]=0
  .rw [if_neg (λh=>h hc)];rw[hc]at e1;simp only[jo,hlt,jc hi,jc hi2,js,hge,KZ (f:=80) rfl,List.append_nil,e1,h5,ih']
  .rw [if_pos hc];generalize zv ts[i] us[i]=c at *;simp only[jo,hlt,jc hi,jc hi2,js,hge,KZ (f:=80) rfl,List.append_nil,e1,hc]
theorem jba:∀a:T,Rx' a->Tz a-> ∀b:T,Rx' b->Tz b->G 80 [tm a,tm b]=some (vi (zv a b),[]):=by
 refine T.ind λa ih ha za b hb zb=>?_;have va:=jd8 a (ha.imp id λh=>h.1);have vb':=jd8 b (hb.imp id λh=>h.1);have hz:=za;unfold Tz at hz;rw[zB]at hz;have e1:=jg6 a.name b.name;have e2:=jaH a.args.length b.args.length;have e3:=joK (kx a.name b.name) (jV a.args.length b.args.length);have e4:a.args.length=b.args.length->G 124 [zh a.args,zh b.args,.fn 80 []]=some (vi (kN a.args b.args),[]):=λhlen=>by
  have key:=Q8 a.args b.args (by omega) hlen (λt ht u hu=>ih t ht (ha.args t ht) (za.args t ht) u (hb.args u hu) (zb.args u hu)) 0 (Nat.zero_le _);simp only[Int.natCast_zero,List.drop_zero]at key;rw[jwk];simp only[jo,key]
 rw[g80,Zz];unfold cK qm vF;cases h1:jI a.name<;>cases h2:jI b.name<;>rw[h1]at va<;>rw[h2]at vb'
 .show _=some (vi (if(if jV 1 1≠0 then jV 1 1 else if kx a.name b.name≠0 then kx a.name b.name else jV a.args.length b.args.length)≠0 then(if jV 1 1≠0 then jV 1 1 else if kx a.name b.name≠0 then kx a.name b.name else jV a.args.length b.args.length)else kN a.args b.args),[]);rw[if_neg (show ¬jV 1 1≠0 by decide)];by_cases hz0:(if kx a.name b.name≠0 then kx a.name b.name else jV a.args.length b.args.length)=0
  .have hlen:a.args.length=b.args.length:=by
    split at hz0
    .rename_i h;exact absurd hz0 h
    .exact (K0.zero _ _).1 hz0
   rw[if_neg (λh=>h hz0)];rw[hz0]at e3;simp only[jo,va,vb',e1,e2,e3,e4 hlen]
  .rw [if_pos hz0];generalize (if kx a.name b.name≠0 then kx a.name b.name else jV a.args.length b.args.length)=c at *;simp only[jo,va,vb',e1,e2,e3,hz0]
 .have:(if(if jV 1 0≠0 then jV 1 0 else if kx a.name b.name≠0 then kx a.name b.name else jV a.args.length b.args.length)≠0 then(if jV 1 0≠0 then jV 1 0 else if kx a.name b.name≠0 then kx a.name b.name else jV a.args.length b.args.length)else kN a.args b.args)=1:=by
   rw[if_pos (show jV 1 0≠0 by decide),if_pos (show jV 1 0≠0 by decide)];rfl
  show _=some (vi (if(if jV 1 0≠0 then jV 1 0 else if kx a.name b.name≠0 then kx a.name b.name else jV a.args.length b.args.length)≠0 then(if jV 1 0≠0 then jV 1 0 else if kx a.name b.name≠0 then kx a.name b.name else jV a.args.length b.args.length)else kN a.args b.args),[]);rw[this];simp only[jo,va,vb']
 .have:(if(if jV 0 1≠0 then jV 0 1 else if kx a.name b.name≠0 then kx a.name b.name else jV a.args.length b.args.length)≠0 then(if jV 0 1≠0 then jV 0 1 else if kx a.name b.name≠0 then kx a.name b.name else jV a.args.length b.args.length)else kN a.args b.args) = -1:=by
   rw[if_pos (show jV 0 1≠0 by decide),if_pos (show jV 0 1≠0 by decide)];rfl
  show _=some (vi (if(if jV 0 1≠0 then jV 0 1 else if kx a.name b.name≠0 then kx a.name b.name else jV a.args.length b.args.length)≠0 then(if jV 0 1≠0 then jV 0 1 else if kx a.name b.name≠0 then kx a.name b.name else jV a.args.length b.args.length)else kN a.args b.args),[]);rw[this];simp only[jo,va,vb']
 .show _=some (vi (if(if jV 0 0≠0 then jV 0 0 else if kx a.name b.name≠0 then kx a.name b.name else jV a.args.length b.args.length)≠0 then(if jV 0 0≠0 then jV 0 0 else if kx a.name b.name≠0 then kx a.name b.name else jV a.args.length b.args.length)else kN a.args b.args),[]);rw[if_neg (show ¬jV 0 0≠0 by decide)];by_cases hz0:(if kx a.name b.name≠0 then kx a.name b.name else jV a.args.length b.args.length)=0
  .have hlen:a.args.length=b.args.length:=by
    split at hz0
    .rename_i h;exact absurd hz0 h
    .exact (K0.zero _ _).1 hz0
   rw[if_neg (λh=>h hz0)];rw[hz0]at e3;simp only[jo,va,vb',e1,e2,e3,e4 hlen]
  .rw [if_pos hz0];generalize (if kx a.name b.name≠0 then kx a.name b.name else jV a.args.length b.args.length)=c at *;simp only[jo,va,vb',e1,e2,e3,hz0]
theorem jlX(x y:Xb):G 138 [sv x,sv y]=some (vi (kx x y),[]):=by
 rw[jwp,Kj];cases h1:J6 x y<;>cases h2:J6 y x<;>simp only[jo,jer,h1,h2]
theorem jcw(n m:Xb)(ts us:Xg)(hl:ts.length<=1048576)(hlen:ts.length=us.length)(ih:∀t∈ts,∀u∈us,G 98 [tm t,tm u]=some (vi (zv t u),[])) :
  ∀i,i<=ts.length->jgN (vi (i:Nat)) (sv n) (zh ts) (sv m) (zh us)=some (vi (kN (ts.drop i) (us.drop i)),[]):=by
 refine upto ?_ ?_
 .rw [jr0,List.drop_length,kN];simp only[jo]
 .intro i hi ih';have hlt:(i:Int)<((ts.length:Nat):Int):=by omega
  have hi2:i<us.length:=by omega
  have h5:=jx hi (by show ts.length<=9223372036854775807;omega)
  have e1:=ih ts[i] (List.getElem_mem _) us[i] (List.getElem_mem _);rw[jr0,jC hi,jC hi2,kN];by_cases hc:zv ts[i] us[i]=0
  .rw [if_neg (λh=>h hc)];rw[hc]at e1;simp only[jo,hlt,jc hi,jc hi2,js,e1,h5,ih']
  .rw [if_pos hc];generalize zv ts[i] us[i]=c at *;simp only[jo,hlt,jc hi,jc hi2,js,e1,hc]
theorem ji3(a b:T):zv a b=if jI a.name=true/\jI b.name=false then -1 else if jI a.name=false/\jI b.name=true then 1 else if ¬a.name=b.name then kx a.name b.name else if a.args.length<b.args.length then -1 else if b.args.length<a.args.length then 1 else kN a.args b.args:=by
 rw[Zz];unfold cK qm vF;have hn:=JW.zero a.name b.name;have hzr:jV 1 1=0/\jV 0 0=0/\jV 0 1 = -1/\jV 1 0=1:=by decide
 obtain⟨z1,z2,z3,z4⟩:=hzr;have hz:jV a.args.length b.args.length=if a.args.length<b.args.length then -1 else if b.args.length<a.args.length then 1 else 0:=rfl;cases h1:jI a.name<;>cases h2:jI b.name<;>simp only[Bool.false_eq_true,if_true,if_false,z1,z2,z3,z4,hz]
 all_goals have hs:=(JW.zero b.name b.name).2 rfl
 all_goals by_cases e:a.name=b.name
 all_goals by_cases l1:a.args.length<b.args.length
 all_goals by_cases l2:b.args.length<a.args.length
 all_goals first
  |(simp[e,hs,l1,l2];done)
  |(have ne:¬kx a.name b.name=0:=λh=>e (hn.1 h);simp only[ne_eq,e,ne,not_false_eq_true,not_true_eq_false,if_true,if_false,and_true,and_false,reduceCtorEq];done)
  |simp[l1,l2]
theorem jfW:∀a:T,Tz a-> ∀b:T,Tz b->G 98 [tm a,tm b]=some (vi (zv a b),[]):=by
 refine T.ind λa ih za b zb=>?_;have va:=jcx a.name (((yi a).1 za.wf).1);have vb':=jcx b.name (((yi b).1 zb.wf).1);have hz:=za;unfold Tz at hz;rw[zB]at hz;have e1:=jlX a.name b.name;have e4:a.args.length=b.args.length->jgN (vi 0) (sv a.name) (zh a.args) (sv b.name) (zh b.args)=some (vi (kN a.args b.args),[]):=λhlen=>by
  have key:=jcw a.name b.name a.args b.args (by omega) hlen (λt ht u hu=>ih t ht (za.args t ht) u (zb.args u hu)) 0 (Nat.zero_le _);simp only[Int.natCast_zero,List.drop_zero]at key;exact key
 rw[g98,ji3];have main:∀p:Bool,G 136 [sv a.name]=some (vb p,[])->G 136 [sv b.name]=some (vb p,[])->_:=λp _ _=>trivial;clear main;cases h1:jI a.name<;>cases h2:jI b.name<;>rw[h1]at va<;>rw[h2]at vb'
 all_goals by_cases en:a.name=b.name
 all_goals try (exfalso;rw[en,h2]at h1;cases h1;done)
 all_goals by_cases l1:a.args.length<b.args.length
 all_goals by_cases l2:b.args.length<a.args.length
 all_goals have l1':(((a.args.length:Nat):Int)<((b.args.length:Nat):Int))=(a.args.length<b.args.length):=propext (by omega)
 all_goals have l2':(((b.args.length:Nat):Int)<((a.args.length:Nat):Int))=(b.args.length<a.args.length):=propext (by omega)
 all_goals first
  |(have e4:=e4 (by omega);rw[en]at e4;simp only[jo,vb',en,l1,l2,l1',l2',e4,and_true,and_false];done)
  |(simp only[jo,va,vb',e1,en,l1,l2,l1',l2',and_true,and_false];done)
  |(simp only[jo,va,vb',e1,en,l1,l2,l1',l2',and_true,true_and,and_false,false_and])
abbrev kA(l:Lt):Xd:=[vb l.1,sv l.2.name,.sl 2 (l.2.args.map jl)]
abbrev ltm(l:Lt):A:= .agg [vb l.1,sv l.2.name,.sl 2 (l.2.args.map jl)]
theorem jkI(b:Bool):G 82 [vb b]=some (vi (fl b:Nat),[]):=by
 rw[g82];cases b<;>simp only[jo]<;>rfl
theorem Yp(a b:Lt)(ha:Rx' a.2)(za:Tz a.2)(hb:Rx' b.2)(zb:Tz b.2):G 49 [ltm a,ltm b]=some (vi (cmpL a b),[]):=by
 have e1:=jba a.2 ha za b.2 hb zb;have e2:=jkI a.1;have e3:=jkI b.1;have e4:=jaH (fl a.1) (fl b.1);have e5:=joK (zv a.2 b.2) (jV (fl a.1) (fl b.1));have e6:cmpL a b=if zv a.2 b.2≠0 then zv a.2 b.2 else jV (fl a.1) (fl b.1):=rfl;rw[g49,e6];generalize (if zv a.2 b.2≠0 then zv a.2 b.2 else jV (fl a.1) (fl b.1))=c at *;generalize jV (fl a.1) (fl b.1)=d at *;generalize zv a.2 b.2=f at *;simp only[jo,e1,e2,e3,e4,e5]
theorem jdH(a b:Lt)(za:Tz a.2)(zb:Tz b.2):G 56 [ltm a,ltm b]=some (vi (cmpL a b),[]):=by
 have e1:=jfW a.2 za b.2 zb;have e6:cmpL a b=if zv a.2 b.2≠0 then zv a.2 b.2 else jV (fl a.1) (fl b.1):=rfl;rw[g56,e6];by_cases h:zv a.2 b.2=0
 .rw [if_neg (λh'=>h' h)];rw[h]at e1;obtain⟨p,t⟩:=a;obtain⟨q,u⟩:=b;have d1:jV (fl false) (fl true) = -1:=by decide
  have d2:jV (fl true) (fl false)=1:=by decide
  have d3:jV (fl true) (fl true)=0:=by decide
  have d4:jV (fl false) (fl false)=0:=by decide
  cases p<;>cases q<;>simp only[jo,e1,d1,d2,d3,d4]
 .rw [if_pos h];generalize zv a.2 b.2=c at *;simp only[jo,e1,h]
def jO(t:T):Bool:=if t.name=[61]then jfC t else yX t.name && kC t
theorem ZJ(t:T)(hw:twf t)(hs:tsz t<=1048576):G 55 [tm t]=some (vb (jO t),[]):=by
 unfold jO;by_cases he:t.name=[61]
 .rw [if_pos he];exact jjq t hw hs he
 .have e1:=jaV t.name ((yi t).1 hw).1;have e2:=jei t hw hs;rw[if_neg he,g55];cases h:yX t.name<;>rw[h]at e1
  .simp only[jo,he,e1,Bool.false_and]
  .simp only[jo,he,e1,e2,Bool.true_and]
theorem jcj(t:T)(hw:twf t)(hs:tsz t<=1048576):G 78 [tm t]=some (vb (jO t),[]):=by
 unfold jO;by_cases he:t.name=[61]
 .rw [if_pos he];exact jbe t hw hs he
 .have e0:=z8 t;rw[decide_eq_false he]at e0;have e1:=jaQ t.name ((yi t).1 hw).1;have e2:=jck t hw hs;rw[if_neg he,g78];cases h:yX t.name<;>rw[h]at e1
  .simp only[jo,e0,e1,Bool.false_and]
  .simp only[jo,e0,e1,e2,Bool.true_and]
abbrev cm(c:kW):A:= .agg [.sl 3 (c.map kA)]
def ko(c:kW):Bool:=c.all (λl=>jO l.2) && (jgW c && decide (c.length<=8))
theorem jkw{t:T}(h:jO t=true):Rx' t:=by
 unfold jO at h;by_cases he:t.name=[61]
 .rw [if_pos he]at h;unfold jfC at h;rw[Bool.and_eq_true,decide_eq_true_eq,Bool.and_eq_true,Bool.and_eq_true]at h;refine Or.inr ⟨he,λu hu=>?_⟩;obtain⟨n,us⟩:=t
  match us,h.1 with
  | [a,b],_=>
   have hu:u ∈ [a,b]:=hu;simp only[List.mem_cons,List.not_mem_nil,or_false]at hu;rcases hu with rfl|rfl
   .exact h.2.2.1
   .exact h.2.2.2
 .rw [if_neg he,Bool.and_eq_true]at h;have h2:=h.2;unfold kC at h2;rw[Bool.and_eq_true]at h2;exact Or.inl h2.2
theorem Jx(l:Lt)(hz:Tz l.2):G 48 [ltm l]=some (vb (jO l.2),[]):=by
 have e:=jcj l.2 hz.wf hz;rw[g48];simp only[jo,e]
def KP:Option Lt->kW->Bool
 |_,[]=>true
 |none,l::r=>jO l.2 && KP (some l) r
 |some p,l::r=>jO l.2 && (decide (cmpL p l<0) && KP (some l) r)
theorem je3:∀(p:Lt)(c:kW),KP (some p) c=(c.all (λl=>jO l.2) && jgW (p::c))
 |p,[]=>rfl
 |p,l::r=>by
  rw[KP,je3 l r,List.all_cons,jgW];cases jO l.2<;>cases decide (cmpL p l<0)<;>simp
theorem je2(c:kW):(KP none c && decide (c.length<=8))=ko c:=by
 unfold ko;cases c with
 |nil=>rfl
 |cons l r=>rw[KP,je3,List.all_cons];cases jO l.2<;>simp[Bool.and_assoc]
theorem ZM(l:Lt):zX 3 (.elt (kA l) 0)=some (ltm l):=rfl
theorem jiN(c:kW)(hl:c.length<=1048576)(hz:∀l∈c,Tz l.2):∀i,i<=c.length-> ∀p:Option Lt,(p=none↔i=0)->(∀q,p=some q->jO q.2=true/\ ∃h:i-1<c.length,c[i-1]=q)->
  jkg (.sl 3 (c.map kA)) (vi (c.length:Nat)) (vi (i:Nat)) (.sl 3 (c.map kA))=some (vb (KP p (c.drop i) && decide (c.length<=8)),[]):=by
 refine upto ?_ ?_
 .intro p _ _;have e:decide (((c.length:Nat):Int)<=8)=decide (c.length<=8):=by congr 1;exact propext (by omega)
  rw[jrL,List.drop_length,<-e];have:KP p []=true:=by cases p<;>rfl
  rw[this];simp only[jo,Bool.true_and]
 .intro i hi ih p hp hq;have hlt:(i:Int)<((c.length:Nat):Int):=by omega
  have h5:=jx hi (by show c.length<=9223372036854775807;omega)
  have e1:=Jx c[i] (hz _ (List.getElem_mem hi));have ix:=jc (k:=3) (f:=kA) hi;have e1:G 48 [.agg [vb c[i].1,sv c[i].2.name,zh c[i].2.args]]=some (vb (jO c[i].2),[]):=e1;rw[jrL,jC hi];cases ha:jO c[i].2 with
  |false=>
   rw[ha]at e1;have:KP p (c[i]::c.drop (i+1))=false:=by cases p<;>rw[KP,ha]<;>rfl
   rw[this];simp only[jo,hlt,ix,ZM,e1,Bool.false_and]
  |true=>
   rw[ha]at e1;have ih1:=ih (some c[i]) (by simp) (λq hq=>by cases hq;exact⟨ha,by simpa using hi,rfl⟩);cases p with
   |none=>
    have h0:i=0:=hp.1 rfl;have hg:¬(0:Int)<(i:Int):=by omega
    rw[KP,ha,Bool.true_and,<-ih1];simp only[jo,hlt,ix,ZM,e1,hg,h5]
   |some q=>
    obtain⟨hqa,hq1,hq2⟩:=hq q rfl;have hi0:¬i=0:=λh=>by have:=hp.2 h;cases this
    have hg:(0:Int)<(i:Int):=by omega
    have c1:ck ((i:Int)-1)=some (vi ((i-1:Nat):Int)):=by rw[show(i:Int)-1=((i-1:Nat):Int) by omega,zo (by omega) (by omega)]
    have ix2:=jc (k:=3) (f:=kA) hq1;rw[hq2]at ix2;have hqz:Tz q.2:=by rw[<-hq2];exact hz _ (List.getElem_mem hq1)
    have e2:=Yp q c[i] (jkw hqa) hqz (jkw ha) (hz _ (List.getElem_mem hi));have e2:G 49 [.agg [vb q.1,sv q.2.name,zh q.2.args],.agg [vb c[i].1,sv c[i].2.name,zh c[i].2.args]]=some (vi (cmpL q c[i]),[]):=e2;rw[KP,ha,Bool.true_and];by_cases hc:cmpL q c[i]<0
    .have hc':¬(0:Int)<=cmpL q c[i]:=by omega
     rw[decide_eq_true hc,Bool.true_and,<-ih1];generalize cmpL q c[i]=d at *;simp only[jo,hlt,ix,ZM,e1,hg,c1,ix2,e2,hc',h5]
    .have hc':(0:Int)<=cmpL q c[i]:=by omega
     rw[decide_eq_false hc];generalize cmpL q c[i]=d at *;simp only[jo,hlt,ix,ZM,e1,hg,c1,ix2,e2,hc',Bool.false_and]
theorem JX(c:kW)(hl:c.length<=1048576)(hz:∀l∈c,Tz l.2):G 19 [cm c]=some (vb (ko c),[]):=by
 have key:=jiN c hl hz 0 (Nat.zero_le _) none (by simp) (λq h=>by cases h);rw[List.drop_zero,je2]at key;simp only[Int.natCast_zero]at key;rw[g19];simp only[jo,key]
theorem jiO(c:kW)(hl:c.length<=1048576)(hz:∀l∈c,Tz l.2):∀i,i<=c.length-> ∀p:Option Lt,(p=none↔i=0)->(∀q,p=some q-> ∃h:i-1<c.length,c[i-1]=q)->
  jki (vi (i:Nat)) (.sl 3 (c.map kA))=some (vb (KP p (c.drop i)),[]):=by
 refine upto ?_ ?_
 .intro p _ _;rw[jrN,List.drop_length];have:KP p []=true:=by cases p<;>rfl
  rw[this];simp only[jo]
 .intro i hi ih p hp hq;have hlt:(i:Int)<((c.length:Nat):Int):=by omega
  have h5:=jx hi (by show c.length<=9223372036854775807;omega)
  have e1:=ZJ c[i].2 (hz _ (List.getElem_mem hi)).wf (hz _ (List.getElem_mem hi));have ix:=jc (k:=3) (f:=kA) hi;have ad:Z6 (.elt (kA c[i]) 0) 1=some (.elt (kA c[i]) 1):=rfl;have ld:zX 2 (.elt (kA c[i]) 1)=some (tm c[i].2):=rfl;rw[jrN,jC hi];cases ha:jO c[i].2 with
  |false=>
   rw[ha]at e1;have:KP p (c[i]::c.drop (i+1))=false:=by cases p<;>rw[KP,ha]<;>rfl
   rw[this];simp only[jo,hlt,ix,ad,ld,e1]
  |true=>
   rw[ha]at e1;have ih1:=ih (some c[i]) (by simp) (λq hq=>by cases hq;exact⟨by simpa using hi,rfl⟩);cases p with
   |none=>
    have h0:i=0:=hp.1 rfl;have hg:¬(0:Int)<(i:Int):=by omega
    rw[KP,ha,Bool.true_and,<-ih1];simp only[jo,hlt,ix,ad,ld,e1,hg,h5]
   |some q=>
    obtain⟨hq1,hq2⟩:=hq q rfl;have hi0:¬i=0:=λh=>by have:=hp.2 h;cases this
    have hg:(0:Int)<(i:Int):=by omega
    have c1:ck ((i:Int)-1)=some (vi ((i-1:Nat):Int)):=by rw[show(i:Int)-1=((i-1:Nat):Int) by omega,zo (by omega) (by omega)]
    have ix2:=jc (k:=3) (f:=kA) hq1;rw[hq2]at ix2;have hqz:Tz q.2:=by rw[<-hq2];exact hz _ (List.getElem_mem hq1)
    have e2:=jdH q c[i] hqz (hz _ (List.getElem_mem hi));rw[KP,ha,Bool.true_and];by_cases hc:cmpL q c[i]<0
    .have hc':¬(0:Int)<=cmpL q c[i]:=by omega
     rw[decide_eq_true hc,Bool.true_and,<-ih1];generalize cmpL q c[i]=d at *;simp only[jo,hlt,ix,ad,ld,ZM,e1,hg,c1,ix2,e2,hc',h5]
    .have hc':(0:Int)<=cmpL q c[i]:=by omega
     rw[decide_eq_false hc];generalize cmpL q c[i]=d at *;simp only[jo,hlt,ix,ad,ld,ZM,e1,hg,c1,ix2,e2,hc',Bool.false_and]
theorem jek(c:kW)(hl:c.length<=1048576)(hz:∀l∈c,Tz l.2):G 23 [cm c]=some (vb (ko c),[]):=by
 have key:=jiO c hl hz 0 (Nat.zero_le _) none (by simp) (λq h=>by cases h);rw[List.drop_zero]at key;simp only[Int.natCast_zero]at key;rw[g23,<-je2];by_cases h8:c.length<=8
 .have h8':¬(8:Int)<((c.length:Nat):Int):=by omega
  rw[decide_eq_true h8,Bool.and_true];simp only[jo,h8',key]
 .have h8':(8:Int)<((c.length:Nat):Int):=by omega
  rw[decide_eq_false h8,Bool.and_false];simp only[jo,h8']
theorem jty(l:Xa)(n:Xb):(vnA l n).length<=l.length+1:=by
 unfold vnA;split
 .omega
 .simp
theorem jqS:∀(t:T)(l:Xa),(jcL l t).length<=l.length+nodes t:=by
 refine T.ind λt ih l=>?_;have hn:=j5 t;rw[jqR];split
 .have:=jty l t.name;omega
 .have key:∀us:Xg,(∀u∈us,u∈t.args)-> ∀l:Xa,(jcJ l us).length<=l.length+jE us:=by
   intro us;induction us with
   |nil=>intro _ l;simp[jcJ,jE]
   |cons u us ih2=>
    intro hu l;have h1:=ih u (hu u (by simp)) l;have h2:=ih2 (λv hv=>hu v (by simp[hv])) (jcL l u);rw[jcJ,jE];omega
  have:=key t.args (λ_ h=>h) l;omega
abbrev Eqs:=List (T×T)
def jsx:zF->Bool
 | []=>true
 | [_]=>true
 |p::q::s=>J6 p.1 q.1 && jsx (q::s)
noncomputable def YR(s:zF):Bool:=decide (s.length<=12) && (jsx s && s.all λq=>jI q.1 && (kC q.2 && !dq q.2.name q.1))
def jrA(s u:zF):zF:=jtj (s.map (λq=>(q.1,sub u q.2))++u.filter λq=>(look s q.1).isNone)
def jgZ(x y:T):Xb×T:=if jI x.name=false\/(jI y.name=true/\J6 x.name y.name=true)then(y.name,x)else(x.name,y)
noncomputable def ju3(s:zF)(l r:T)(rest:Eqs):Option (zF×Eqs):=
 if kB (sub s l)=false\/kB (sub s r)=false then none
 else if dq (sub s l) (sub s r)then some (s,rest)
 else if jI (sub s l).name=true\/jI (sub s r).name=true then
  (if(jgZ (sub s l) (sub s r)).1∈jdr (jgZ (sub s l) (sub s r)).2\/YR [jgZ (sub s l) (sub s r)]=false\/YR (jrA s [jgZ (sub s l) (sub s r)])=false then none else some (jrA s [jgZ (sub s l) (sub s r)],rest))
 else if(sub s l).name=(sub s r).name/\(sub s l).args.length=(sub s r).args.length then some (s,(sub s l).args.zip (sub s r).args++rest)else none
noncomputable def jsm:Nat->zF->Eqs->Option (Option zF)
 |_,s,[]=>some (some s)
 |0,_,_::_=>none
 |k+1,s,p::rest=>(match ju3 s p.1 p.2 rest with|none=>some none|some q=>jsm k q.1 q.2)
def Exx(t:T):Prop:=(yb t=true\/(t.name=[61]/\t.args.length=2/\ ∀u∈t.args,yb u=true))/\nodes t<=31
def IdS(s:zF):Prop:=∀q∈s,∀x∈jdr q.2,look s x=none
def jxI(s:zF)(es:Eqs):Prop:=YR s=true/\IdS s/\ ∀p∈es,Exx p.1/\Exx p.2
theorem QQ{s:zF}(h:YR s=true):s.length<=12/\jsx s=true/\ ∀q∈s,jI q.1=true/\kC q.2=true/\q.2.name≠q.1:=by
 unfold YR at h;rw[Bool.and_eq_true,decide_eq_true_eq,Bool.and_eq_true,List.all_eq_true]at h;refine⟨h.1,h.2.1,λq hq=>?_⟩;have:=h.2.2 q hq;rw[Bool.and_eq_true,Bool.and_eq_true,Bool.not_eq_true']at this;exact⟨this.1,this.2.1,λe=>by rw[e,jqd]at this;exact absurd this.2.2 (by decide)⟩
theorem je5{t:T}(h:kC t=true):yb t=true:=by
 unfold kC at h;rw[Bool.and_eq_true]at h;exact h.2
def mz(s:zF):Eqs->Nat
 | []=>0
 |p::r=>nodes (sub s p.1)+nodes (sub s p.2)+mz s r
theorem Exx.sub{s:zF}(hs:YR s=true){t:T}(h:Exx t):yb (sub s t)=true\/((sub s t).name=[61]/\(sub s t).args.length=2/\ ∀u∈(sub s t).args,yb u=true):=by
 obtain⟨_,_,hv⟩:=QQ hs;have ho:∀q∈s,yb q.2=true:=λq hq=>(je5 (hv q hq).2.1);rcases h.1 with h|⟨h1,h2,h3⟩
 .exact Or.inl (jgz ho t h)
 .have hvn:jI t.name=false:=by rw[h1];decide
  right;rw[jgy hvn];refine⟨h1,by show(t.args.map _).length=2;rw[List.length_map,h2],λu hu=>?_⟩;obtain⟨a,ha,rfl⟩:=List.mem_map.1 hu;exact jgz ho a (h3 a ha)
theorem jiw{t:T}(h:kB t=true):nodes t<=30:=by
 simp only[kB,Bool.and_eq_true,decide_eq_true_eq]at h;exact h.1
def Bx(t:T):Prop:=(t.name=[61]/\t.args.length=2/\ ∀u∈t.args,yb u=true)\/(yX t.name=true/\yb t=true)
theorem Bx.rx{t:T}(h:Bx t):Rx' t:=h.elim (λh=>Or.inr ⟨h.1,h.2.2⟩) λh=>Or.inl h.2
theorem Bx.ax{t:T}(h:Bx t):yb t=true\/(t.name=[61]/\t.args.length=2/\ ∀u∈t.args,yb u=true):=h.elim Or.inr λh=>Or.inl h.2
theorem Bx.args{t:T}(h:Bx t):∀u∈t.args,yb u=true:=h.elim (λh=>h.2.2) λh=>qe h.2
theorem jtt{n:Xb}(h:yX n=true):jI n=false:=by
 cases hv:jI n with
 |false=>rfl
 |true=>rw[jj6 hv]at h;cases h
theorem Bx.nv{t:T}(h:Bx t):jI t.name=false:=h.elim (λh=>by rw[h.1];decide) λh=>jtt h.1
theorem KU{t:T}(h:t.args.length=2):t.args=[yo t,ql t]:=by
 obtain⟨n,us⟩:=t
 match us,h with
 | [a,b],_=>rfl
theorem KW{t:T} :jO t=true↔Bx t/\kB t=true:=by
 unfold jO Bx;by_cases he:t.name=[61]
 .rw [if_pos he];unfold jfC;rw[Bool.and_eq_true,Bool.and_eq_true,Bool.and_eq_true,decide_eq_true_eq];constructor
  .rintro ⟨h1,h2,h3,h4⟩;refine⟨Or.inl ⟨he,h1,λu hu=>?_⟩,h2⟩;rw[KU h1]at hu;simp only[List.mem_cons,List.not_mem_nil,or_false]at hu;rcases hu with rfl|rfl
   .exact h3
   .exact h4
  .rintro ⟨h|h,h2⟩
   .obtain ⟨_,_,ma,mb⟩:=Q4 h.2.1;exact⟨h.2.1,h2,h.2.2 _ ma,h.2.2 _ mb⟩
   .rw [he]at h;exact absurd h.1 (by decide)
 .rw [if_neg he];unfold kC;rw[Bool.and_eq_true,Bool.and_eq_true];constructor
  .rintro ⟨h1,h2,h3⟩;exact⟨Or.inr ⟨h1,h3⟩,h2⟩
  .rintro ⟨h|h,h2⟩
   .exact absurd h.1 he
   .exact ⟨h.1,h2,h.2⟩
theorem Bx.atom{t:T}(h:Bx t):jO t=kB t:=by
 cases hs:kB t with
 |true=>exact KW.2 ⟨h,hs⟩
 |false=>
  cases ha:jO t with
  |false=>rfl
  |true=>rw[(KW.1 ha).2]at hs;cases hs
theorem Bx.tsz{t:T}(h:Bx t):tsz t<=10*nodes t:=by
 rcases h with h|h
 .rw [zB,j5,h.1,h.2.1];have:=jqO h.2.2;simp only[List.length_cons,List.length_nil];omega
 .exact jah t h.2
theorem Bx.tz{t:T}(h:Bx t)(hn:nodes t<=100000):Tz t:=by have:=h.tsz;unfold Tz;omega
theorem Bx.sub{s:zF}(hs:YR s=true){t:T}(h:Bx t):Bx (sub s t):=by
 obtain⟨_,_,hv⟩:=QQ hs;have ho:∀q∈s,yb q.2=true:=λq hq=>je5 (hv q hq).2.1;have hn:=h.nv;rcases h with h|h
 .left;rw[jdj hn,jiE hn,List.length_map];refine⟨h.1,h.2.1,λu hu=>?_⟩;obtain⟨a,ha,rfl⟩:=List.mem_map.1 hu;exact jgz ho a (h.2.2 a ha)
 .right;rw[jdj hn];exact⟨h.1,jgz ho t h.2⟩
mutual
theorem jeD(f:Xb->Xb):∀t:T,nodes (KO f t)<=nodes t
 |.mk n us=>by
  rw[KO];split
  .have:=jag (.mk n us);show 1+0<=_;omega
  .have:=jc7 f us;simp only[nodes];omega
theorem jc7(f:Xb->Xb):∀ts:Xg,jE (qf f ts)<=jE ts
 | []=>Nat.le_refl _
 |t::ts=>by have:=jeD f t;have:=jc7 f ts;simp only[qf,jE];omega
end
mutual
theorem jq1(f:Xb->Xb):∀t:T,dep (KO f t)<=dep t
 |.mk n us=>by
  rw[KO];split
  .rw [jbY (.mk n us)];show 1+0<=_;omega
  .have:=jik f us;simp only[dep];omega
theorem jik(f:Xb->Xb):∀ts:Xg,Z4 (qf f ts)<=Z4 ts
 | []=>Nat.le_refl _
 |t::ts=>by have:=jq1 f t;have:=jik f ts;simp only[qf,Z4];omega
end
theorem jc6{f:Xb->Xb}{t:T}(h:jI t.name=false):(KO f t).name=t.name:=by rw[jgo,h,if_neg Bool.false_ne_true];rfl
theorem jij{f:Xb->Xb}{t:T}(h:jI t.name=false):(KO f t).args=t.args.map (KO f):=by rw[jgo,h,if_neg Bool.false_ne_true];rfl
theorem jpf{f:Xb->Xb}(hf:∀n,jI n=true->jI (f n)=true):∀t:T,yb t=true->yb (KO f t)=true:=by
 refine T.ind λt ih h=>?_;cases hv:jI t.name with
 |true=>rw[jgo,hv,if_pos rfl];exact joF _ (hf _ hv)
 |false=>
  have hk:=h;rw[yP,hv,if_neg Bool.false_ne_true,Bool.and_eq_true,Bool.and_eq_true,decide_eq_true_eq]at h;rw[yP,jc6 hv,jij hv,hv,if_neg Bool.false_ne_true,Bool.and_eq_true,Bool.and_eq_true,decide_eq_true_eq,List.length_map,J2,List.all_eq_true];refine⟨h.1,h.2.1,λu hu=>?_⟩;obtain⟨a,ha,rfl⟩:=List.mem_map.1 hu;exact ih a ha (qe hk a ha)
theorem Bx.ren{f:Xb->Xb}(hf:∀n,jI n=true->jI (f n)=true){t:T}(h:Bx t):Bx (KO f t):=by
 have hn:=h.nv;rcases h with h|h
 .left;rw[jc6 hn,jij hn,List.length_map];refine⟨h.1,h.2.1,λu hu=>?_⟩;obtain⟨a,ha,rfl⟩:=List.mem_map.1 hu;exact jpf hf a (h.2.2 a ha)
 .right;rw[jc6 hn];exact⟨h.1,jpf hf t h.2⟩
theorem Q9:∀d:Nat,d<10->kV (UInt8.ofNat (48+d))=true:=by decide
theorem K2{u:Nat}(h:u<10):Lib.decDigits u=[UInt8.ofNat (48+u)]:=Lib.decDigits_one h
theorem jbZ{u:Nat}(h:¬u<10):Lib.decDigits u=Lib.decDigits (u / 10)++[UInt8.ofNat (48+u % 10)]:=by rw[Lib.decDigits,dif_neg h]
theorem qA:∀(k u:Nat),u<10 ^ (k+1)->(Lib.decDigits u).all kV=true/\(Lib.decDigits u).length<=k+1
 |0,u,h=>by rw[K2 (by omega)];exact⟨by rw[List.all_cons,Q9 u (by omega),List.all_nil];rfl,by simp⟩
 |k+1,u,h=>by
  by_cases hu:u<10
  .rw [K2 hu];exact⟨by rw[List.all_cons,Q9 u hu,List.all_nil];rfl,by simp⟩
  .obtain ⟨h1,h2⟩:=qA k (u / 10) (by rw[Nat.pow_succ]at h;omega)
   rw[jbZ hu,List.all_append,h1,List.length_append];exact⟨by rw[List.all_cons,Q9 (u % 10) (by omega),List.all_nil];rfl,by simp only[List.length_cons,List.length_nil];omega⟩
theorem joD{p:UInt8}(hp:upc p=true){i:Nat}(hi:i<1000):jI (js4 p i)=true:=by
 obtain⟨h1,h2⟩:=qA 2 i (by omega);show(upc p && ((Lib.decDigits i).all kV && decide ((Lib.decDigits i).length<=3)))=true;rw[hp,h1,decide_eq_true (by omega)];rfl
theorem jro{l:Xa}{n x:Xb} :x∈vnA l n↔x∈l\/x=n:=by
 unfold vnA;split
 .rename_i h;rw[List.contains_iff_mem]at h;exact⟨Or.inl,λh'=>h'.elim id λe=>e ▸ h⟩
 .simp
theorem jm2{l:Xa}{n:Xb}(h:l.Nodup):(vnA l n).Nodup:=by
 unfold vnA;split
 .exact h
 .rename_i hc;rw[List.contains_iff_mem]at hc;refine List.nodup_append.2 ⟨h,by simp,λa ha b hb=>?_⟩;simp only[List.mem_singleton]at hb;rintro rfl;exact hc (hb ▸ ha)
mutual
theorem joL:∀(t:T)(l:Xa)(x:Xb),x∈jcL l t↔x∈l\/x∈jdr t
 |.mk n us,l,x=>by
  rw[jcL,jdr];split
  .rw [jro];simp
  .exact jh2 us l x
theorem jh2:∀(ts:Xg)(l:Xa)(x:Xb),x∈jcJ l ts↔x∈l\/x∈jds ts
 | [],l,x=>by simp[jcJ,jds]
 |t::ts,l,x=>by rw[jcJ,jds,jh2 ts,joL t,List.mem_append,or_assoc]
end
mutual
theorem jjB:∀(t:T){l:Xa},l.Nodup->(jcL l t).Nodup
 |.mk n us,l,h=>by
  rw[jcL];split
  .exact jm2 h
  .exact jcK us h
theorem jcK:∀(ts:Xg){l:Xa},l.Nodup->(jcJ l ts).Nodup
 | [],l,h=>h
 |t::ts,l,h=>by rw[jcJ];exact jcK ts (jjB t h)
end
def CN(c:kW):Prop:=c.length<=8/\ ∀l∈c,Bx l.2/\nodes l.2<=30
theorem jjy{c:kW}(h:CN c):(Ks c).length<=240:=by
 have:∀(c:kW)(l:Xa),(∀y∈c,nodes y.2<=30)->(c.foldl (λl x=>jcL l x.2) l).length<=l.length+30*c.length:=by
  intro c;induction c with
  |nil=>intro l _;simp
  |cons y c ih=>
   intro l h;have h1:=jqS y.2 l;have h2:=h y (by simp);have h3:=ih (jcL l y.2) λz hz=>h z (by simp[hz]);rw[List.foldl_cons,List.length_cons];omega
 have h2:=this c [] λy hy=>(h.2 y hy).2;have h3:=h.1;rw[List.length_nil]at h2;unfold Ks;omega
theorem jlI{p:UInt8}(hp:upc p=true){l:Xa}(hl:l.length<=1000){n:Xb}(hn:jI n=true):jI (jbT p l n)=true:=by
 unfold jbT;split
 .rename_i i h;have:=(List.findIdx?_eq_some_iff_getElem.1 h).1;exact joD hp (by omega)
 .exact hn
theorem jn3{α:Type}(c:α->α->Int)(l:List α)(x:α):(jdD c l x).length<=l.length+1:=by
 unfold jdD;split
 .omega
 .have:=congrArg List.length (List.takeWhile_append_dropWhile (p:=λa=>decide (c a x<0)) (l:=l));rw[List.length_append]at this;rw[List.length_append,List.length_cons];omega
theorem jl6{α:Type}(c:α->α->Int)(l:List α):(Yj c l).length<=l.length:=by
 have:∀(l m:List α),(l.foldl (jdD c) m).length<=m.length+l.length:=by
  intro l;induction l with
  |nil=>intro m;simp
  |cons x l ih=>
   intro m;have h1:=jn3 c m x;have h2:=ih (jdD c m x);rw[List.foldl_cons,List.length_cons];omega
 have:=this l [];simpa[Yj]using this
theorem jl7{l:kW}{x:Lt} :x∈Yj cmpL l↔x∈l:=(jl5 jg5 l).2 x
theorem CN.make{l:kW}(hl:l.length<=8)(h:∀x∈l,Bx x.2/\nodes x.2<=30):CN (Yj cmpL l):=⟨by have:=jl6 cmpL l;omega,λx hx=>h x (jl7.1 hx)⟩
theorem CN.ren{p:UInt8}(hp:upc p=true){c:kW}(h:CN c):∀x∈c.map (λl=>(l.1,KO (jbT p (Ks c)) l.2)),Bx x.2/\nodes x.2<=30:=by
 intro x hx;obtain⟨l,hl,rfl⟩:=List.mem_map.1 hx;have hn:=jjy h;have:=jeD (jbT p (Ks c)) l.2;have:=(h.2 l hl).2;exact⟨(h.2 l hl).1.ren λn hn=>jlI hp (by omega) hn,by show nodes (KO (jbT p (Ks c)) l.2)<=30;omega⟩
theorem CN.renC{p:UInt8}(hp:upc p=true){c:kW}(h:CN c):CN (renC p c):=CN.make (by rw[List.length_map];exact h.1) (h.ren hp)
theorem CN.normF:∀(k:Nat){c:kW},CN c->CN (normF k c)
 |0,c,h=>h
 |k+1,c,h=>by
  rw[Go.Proofs.YteoaojbmnibpcaaGreatDoor.normF];split
  .exact h
  .exact CN.normF k (CN.renC (by decide) h)
theorem CN.normC{c:kW}(h:CN c):CN (normC c):=CN.normF 10 h
theorem KE{c:kW}(h:ko c=true):CN c/\Asc cmpL c/\(∀l∈c,jO l.2=true):=by
 unfold ko at h;rw[Bool.and_eq_true,Bool.and_eq_true,List.all_eq_true,decide_eq_true_eq,jgX]at h;exact⟨⟨h.2.2,λl hl=>⟨(KW.1 (h.1 l hl)).1,jiw (KW.1 (h.1 l hl)).2⟩⟩,h.2.1,h.1⟩
theorem CN.tz{c:kW}(h:CN c):∀l∈c,Tz l.2:=λl hl=>(h.2 l hl).1.tz (by have:=(h.2 l hl).2;omega)
theorem CN.rx{c:kW}(h:CN c):∀l∈c,Rx' l.2:=λl hl=>(h.2 l hl).1.rx
theorem Rx'.va{t:T}(h:Rx' t)(hv:jI t.name=true):t.args=[]:=h.elim (λh=>jpB h hv) λh=>by rw[h.1]at hv;exact absurd hv (by decide)
def jvW(d:kW):kW:=d.map λl=>(l.1,KO (jbT 89 (Ks d)) l.2)
def jqM(c:kW):Bool:=ko c && jkR c
open Classical in
noncomputable def jxf(a b:T):Option zF:=if h:∃r k,jsm k [] [(a,b)]=some r then h.choose else none
noncomputable def jsw(s:zF)(l:kW):Option kW:=if(l.all λx=>kB (sub s x.2)) && ko (Yj cmpL (l.map λx=>(x.1,sub s x.2)))then some (Yj cmpL (l.map λx=>(x.1,sub s x.2)))else none
noncomputable def jyA(s:zF)(l:kW):Option kW:=(jsw s l).bind λc=>if jqM (normC c)then some (normC c)else none
abbrev cz:A:= .agg [.sl 3 []]
def jys(o:Option kW):Xe:=match o with|some c=>some (.tup [cm c,vb true],[])|none=>some (.tup [cz,vb false],[])
def atI:Xi->T->Option T
 | [],t=>some t
 |i::p,t=>if 0<=i/\i<(t.args.length:Int)then atI p (t.args.getD i.toNat (.mk [] []))else none
def cmb(n:Xb)(xs:Xa):Xb:=
 if n=[61]then xs.getD 0 []++[32,61,32]++xs.getD 1 []
 else if xs=[]then n else n++[40]++Lib.join xs [44]++[41]
mutual
def jq:T->Xb
 |.mk n us=>cmb n (jqk us)
def jqk:Xg->Xa
 | []=>[]
 |t::ts=>jq t::jqk ts
end
theorem jhi:∀us:Xg,jqk us=us.map jq
 | []=>rfl
 |t::ts=>by rw[jqk,jhi ts];rfl
theorem ZE(t:T):jq t=cmb t.name (t.args.map jq):=by
 cases t with
 |mk n us=>rw[jq,jhi];rfl
theorem ZI(sep:Xb)(c:Nat)(hs:sep.length<=c):∀(xs:Xa),(Lib.join xs sep).length<=(xs.map λx=>x.length+c).sum
 | []=>by rw[Lib.join_nil];exact Nat.zero_le _
 |x::r=>by
  have:∀r:Xa,(Lib.joinTail sep r).length<=(r.map λx=>x.length+c).sum:=by
   intro r;induction r with
   |nil=>simp[Lib.joinTail]
   |cons y r ih=>
    have:(Lib.joinTail sep (y::r)).length=sep.length+y.length+(Lib.joinTail sep r).length:=by simp[Lib.joinTail];omega
    rw[this,List.map_cons,List.sum_cons];omega
  rw[Lib.join_cons,List.length_append,List.map_cons,List.sum_cons];have:=this r;omega
theorem jcd:∀us:Xg,(∀u∈us,(jq u).length<=6*tsz u+5)->((us.map jq).map λx=>x.length+1).sum<=6*us.length+6*ya us
 | [],_=>by simp
 |u::us,h=>by
  have h1:=h u (by simp);have h2:=jcd us λv hv=>h v (by simp[hv]);simp only[List.map_cons,List.sum_cons,List.length_cons,ya];omega
theorem qb:∀t:T,(jq t).length<=6*tsz t+5:=by
 refine T.ind λt ih=>?_;rw[ZE,zB];have hs:=jcd t.args ih;unfold cmb;split
 .rename_i hn;have hl:t.name.length=1:=by rw[hn];rfl
  have:∀us:Xg,(∀u∈us,(jq u).length<=6*tsz u+5)->((us.map jq).getD 0 []).length+((us.map jq).getD 1 []).length<=6*us.length+6*ya us:=by
   intro us h
   match us,h with
   | [],_=>simp
   | [a],h=>have:=h a (by simp);simp[ya];omega
   |a::b::r,h=>
    have h1:=h a (by simp);have h2:=h b (by simp);simp[ya];omega
  have:=this t.args ih;simp only[List.length_append,List.length_cons,List.length_nil];omega
 .split
  .omega
  .have h1:=ZI [44] 1 (Nat.le_refl _) (t.args.map jq);simp only[List.length_append,List.length_cons,List.length_nil];omega
theorem jd9(sep:Xb)(xs:Xa)(i:Nat)(h:i<xs.length):Lib.join (xs.take (i+1)) sep=if i=0 then xs[i]else Lib.join (xs.take i) sep++sep++xs[i]:=by
 cases xs with
 |nil=>simp at h
 |cons x r=>
  cases i with
  |zero=>simp[Lib.join_one]
  |succ i=>
   have hi:i<r.length:=by simpa using h
   rw[if_neg (by omega),List.take_succ_cons,List.take_succ_cons,Lib.join_cons,Lib.join_cons,Lib.joinTail_take_succ sep r i r[i] (List.getElem?_eq_getElem hi)];simp[List.append_assoc]
def jJ(l:Lt):Xb:=
 if l.1 then jq l.2 else if l.2.name=[61]then jq (yo l.2)++[32,33,61,32]++jq (ql l.2)else[126]++jq l.2
def fmtC(c:kW):Xb:=if c=[]then[36,102,97,108,115,101]else Lib.join (c.map jJ) [32,124,32]
def kR(l:Xi):Xb:=if l=[]then[45]else Lib.join (l.map λn=>Lib.decDigits n.toNat) [44]
theorem jfP{xs:Xa}{sep:Xb}(h:xs≠ [])(hx:∀x∈xs,x≠ []):Lib.join xs sep≠ []:=by
 cases xs with
 |nil=>exact absurd rfl h
 |cons x r=>
  rw[Lib.join_cons];intro e;exact hx x (by simp) (List.append_eq_nil_iff.1 e).1
end Go.Proofs.YteoaojbmnibpcaaGreatDoor
