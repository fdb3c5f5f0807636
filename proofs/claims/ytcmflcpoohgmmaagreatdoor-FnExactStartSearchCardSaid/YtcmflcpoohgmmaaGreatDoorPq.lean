/- Pq -/
import Derived.Test.YtcmflcpoohgmmaaGreatDoorKt
import Derived.KernelRfl
set_option linter.unusedVariables false
namespace Go.Proofs.YtcmflcpoohgmmaaGreatDoor
open Go Go.RowKit Go.Proofs.YtcmflcpoohgmmaaGreatDoor.Abs
set_option linter.unusedSimpArgs false
set_option linter.unusedVariables false
noncomputable section
def vT:V:=V.top
def vD(a:A):V:=V.d a
def vP(i:Nat):V:=V.ptr i 0
def vR(i:Nat):V:=V.row i
def tp(n:Nat):Xj:=List.replicate n vT
def pth:Nat->Nat->Xf
 |0,_=>[]
 |k+1,n=>if Nat.ble n 1 then[]else pth k (n/10)++[n%10]
def hs(sh:Option Xf)(f p:Nat)(l:Xj)(n:Nat)(ob:List Abs.Obj):Xe:=MM K (.head f (pth 60 p) (l++tp n) ob sh)
def hd(f p:Nat)(l:Xj)(n:Nat)(ob:List Abs.Obj):Xe:=hs none f p l n ob
theorem gq{f:FuncId}{fn:Func}{l:Xd}{r:Xe}(h3:Tryz.prog.funcs[f]? = some fn)(h2:K.pureF f=true:=by exact rfl)(h4:fn.body.isSome=true:=by exact rfl)(h5:Nat.ble l.length fn.ntmps=true:=by exact rfl)(h1:K.ext f=none:=by exact rfl)(e:evC K (MM K) f (codeOf fn) [] (Ky fn l) (qm K f fn)=r:=by kernel_rfl):G f l=r:=(jvi h2 h3 h4 h5 h1).trans e
theorem vq{f:FuncId}{fn:Func}{l:Xj}{ob:List Abs.Obj}{r:Xe}(h3:Tryz.prog.funcs[f]? = some fn)(h1:K.extv f=none:=by exact rfl)(h4:fn.body.isSome=true:=by exact rfl)(h5:Nat.ble l.length fn.ntmps=true:=by exact rfl)(e:evC K (MM K) f (codeOf fn) [] (kP fn l ob) (qm K f fn)=r:=by kernel_rfl):MM K (.callv f l ob)=r:=(jvo h1 h3 h4 h5).trans e
theorem hq{f:FuncId}{fn:Func}{p:Xf}{l:Xj}{ob:List Abs.Obj}{sh:Option Xf}{r:Xe}(h3:Tryz.prog.funcs[f]? = some fn)(h4:fn.body.isSome=true:=by exact rfl)(e:evAt K (MM K) f (codeOf fn) p [] (St.of fn.ntmps l ob sh) (qm K f fn)=r:=by kernel_rfl):MM K (.head f p l ob sh)=r:=(jvk h3 h4).trans e
section
variable{B:Type}
def jm(n:Nat)(a:A)(k0:Xd->Option B):Option B:=(jaf n a).bind k0
def kIA(k:Nat)(x i:A)(k0:A->Option B):Option B:=(jk k x i).bind k0
def ZV(t:A)(n:Nat)(k0:A->Option B):Option B:=(YE t n).bind k0
def kj(t x y:A)(k0:A->Option B):Option B:=(yY t x y).bind k0
def jF(t:A)(w:Bool)(k0:Bool->Option B):Option B:=(z7 t w).bind k0
def j8(l:A)(k0:A->Option B):Option B:=(yX l).bind k0
def kLN(n:Nat)(a:A)(k0:A->Option B):Option B:=(jL n a).bind k0
def kLP(a:A)(k0:A->Option B):Option B:=(jZ a).bind k0
def jll(a:A)(n:Nat)(k0:A->Option B):Option B:=(kQ a n).bind k0
def kB(t x:A)(k0:A->Option B):Option B:=(pG t true (some x)).bind k0
def zd(t x:A)(k0:A->Option B):Option B:=(pG t false (some x)).bind k0
def zN(t:A)(x:Xl)(k0:A->Option B):Option B:=(pG t true x).bind k0
def yu(t:A)(x:Xl)(k0:A->Option B):Option B:=(pG t false x).bind k0
def zD(t:A)(n:Nat)(l:Xd)(k0:A->Option B):Option B:=(pG t true ((G n l).bind (fin false))).bind k0
def jgI(t:A)(n:Nat)(l:Xd)(k0:A->Option B):Option B:=(pG t false ((G n l).bind (fin false))).bind k0
def kF(n:Nat)(l:Xd)(k0:A->Option B):Option B:=((G n l).bind (fin false)).bind k0
def jfa(o:Out)(k0:A->Option B):Option B:=(fin false o).bind k0
def kfn(b:Bool)(x:Xe)(k0:A->Option B):Option B:=(x.bind (fin b)).bind k0
def jgJ(x:A)(k0:A->Option B):Option B:=(pUn .not x).bind k0
def ZU(o:Out)(i:Nat)(k0:A->Option B):Option B:=(hD o i).bind k0
def yl(k:Nat)(o:Out)(i:Nat)(k0:Xc->Option B):Option B:=(hR k o i).bind k0
def kIx(n:Nat)(i:A)(k0:Nat->Option B):Option B:=(pIx n i).bind k0
def kRN(l:Xc)(i j n:Nat)(k0:A->Option B):Option B:=(jhh l i j n).bind k0
def kRG(l:Xc)(i:Nat)(k0:Xd->Option B):Option B:=(QD l i).bind k0
def kIS(a i:A)(k0:A->Option B):Option B:=(kG a i).bind k0
def kSl(k:Nat)(a:A)(x y:Xl)(k0:A->Option B):Option B:=(Jv k a x y).bind k0
def kRP(l:Xc)(i j:Nat)(k0:A->Option B):Option B:=(jhi l i j).bind k0
def kMk(n:Nat)(a b:A)(k0:Nat->Option B):Option B:=(jaZ n a b).bind k0
def kRs(k:Nat)(a:A)(k0:Xc->Option B):Option B:=(yZ k a).bind k0
def kLS(a:A)(k0:A->Option B):Option B:=(Qz a).bind k0
def ju(x y:A)(k0:A->Option B):Option B:=(jz .add false x y).bind k0
def zO(x y:A)(k0:A->Option B):Option B:=(jz .eql false x y).bind k0
def Zd(x y:A)(k0:A->Option B):Option B:=(jz .geq false x y).bind k0
def jkh(x y:A)(k0:A->Option B):Option B:=(jz .gtr false x y).bind k0
def jgK(x y:A)(k0:A->Option B):Option B:=(jz .leq false x y).bind k0
def jki(x y:A)(k0:A->Option B):Option B:=(jz .lss false x y).bind k0
def jaR(x y:A)(k0:A->Option B):Option B:=(jz .neq false x y).bind k0
def jkj(x y:A)(k0:A->Option B):Option B:=(jz .quo false x y).bind k0
def jcp(x y:A)(k0:A->Option B):Option B:=(jz .sub false x y).bind k0
def KI(t:A)(X Y:Option B):Option B:=(zm t).bind λu=>brn u X Y
def Z8(c x y:A)(X Y:Option B):Option B:=(yY c x y).bind λt=>(zm t).bind λu=>brn u X Y
def Z7(x:A)(X Y:Option B):Option B:=(pUn .not x).bind λt=>(zm t).bind λu=>brn u X Y
def KU(i l:A)(X Y:Option B):Option B:=(yX l).bind λn=>(jz .lss false i n).bind λt=>(zm t).bind λu=>brn u X Y
def kF2(n:Nat)(l:Xd)(k:A->A->Option B):Option B:=((G n l).bind (fin false)).bind λt=>(YE t 0).bind λa=>(YE t 1).bind λb=>k a b
def kFN(n:Nat)(l:Xd)(k:A->Option B):Option B:=((G n l).bind (fin false)).bind λt=>(pUn .not t).bind k
def kAP(a:A)(m:Nat)(k:A->Option B):Option B:=(kQ a m).bind λt=>(jZ t).bind k
def y8(n m:Nat)(x i:A)(k:A->Option B):Option B:=(jk m x i).bind λt=>(jL n t).bind k
def kIP(m:Nat)(x i:A)(k:A->Option B):Option B:=(jk m x i).bind λt=>(jZ t).bind k
def jdw(n m:Nat)(x i:A)(o:Nat)(k:A->Option B):Option B:=(jk m x i).bind λt=>(kQ t o).bind λt=>(jL n t).bind k
def Qk(m:Nat)(x i:A)(o:Nat)(k:A->Option B):Option B:=(jk m x i).bind λt=>(kQ t o).bind λt=>(jZ t).bind k
def jB(x y:A)(X Y:Option B):Option B:=(jz .lss false x y).bind λt=>(zm t).bind λu=>brn u X Y
def jiy(x y:A)(X Y:Option B):Option B:=(jz .leq false x y).bind λt=>(zm t).bind λu=>brn u X Y
def Jt(x y:A)(X Y:Option B):Option B:=(jz .gtr false x y).bind λt=>(zm t).bind λu=>brn u X Y
def jix(x y:A)(X Y:Option B):Option B:=(jz .geq false x y).bind λt=>(zm t).bind λu=>brn u X Y
def Js(x y:A)(X Y:Option B):Option B:=(jz .eql false x y).bind λt=>(zm t).bind λu=>brn u X Y
def kK(x y:A)(X Y:Option B):Option B:=(jz .neq false x y).bind λt=>(zm t).bind λu=>brn u X Y
def jh(x:A):Xe:=some (x,[])
def KV(t:Xd):A:=A.agg [jc t 0]
def zz(t:Xd):A:=A.agg [jc t 0,jc t 1]
def jpT(t:Xd):A:=A.agg [jc t 0,jc t 1,jc t 2]
end
section
variable(a b c d e f g h i j k l m n o aa ab ac ad ae af ag ah ai aj ak al am:A)(p q r s t u v w x y z:Xc)
def Yf:=MM K (.callv 100 [vD a,vD b,vR 0] [.row 3 p])
def KZ:=hs (some [0]) 100 11010010 [vT,vT,vR 0,vP 1,vP 2,vT,vT,vT,vD a] 77 [.row 3 p,.box [vD b,vD c],.box [vD d,vD e]]
def YN:=hs (some [0]) 100 1111010 ([vT,vT,vR 0,vP 1,vP 2]++tp 4++[vD a]) 76 [.row 3 p,.box [vD b,vD c],.box [vD d,vD e]]
def YO:=hs (some [3]) 100 1111010 ([vT,vT,vR 0,vP 1,vP 2]++tp 4++[vD a]) 76 [.row 3 p,.box [vD b,vD c],.box [vD d,vD e],.gone]
def jmP:=hs (some [3]) 100 1111010 ([vT,vT,vR 0,vP 1,vP 2]++tp 4++[vD a]) 76 [.gone,.box [vD b,vD c],.box [vD d,vD e],.gone]
def Yg:=MM K (.callv 101 [vD a] [])
def YP:=hs (some []) 101 111010 [vD a,vT,vT,vR 0,vD b] 18 [.tre false 2 p]
def jbM:=hd 103 111010 [vT,vT,vT,vD a,vT,vT,vD b,vD c,vD d] 9 []
def jeH:=MM K (.callv 107 [vR 0,V.agg [V.d a,V.d b]] [.row 1 p])
def YQ:=hs (some [0]) 107 111010 ([vR 0]++tp 26++[vD a,vD b,vD c]) 8 [.row 1 p]
def YR:=hs (some [1]) 107 111010 ([vR 0]++tp 26++[vD a,vD b,vD c]) 8 [.row 1 p,.gone]
def jjt:=MM K (.callv 10 [vR 0,vD a] [.tre true 1 p])
def jbl:=hs (some [0]) 10 11010 [vR 0,vD a,vT,vT,vT,vD b] 14 [.tre true 1 p]
def jeI:=hd 110 111010 [vD a,vD b,vT,vT,vT,vD c] 21 []
def jbN:=hd 114 11010 ([vD a]++tp 4++[vD b,vD c]) 41 []
def jeJ:=hd 117 11010 ([vD a,vD b,vD c]++tp 8++[vD d,vD e,vD f]) 25 []
def jmy:=MM K (.callv 11 [V.agg [V.row 0,V.row 1,V.row 2,V.row 3,V.d a],vD b] [.tre true 1 p,.tre true 4 q,.tre true 1 r,.tre true 1 s])
def jeK:=hd 122 111010 [vT,vT,vT,vD a,vT,vT,vT,vD b,vD c,vD d] 12 []
def jeL:=hd 123 111010 [vT,vT,vT,vD a,vT,vT,vT,vD b,vD c,vD d] 10 []
def jbO:=hd 124 11010 ([vD a]++tp 4++[vD b,vD c]) 33 []
def jeM:=hd 132 11010 ([vD a,vD b]++tp 5++[vD c,vD d]) 10 []
def jeN:=hd 137 11010 ([vD a,vD b]++tp 5++[vD c,vD d]) 10 []
def jjx:=hd 15 111010 [vT,vP 0,vP 1,vP 2,vD a] 28 [.box [vD b],.box [vR 3],.box [vR 4],.row 3 p,.row 3 q]
def jmz:=MM K (.callv 17 [vD a] [])
def jmA:=MM K (.callv 19 [vD a] [])
def jbm:=hs (some []) 19 111010 [vT,vT,vT,vR 0,vT,vT,vT,vD a,vD b,vD c] 10 [.tre true 1 p]
def jmB:=MM K (.callv 21 [vP 0,V.agg [V.d a,V.row 7,V.row 1,V.row 2]] [.box [vR 3,vR 4,vR 5,vR 6,vD b],.tre true 1 p,.tre true 3 q,.tre true 1 r,.tre true 4 s,.tre true 1 t,.tre true 1 u,.row 1 v])
def jfT:=MM K (.callv 22 [V.agg [V.d a]] [])
def jbn:=hs (some []) 22 111010 ([vT,vT,vP 0,vP 1]++tp 4++[vD a,vD b,vD c]) 12 [.box [vR 2],.box [vR 3],.tre true 3 p,.tre true 3 q]
def jjy:=hd 24 111010 [vD a,vD b,vT,vT,vT,vD c] 20 []
def jju:=MM K (.callv 26 [vR 0,vD a] [.tre true 3 p])
def jbo:=hs (some [0]) 26 11010 [vR 0,vD a,vT,vT,vT,vD b] 33 [.tre true 3 p]
def jmC:=MM K (.callv 27 [V.agg [V.row 0,V.row 1],vD a] [.tre true 1 p,.tre true 4 q])
def jdG:=MM K (.callv 28 [vR 0,vD a] [.tre true 1 p])
def jbp:=hs (some [0]) 28 11010 [vR 0,vD a,vT,vT,vT,vD b] 13 [.tre true 1 p]
def jjz:=hd 30 11010 [vD a,vD b,vT,vT,vT,vD c] 15 []
def jfV:=hd 31 1111010 [vD a,vD b,vT,vT,vT,vD c] 21 []
def jjA:=hd 32 111010 [vT,vP 0,vT,vD a] 38 [.box [vD b]]
def jjB:=hd 33 111010 [vT,vT,vT,vD a,vD b] 16 []
def jjC:=hd 34 111010 [vT,vP 0,vP 1,vP 2,vD a] 22 [.box [vD b,vD c],.box [vD d,vR 3],.box [vD e,vR 4],.row 2 p,.row 2 q]
def jfW:=hd 35 11010 [vT,vP 0,vT,vD a] 49 [.box [vD b]]
def jjD:=hd 36 11010 [vT,vD a,vT,vP 0,vT,vP 1,vT,vD b] 23 [.box [vD c,vD d],.box [vD e]]
def jmD:=MM K (.callv 37 [vD a] [])
def jbq:=hs (some []) 37 111010 [vD a,vT,vT,vR 0,vD b] 18 [.tre false 3 p]
def jmQ:=hd 4 1111010 [vD a,vD b,vT,vT,vT,vD c] 21 []
def jfX:=hd 44 11010 ([vT,vP 0]++tp 4++[vD a,vD b,vD c]) 41 [.box [vD d]]
def jmE:=MM K (.callv 46 [V.agg [V.d a,V.d b,V.d c]] [])
def jjE:=hd 47 111010 [vD a,vD b,vT,vT,vT,vD c] 21 []
def jjF:=hd 48 111010 [vD a,vD b,vT,vT,vT,vD c] 21 []
def jjG:=hd 49 111100 [vD a,vT,vT,vD b] 16 []
def jpl:=hd 5 1111010 [vD a,vT,vP 0,vT,vP 1,vD b] 69 [.box [vR 2,vR 3,vR 4,vR 5,vD c],.box [vR 6,vR 7,vR 8,vR 9,vD d],.row 1 p,.row 4 q,.row 1 r,.row 1 s,.row 1 t,.row 4 u,.row 1 v,.row 1 w]
def jh4:=hd 5 11111010 [vD a,vT,vP 0,vT,vP 1,vT,vD b] 68 [.box [vR 2,vR 3,vR 4,vR 5,vD c],.box [vR 6,vR 7,vR 8,vR 9,vD d],.row 1 p,.row 4 q,.row 1 r,.row 1 s,.row 1 t,.row 4 u,.row 1 v,.row 1 w]
def jdH:=MM K (.callv 50 [vR 0,vD a] [.tre true 2 p])
def jbr:=hs (some [0]) 50 11010 [vR 0,vD a,vT,vT,vT,vD b] 22 [.tre true 2 p]
def jmF:=MM K (.callv 51 [vR 0,vD a] [.tre true 4 p])
def jbs:=hs (some [0]) 51 11010 [vR 0,vD a,vT,vT,vT,vD b] 36 [.tre true 4 p]
def jjH:=hd 52 11010 [vD a,vD b,vT,vT,vT,vD c] 16 []
def jjI:=hd 53 11010 [vD a,vD b,vT,vT,vT,vD c] 44 []
def jfY:=hd 57 111010 [vT,vP 0,vT,vR 1,vD a] 17 [.box [vD b],.row 1 p]
def jjJ:=hd 59 111010 [vT,vT,vP 0,vP 1,vT,vD a] 33 [.box [vD b,vD c],.box [vD d,vD e]]
def jmG:=MM K (.callv 61 [vD a] [])
def jfZ:=hd 62 11010 ([vD a,vD b]++tp 5++[vD c,vD d]) 10 []
def jjK:=hd 63 11010 ([vT,vP 0]++tp 4++[vD a,vD b,vD c]) 27 [.box [vD d]]
def jjL:=hd 64 11010 (tp 6++[vD a,vD b,vD c]) 10 []
def jf0:=hd 65 111010 ([vD a,vD b,vT,vT,vT,vP 0]++tp 12++[vD c,vD d,vD e]) 34 [.box [vD f]]
def jjM:=hd 68 11010 ([vD a,vD b]++tp 5++[vD c,vD d]) 10 []
def jdI:=MM K (.callv 69 [vD a] [])
def jk0:=MM K (.callv 6 [vD a] [])
def jeO:=hs (some []) 6 111010 [vD a,vT,vT,vR 0,vD b] 18 [.tre false 1 p]
def jjN:=hd 72 11010 [vD a,vD b,vT,vT,vT,vD c] 39 []
def jjO:=hd 75 1111010 [vT,vP 0,vT,vD a] 31 [.box [vD b,vD c]]
def JF:=hd 76 1111010 [vD a,vT,vT,vD b] 41 []
def jf1:=hd 78 1111010 [vT,vT,vP 0,vP 1,vT,vT,vT,vD a] 67 [.box [vD b,vD c],.box [vD d,vD e]]
def jjv:=MM K (.callv 79 [vD a,vR 0] [.row 1 p])
def jbt:=hs (some [0]) 79 111010 [vT,vR 0,vP 1,vT,vT,vD a] 28 [.row 1 p,.box [vD b,vD c]]
def jbu:=hs (some [2]) 79 111010 [vT,vR 0,vP 1,vT,vT,vD a] 28 [.row 1 p,.box [vD b,vD c],.gone]
def jpi:=MM K (.callv 7 [vD a] [])
def jh5:=hs (some []) 7 1111010 ([vT,vT,vP 0,vT,vP 1]++tp 16++[vD a,vD b,vD c]) 19 [.box [vR 3,vR 4,vR 5,vR 6,vD d],.box [vR 2,vR 7,vR 8,vR 9,vD e],.tre true 1 p,.tre true 1 q,.tre true 4 r,.tre true 1 s,.tre true 1 t,.tre true 4 u,.tre true 1 v,.tre true 1 w]
def jbP:=hs (some []) 7 1111010 ([vT,vT,vP 0,vT,vP 1]++tp 16++[vD a,vD b,vD c]) 19 [.box [vR 2,vR 3,vR 4,vR 5,vD d],.box [vR 6,vR 7,vR 8,vR 9,vD e],.tre true 1 p,.tre true 4 q,.tre true 1 r,.tre true 1 s,.tre true 1 t,.tre true 4 u,.tre true 1 v,.tre true 1 w]
def jbQ:=hd 80 111010 [vT,vD a,vT,vD b,vP 0,vT,vP 1,vT,vT,vT,vD c] 63 [.box [vD d],.box [vD e]]
def jmH:=MM K (.callv 81 [V.agg [V.d a,V.d b]] [])
def jjw:=MM K (.callv 81 [vD a] [])
def jf2:=hd 84 111010 ([vT,vT,vT,vR 0]++tp 4++[vD a,vD b,vD c]) 9 [.row 1 p]
def jmI:=MM K (.callv 86 [vD a] [])
def jbv(r0 r1:Xc):Xe:=MM K (.rhead 86 [1,1,0,1,0] [V.top,V.top,V.top,V.row 0,V.top,V.top,V.top,V.top,V.ptr 1 0,V.top,V.top,V.top,V.top,V.top,V.top,V.top,V.top,V.top] [.map r0,.gone] (some []) r1)
def jfU:=MM K (.callv 87 [vR 0,vD a,V.agg [V.d b,V.d c]] [.map p])
def YS:=hs (some [0]) 87 1111010 ([vR 0]++tp 4++[vP 1]++tp 46++[vD a,vD b,vD c]) 14 [.map p,.box [vD d,vD e]]
def KY:=MM K (.callv 87 [vR 0,V.agg [V.d a,V.d b],vD c] [.map p])
def YT:=hs (some [0]) 87 1111010 ([vR 0]++tp 4++[vP 1]++tp 46++[vD a,vD b,vD c]) 14 [.map p,.box [vD d,vD e]]
def jjP:=hd 88 111010 ([vT,vD a,vD b]++tp 12++[vD c,vD d,vD e]) 14 []
def jmJ:=MM K (.callv 89 [vD a] [])
def jbw:=hs (some []) 89 1111010 ([vT,vT,vT,vR 0]++tp 8++[vD a,vD b,vD c]) 11 [.tre false 2 p]
def jpm:=hd 9 111010 [vD a,vD b,vT,vT,vT,vD c] 21 []
def jjQ:=hd 91 11010 [vD a,vD b,vT,vT,vT,vD c] 26 []
def jf3:=hd 92 1111010 [vD a,vD b,vT,vT,vT,vD c] 21 []
def jjR:=hd 93 111010 [vT,vD a,vP 0,vT,vT,vD b,vD c] 24 [.box [vD d,vD e]]
def jjS:=hd 94 111010 [vT,vP 0,vT,vD a,vD b] 17 [.box [vD c,vD d]]
def jdK:=hd 95 111010 [vD a,vT,vT,vD b] 25 []
def jjT:=hd 99 11010 [vD a,vD b,vT,vT,vT,vD c] 12 []
def e_1:Xe:=((pNo (vb false)).bind λ_=>some [[]]).bind λa=>some (A.top,vb false::(slL [259] a))
def e_0(a:A)(b:A)(c:A)(p:Xc)(d:A)(e:A):Xe:=KU a b (y8 2 2 b a λf=>y8 2 2 c a λg=>(Yf f g p).bind λf=>ZU f 0 λg=>yl 259 f 1 λf=>KI g (Z7 g e_1 (ju a (vi 1) λa=>YO a d b e c f)) (Z7 g e_1 (ju a (vi 1) λa=>jmP a d b e c))) (some (A.top,[vb true,A.sl 259 p]))
def e_2(a:A)(b:A)(c:A)(d:A):Xe:=KI a (KI b (jh (vi 0)) (jh (vi (- 1)))) (KI b (jh (vi 1)) (jB c d (jh (vi (- 1))) (Jt c d (jh (vi 1)) (jh (vi 0)))))
def e_3(a:A)(b:A)(c:A)(p:Xc):Xe:=jB a b (y8 2 2 c a λd=>jm 2 d λd=>(jeH (jc d 0) (jc d 1) p).bind λd=>yl 1 d 0 λd=>ju a (vi 1) λa=>YR c b a d) (some (A.top,[A.sl 1 p]))
def e_4(a:A)(b:A)(c:A):Xe:=Zd a b λb=>kB b a λa=>kB b c λc=>zN b (jz .leq false a c) λa=>kj b a (vb false) λa=>jh a
def e_5(a:A)(b:A)(c:A)(d:A)(e:A)(f:A)(g:A)(h:A)(p:Xc):Xe:=Z8 a (vb true) b (ju c (vi 1) λa=>jf0 d e f g a h) (kSl 3 e (some (vi 1)) none λa=>(G 65 [A.mp p,a,A.agg [h]]).bind λa=>jfa a λa=>ZV a 0 λb=>ZV a 1 λa=>KI a (jh (A.tup [b,vb true])) (ju c (vi 1) λa=>jf0 d e f g a h))
def e_6(a:Xd)(p:Xc):Xe:=brn (kJ (jc a 0)) (some (A.top,[jc a 0,A.sl 66 p])) none
def e_7(a:A)(b:A)(p:Xc)(c:A):Xe:=KU a b (y8 2 2 b a λd=>(jjv d p).bind λd=>yl 1 d 0 λd=>ju a (vi 1) λa=>jbu a c b d) (some (A.top,[A.sl 1 p]))
def e_8(a:A)(b:A)(c:A)(p:Xc)(q:Xc)(r:Xc)(s:Xc)(d:A)(e:A)(t:Xc)(u:Xc)(v:Xc)(w:Xc):Xe:=jB a b (y8 1 1 c a λf=>jm 1 f λf=>kfn true (G 20 [A.elt [A.sl 1 p,A.sl 4 q,A.sl 1 r,A.sl 1 s,d] 0,KV f]) λg=>Z7 g (brn (kJ a) (brn (ke a) ((jfT (jc f 0)).bind λf=>yl 67 f 0 λf=>(jmB (vi 1) d [[a]] f p q r s []).bind λd=>ZU d 0 λf=>yl 65 d 1 λg=>yl 68 d 2 λh=>yl 65 d 3 λi=>yl 65 d 4 λd=>ju a (vi 1) λa=>jbP c b a e f t u v w g h i d) none) none) (ju a (vi 1) λa=>jbP c b a e d t u v w p q r s)) (brn (kJ d) (some (A.top,[d,vb true,A.sl 65 p,A.sl 68 q,A.sl 65 r,A.sl 65 s])) none)
theorem cev:type_of% (And.intro @jm.eq_1 (And.intro @kIA.eq_1 (And.intro @ZV.eq_1 (And.intro @kj.eq_1 (And.intro @jF.eq_1 (And.intro @j8.eq_1 (And.intro @kLN.eq_1 (And.intro @kLP.eq_1 (And.intro @jll.eq_1 (And.intro @kB.eq_1 (And.intro @zd.eq_1 (And.intro @zN.eq_1 (And.intro @yu.eq_1 (And.intro @zD.eq_1 (And.intro @jgI.eq_1 (And.intro @kF.eq_1 (And.intro @jfa.eq_1 (And.intro @kfn.eq_1 (And.intro @jgJ.eq_1 (And.intro @ZU.eq_1 (And.intro @yl.eq_1 (And.intro @kIx.eq_1 (And.intro @kRN.eq_1 (And.intro @kRG.eq_1 (And.intro @kIS.eq_1 (And.intro @kSl.eq_1 (And.intro @kRP.eq_1 (And.intro @kMk.eq_1 (And.intro @kRs.eq_1 (And.intro @kLS.eq_1 (And.intro @ju.eq_1 (And.intro @zO.eq_1 (And.intro @Zd.eq_1 (And.intro @jkh.eq_1 (And.intro @jgK.eq_1 (And.intro @jki.eq_1 (And.intro @jaR.eq_1 (And.intro @jkj.eq_1 (And.intro @jcp.eq_1 (And.intro @KI.eq_1 (And.intro @Z8.eq_1 (And.intro @Z7.eq_1 (And.intro @KU.eq_1 (And.intro @kF2.eq_1 (And.intro @kFN.eq_1 (And.intro @kAP.eq_1 (And.intro @y8.eq_1 (And.intro @kIP.eq_1 (And.intro @jdw.eq_1 (And.intro @Qk.eq_1 (And.intro @jB.eq_1 (And.intro @jiy.eq_1 (And.intro @Jt.eq_1 (And.intro @jix.eq_1 (And.intro @Js.eq_1 (And.intro @kK.eq_1 (And.intro @jh.eq_1 (And.intro @KV.eq_1 (And.intro @zz.eq_1 (And.intro @jpT.eq_1 (And.intro @e_1.eq_1 (And.intro @e_0.eq_1 (And.intro @e_2.eq_1 (And.intro @e_3.eq_1 (And.intro @e_4.eq_1 (And.intro @e_5.eq_1 (And.intro @e_6.eq_1 (And.intro @e_7.eq_1 (@e_8.eq_1))))))))))))))))))))))))))))))))))))))))))))))))))))))))))))))))))))):=And.intro @jm.eq_1 (And.intro @kIA.eq_1 (And.intro @ZV.eq_1 (And.intro @kj.eq_1 (And.intro @jF.eq_1 (And.intro @j8.eq_1 (And.intro @kLN.eq_1 (And.intro @kLP.eq_1 (And.intro @jll.eq_1 (And.intro @kB.eq_1 (And.intro @zd.eq_1 (And.intro @zN.eq_1 (And.intro @yu.eq_1 (And.intro @zD.eq_1 (And.intro @jgI.eq_1 (And.intro @kF.eq_1 (And.intro @jfa.eq_1 (And.intro @kfn.eq_1 (And.intro @jgJ.eq_1 (And.intro @ZU.eq_1 (And.intro @yl.eq_1 (And.intro @kIx.eq_1 (And.intro @kRN.eq_1 (And.intro @kRG.eq_1 (And.intro @kIS.eq_1 (And.intro @kSl.eq_1 (And.intro @kRP.eq_1 (And.intro @kMk.eq_1 (And.intro @kRs.eq_1 (And.intro @kLS.eq_1 (And.intro @ju.eq_1 (And.intro @zO.eq_1 (And.intro @Zd.eq_1 (And.intro @jkh.eq_1 (And.intro @jgK.eq_1 (And.intro @jki.eq_1 (And.intro @jaR.eq_1 (And.intro @jkj.eq_1 (And.intro @jcp.eq_1 (And.intro @KI.eq_1 (And.intro @Z8.eq_1 (And.intro @Z7.eq_1 (And.intro @KU.eq_1 (And.intro @kF2.eq_1 (And.intro @kFN.eq_1 (And.intro @kAP.eq_1 (And.intro @y8.eq_1 (And.intro @kIP.eq_1 (And.intro @jdw.eq_1 (And.intro @Qk.eq_1 (And.intro @jB.eq_1 (And.intro @jiy.eq_1 (And.intro @Jt.eq_1 (And.intro @jix.eq_1 (And.intro @Js.eq_1 (And.intro @kK.eq_1 (And.intro @jh.eq_1 (And.intro @KV.eq_1 (And.intro @zz.eq_1 (And.intro @jpT.eq_1 (And.intro @e_1.eq_1 (And.intro @e_0.eq_1 (And.intro @e_2.eq_1 (And.intro @e_3.eq_1 (And.intro @e_4.eq_1 (And.intro @e_5.eq_1 (And.intro @e_6.eq_1 (And.intro @e_7.eq_1 (@e_8.eq_1))))))))))))))))))))))))))))))))))))))))))))))))))))))))))))))))))))
theorem jkt(r0 r1:Xc):jbv r0 r1=allR r1 (some ((A.top,[A.sl 128 r0]))) (λt1 t2=>brn (jnI t1) ((YE (A.tup [jc t1 0,jc t1 1]) 0).bind λt3=>(YE (A.tup [jc t1 0,jc t1 1]) 1).bind λt4=>(jaf 2 t4).bind λt5=>(jfx none r0 t3 (A.agg [jc t5 0,jc t5 1])).bind λt6=>jbv (jig t6) t2) (none)):=(jtm Tryz.func86 rfl).trans (by kernel_rfl)
theorem jsa:Yf a b p=jm 2 a λa=>jm 2 b λb=>kF 95 [jc a 0] λc=>KI c (KZ (vi 0) (jc a 0) (jc a 1) (jc b 0) (jc b 1) p) (jaR (jc a 0) (jc b 0) λc=>jF c false λ_=>zd c (jc a 1) λd=>yu c (yX d) λd=>jF c false λ_=>zd c (jc b 1) λe=>yu c (yX e) λe=>yu c (jz .neq false d e) λd=>Z8 c (vb true) d (some (A.top,[vb false,A.sl 259 p])) (YN (vi 0) (jc a 0) (jc a 1) (jc b 0) (jc b 1) p)):=vq Tryz.func100
theorem jgP:KZ a b c d e p=jB a (KW p) (kIx (jO p) a λf=>kRP p f 0 λf=>Js f b (kIx (jO p) a λa=>kRN p a 1 2 λa=>kF 59 [a,A.agg [d,e]] λa=>some (A.top,[a,A.sl 259 p])) (ju a (vi 1) λa=>KZ a b c d e p)) (brn (kJ b) (brn (kJ d) (brn (kJ e) (brn (kJ b) (brn (kJ d) (brn (kJ e) (brn (zo ((jO p)+(jO [[b,d,e]])) 56) (some (A.top,[vb true,A.sl 259 (Jw p [[b,d,e]])])) none) none) none) none) none) none) none):=hq Tryz.func100
theorem jnP:YN a b c d e p=e_0 a c e p b d:=hq Tryz.func100
theorem jcr:YO a b c d e p=e_0 a c e p b d:=hq Tryz.func100
theorem jsb:Yg a=j8 a λb=>kMk 40 b b λb=>YP a (vi 0) (jal b [sv [],A.sl 2 []]):=vq Tryz.func101
theorem jgQ:YP a b p=KU b a (y8 2 2 a b λc=>(jjw c).bind λc=>ZU c 0 λd=>yl 66 c 1 λc=>kIx (jO p) b λe=>brn (kJ d) (brn (ke d) (kRG p e λf=>ju b (vi 1) λb=>YP a b (kx p e (jJ f 0 [d,A.sl 2 c]))) none) none) (some (A.top,[A.sl 66 p])):=hq Tryz.func101
theorem jt8:G 102 [a]=jm 2 a λa=>kF 66 [zz a] λb=>KI b (j8 (jc a 1) λb=>zO b (vi 2) λb=>jF b true λ_=>zD b 112 [zz a] λc=>kj b c (vb false) λb=>jF b true λ_=>kB b (jc a 1) λc=>zN b (jk 2 c (vi 0)) λc=>zN b (jL 2 c) λc=>zD b 113 [c] λc=>kj b c (vb false) λb=>jF b true λ_=>kB b (jc a 1) λa=>zN b (jk 2 a (vi 1)) λa=>zN b (jL 2 a) λa=>zD b 113 [a] λa=>kj b a (vb false) λa=>jh a) (kF 114 [jc a 0] λb=>jF b true λ_=>zD b 115 [zz a] λa=>kj b a (vb false) λa=>jh a):=gq Tryz.func102
theorem jvK:G 103 [a]=j8 a λb=>jbM (vi 0) a b (vi 0):=gq Tryz.func103
theorem jiA:jbM a b c d=jB d c (kIP 1 b d λe=>kK e a (jh e) (ju d (vi 1) λd=>jbM a b c d)) (jh a):=hq Tryz.func103
theorem jvL:G 104 [a,b]=jm 2 a λa=>jm 2 b λb=>kF 109 [zz a] λc=>kF 109 [zz b] λd=>kB c d λe=>zN c (pUn .not e) λe=>Z8 c e (vb false) (jh (vi (- 1))) (kB d c λc=>zN d (pUn .not c) λc=>Z8 d c (vb false) (jh (vi 1)) (kF 116 [jc a 0,jc b 0] λc=>j8 (jc a 1) λd=>j8 (jc b 1) λe=>kF 105 [d,e] λd=>brn (kJ c) (brn (kJ d) (kfn true (G 103 [A.sl 1 [[c],[d]]]) λc=>kK c (vi 0) (jh c) (kF 117 [jc a 1,jc b 1,A.fn 104 []] λa=>jh a)) none) none)):=gq Tryz.func104
theorem jvM:G 105 [a,b]=kF 118 [a] λc=>kF 118 [b] λd=>e_2 c d a b:=gq Tryz.func105
theorem jvN:G 106 [a]=KI a (jh (vi 1)) (jh (vi 0)):=gq Tryz.func106
theorem jsc:jeH a b p=brn (kJ a) (brn (kJ b) (j8 b λc=>zO c (vi 0) λc=>jF c true λ_=>zD c 109 [A.agg [a,b]] λd=>Z8 c d (vb false) (kfn true (G 119 [A.sl 1 p,a]) λb=>Z7 b (brn (kJ a) (brn (zo ((jO p)+(jO [[a]])) 16) (some (A.top,[A.sl 1 (Jw p [[a]])])) none) none) (some (A.top,[A.sl 1 p]))) (j8 b λa=>YQ b a (vi 0) p)) none) none:=vq Tryz.func107
theorem jnQ:YQ a b c p=e_3 c b a p:=hq Tryz.func107
theorem jcs:YR a b c p=e_3 c b a p:=hq Tryz.func107
theorem jsq:G 109 [a]=jm 2 a λa=>kIS (jc a 0) (vi 0) λa=>kF 121 [a] λa=>jh a:=gq Tryz.func109
theorem jtB:jjt a p=jbl a (vi 0) p:=vq Tryz.func10
theorem jkl:jbl a b p=jB b (KW p) (kIx (jO p) b λc=>kRG p c λd=>brn (KH (jc d 0)) (kRG p c λd=>kRs 3 (jc d 0) λe=>(jju a e).bind λa=>ZU a 0 λe=>yl 67 a 1 λa=>ju b (vi 1) λb=>jbl e b (kx p c (jJ d 0 [A.sl 3 a]))) none) (some (A.top,[a,A.sl 65 p])):=hq Tryz.func10
theorem jvO:G 110 [a,b]=j8 a λc=>j8 b λd=>kK c d (jh (vb false)) (jeI a b (vi 0)):=gq Tryz.func110
theorem jnR:jeI a b c=KU c a (y8 2 2 a c λd=>y8 2 2 b c λe=>kF 90 [d,e] λd=>Z7 d (jh (vb false)) (ju c (vi 1) λc=>jeI a b c)) (jh (vb true)):=hq Tryz.func110
theorem jvP:G 111 [a,b]=Jt a b (jh a) (jh b):=gq Tryz.func111
theorem jvQ:G 112 [a]=jm 2 a λa=>kF 122 [zz a] λb=>jgK b (vi 30) λb=>jF b true λ_=>zD b 123 [zz a] λa=>zN b (jz .leq false a (vi 8)) λa=>kj b a (vb false) λa=>jh a:=gq Tryz.func112
theorem jvR:G 113 [a]=jm 2 a λa=>kF 124 [jc a 0] λb=>KI b (j8 (jc a 1) λa=>zO a (vi 0) λa=>jh a) (kF 114 [jc a 0] λb=>jF b true λ_=>kB b (jc a 1) λc=>zN b (yX c) λc=>zN b (jz .leq false c (vi 4)) λc=>kj b c (vb false) λb=>jF b true λ_=>kB b (jc a 1) λa=>zD b 125 [a,A.fn 126 []] λa=>zN b (pUn .not a) λa=>kj b a (vb false) λa=>jh a):=gq Tryz.func113
theorem jvS:G 114 [a]=kLS a λb=>jbN a b (vi 0):=gq Tryz.func114
theorem jfb:jbN a b c=jB c b (zO c (vi 0) λd=>kB d a λe=>kB d c λf=>zN d (kG e f) λe=>zD d 127 [e] λe=>zN d (pUn .not e) λe=>kj d e (vb false) λd=>zd d a λe=>zd d c λf=>yu d (kG e f) λe=>jgI d 127 [e] λe=>yu d (pUn .not e) λe=>zd d e λe=>kB e a λf=>kB e c λg=>zN e (kG f g) λf=>zD e 128 [f] λf=>zN e (pUn .not f) λf=>yu d (yY e f (vb false)) λe=>zd d e λe=>kB e a λf=>kB e c λg=>zN e (kG f g) λf=>zN e (jz .neq false f (vy 95)) λf=>yu d (yY e f (vb false)) λe=>Z8 d (vb true) e (jh (vb false)) (ju c (vi 1) λc=>jbN a b c)) (kLS a λb=>kF 129 [b,vi 1,vi 6] λb=>zD b 130 [] λc=>kB b a λa=>zD b 119 [c,a] λa=>zN b (pUn .not a) λa=>kj b a (vb false) λa=>jh a):=hq Tryz.func114
theorem jvT:G 115 [a]=jm 2 a λa=>kF 112 [zz a] λb=>jF b true λ_=>zD b 113 [zz a] λa=>kj b a (vb false) λa=>jh a:=gq Tryz.func115
theorem jvU:G 116 [a,b]=kF 131 [a] λc=>kF 131 [b] λd=>e_2 c d a b:=gq Tryz.func116
theorem jvV:G 117 [a,b,c]=j8 a λd=>jeJ a b c a d (vi 0):=gq Tryz.func117
theorem jnS:jeJ a b c d e f=jB f e (y8 2 2 d f λg=>jm 2 g λg=>j8 b λh=>jix f h (jh (vi 1)) (y8 2 2 b f λh=>jm 2 h λh=>(DX.run K (MM K) (.callc c [zz g,zz h] false)).bind λg=>kK g (vi 0) (jh g) (ju f (vi 1) λf=>jeJ a b c d e f))) (j8 a λa=>KU a b (jh (vi (- 1))) (jh (vi 0))):=hq Tryz.func117
theorem jt9:G 118 [a]=jaR a a λa=>jh a:=gq Tryz.func118
theorem jvW:G 119 [a,b]=kF 132 [a,b] λa=>Zd a (vi 0) λa=>jh a:=gq Tryz.func119
theorem jtC:jmy a b p q r s=brn (kJ a) ((jmC b p q).bind λa=>ZU a 0 λb=>yl 65 a 1 λc=>yl 68 a 2 λa=>(jdG b r).bind λb=>ZU b 0 λd=>yl 65 b 1 λb=>(jdG d s).bind λd=>ZU d 0 λe=>yl 65 d 1 λd=>some (A.top,[e,A.sl 65 c,A.sl 68 a,A.sl 65 b,A.sl 65 d])) none:=vq Tryz.func11
theorem g12:G 12 [a,b]=jm 5 a λa=>kF 29 [zz a,b] λb=>jB b (vi 0) (jh (vi (- 1))) (kF 30 [jc a 2,b] λb=>jB b (vi 0) (jh (vi (- 1))) (kF 30 [jc a 3,b] λa=>jB a (vi 0) (jh (vi (- 1))) (jh a))):=gq Tryz.func12
theorem jvX:G 121 [a]=Zd a (vy 65) λb=>kB b a λa=>zN b (jz .leq false a (vy 90)) λa=>kj b a (vb false) λa=>jh a:=gq Tryz.func121
theorem jvY:G 122 [a]=jm 2 a λa=>j8 (jc a 1) λb=>jeK (vi 1) (jc a 1) b (vi 0):=gq Tryz.func122
theorem jiB:jeK a b c d=jB d c (y8 2 2 b d λe=>jm 2 e λe=>Jt a (vi 30) (jh a) (kF 122 [zz e] λe=>ju a e λa=>ju d (vi 1) λd=>jeK a b c d)) (jh a):=hq Tryz.func122
theorem jvZ:G 123 [a]=jm 2 a λa=>j8 (jc a 1) λb=>jeL (vi 0) (jc a 1) b (vi 0):=gq Tryz.func123
theorem jnT:jeL a b c d=jB d c (y8 2 2 b d λe=>jm 2 e λe=>kF 123 [zz e] λe=>(jiW a e).bind λa=>ju d (vi 1) λd=>jeL a b c d) (ju a (vi 1) λa=>jh a):=hq Tryz.func123
theorem jv0:G 124 [a]=kLS a λb=>jbO a b (vi 0):=gq Tryz.func124
theorem jfc:jbO a b c=jB c b (zO c (vi 0) λd=>kB d a λe=>kB d c λf=>zN d (kG e f) λe=>zD d 121 [e] λe=>zN d (pUn .not e) λe=>kj d e (vb false) λd=>zd d c λe=>yu d (jz .gtr false e (vi 0)) λe=>zd d e λe=>kB e a λf=>kB e c λg=>zN e (kG f g) λf=>zD e 127 [f] λf=>zN e (pUn .not f) λf=>yu d (yY e f (vb false)) λe=>zd d e λe=>kB e a λf=>kB e c λg=>zN e (kG f g) λf=>zD e 128 [f] λf=>zN e (pUn .not f) λf=>yu d (yY e f (vb false)) λe=>Z8 d (vb true) e (jh (vb false)) (ju c (vi 1) λc=>jbO a b c)) (kLS a λa=>kF 129 [a,vi 1,vi 4] λa=>jh a):=hq Tryz.func124
theorem jv1:G 125 [a,b]=kF 137 [a,b] λa=>Zd a (vi 0) λa=>jh a:=gq Tryz.func125
theorem jv2:G 126 [a]=jm 2 a λa=>kFN 113 [zz a] λa=>jh a:=gq Tryz.func126
theorem jv3:G 127 [a]=Zd a (vy 97) λb=>kB b a λa=>zN b (jz .leq false a (vy 122)) λa=>kj b a (vb false) λa=>jh a:=gq Tryz.func127
theorem jv4:G 128 [a]=Zd a (vy 48) λb=>kB b a λa=>zN b (jz .leq false a (vy 57)) λa=>kj b a (vb false) λa=>jh a:=gq Tryz.func128
theorem jv5:G 129 [a,b,c]=e_4 a b c:=gq Tryz.func129
theorem g13:G 13 [a,b]=jm 1 a λa=>kF 31 [jc a 0,b] λa=>jB a (vi 0) (jh (vi (- 1))) (jh a):=gq Tryz.func13
theorem jv6:G 130 []=jh (A.sl 1 [[sv [116,114,117,101]],[sv [102,97,108,115,101]],[sv [116,114,117,116,104]],[sv [98,111,116,104]],[sv [101,105,116,104,101,114]],[sv [105,102]],[sv [97,108,108]],[sv [115,111,109,101]]]):=gq Tryz.func130
theorem jua:G 131 [a]=jaR a a λa=>jh a:=gq Tryz.func131
theorem jv7:G 132 [a,b]=j8 a λc=>jeM a b c (vi 0):=gq Tryz.func132
theorem jnU:jeM a b c d=jB d c (kIP 1 a d λe=>Js b e (jh d) (ju d (vi 1) λd=>jeM a b c d)) (jh (vi (- 1))):=hq Tryz.func132
theorem jv8:G 137 [a,b]=j8 a λc=>jeN a b c (vi 0):=gq Tryz.func137
theorem jnV:jeN a b c d=jB d c (y8 2 2 a d λe=>(DX.run K (MM K) (.callc b [e] false)).bind λe=>KI e (jh d) (ju d (vi 1) λd=>jeN a b c d)) (jh (vi (- 1))):=hq Tryz.func137
theorem g14:G 14 [a]=jm 1 a λa=>kF 32 [KV a] λb=>jF b true λ_=>zD b 33 [KV a] λa=>kj b a (vb false) λa=>jh a:=gq Tryz.func14
theorem g15:G 15 [a]=jm 1 a λa=>jjx (vi 0) (jc a 0) [] []:=gq Tryz.func15
theorem jq2:jjx a b p q=KU a b (Qk 3 b a 0 λc=>jdw 2 3 b a 1 λd=>(G 34 [d]).bind λd=>jfa d λd=>(K3 (zf (K.at 15) 67) [vb false,sv [],A.sl 2 []] [(0,c),(1,d)]).bind λc=>jm 3 c λc=>brn (zo ((jO q)+(jO [[jc c 0,jc c 1,jc c 2]])) 48) (ju a (vi 1) λa=>jjx a b p (Jw q [[jc c 0,jc c 1,jc c 2]])) none) (jh (A.agg [A.sl 3 q])):=hq Tryz.func15
theorem g16:G 16 [a,b]=jm 5 a λa=>jm 1 b λb=>kF 35 [KV b] λc=>jF c false λ_=>jF c false λ_=>jF c false λ_=>zd c (jc a 2) λd=>jF c false λ_=>jgI c 36 [zz a,d,KV b] λd=>kj c (vb true) d λc=>jF c false λ_=>jF c false λ_=>jF c false λ_=>zd c (jc a 3) λd=>jF c false λ_=>jgI c 36 [zz a,d,KV b] λa=>kj c (vb true) a λa=>jh a:=gq Tryz.func16
theorem jtD:jmz a=jm 1 a λa=>(jmD (jc a 0)).bind λa=>yl 67 a 0 λa=>some (A.top,[A.sl 67 a]):=vq Tryz.func17
theorem g18:G 18 [a]=kFN 38 [a,A.fn 39 []] λa=>jh a:=gq Tryz.func18
theorem jtE:jmA a=j8 a λb=>jbm a b (vi 0) []:=vq Tryz.func19
theorem jkm:jbm a b c p=jB c b (y8 1 1 a c λd=>jm 1 d λd=>(jfT (jc d 0)).bind λd=>yl 67 d 0 λd=>brn (zo ((jO p)+(jO [[A.sl 3 d]])) 24) (ju c (vi 1) λc=>jbm a b c (Jw p [[A.sl 3 d]])) none) (some (A.top,[A.sl 65 p])):=hq Tryz.func19
theorem g20:G 20 [a,b]=brn (kJ a) (jm 1 b λb=>kF 44 [KV b] λc=>zd c a λd=>yu c (jiU d) λd=>yu c (kQ d 2) λd=>yu c (jZ d) λd=>jF c false λ_=>yu c ((G 45 [d,A.fn 41 [A.elt [a] 0,A.elt [jc b 0] 0]]).bind (fin true)) λd=>kj c (vb true) d λc=>zd c a λd=>yu c (jiU d) λd=>yu c (kQ d 3) λd=>yu c (jZ d) λd=>jF c false λ_=>yu c ((G 45 [d,A.fn 41 [A.elt [a] 0,A.elt [jc b 0] 0]]).bind (fin true)) λa=>kj c (vb true) a λa=>jh a) none:=gq Tryz.func20
theorem jtF:jmB a b p q r s t u v=brn (kJ a) (brn (zo ((jO u)+(jO [[KW s]])) 8) (brn (kJ a) (brn (ke a) (brn (jjr v) (brn (zo ((jO s)+(jO [[a,A.sl 1 v,A.sl 1 p,A.sl 3 q]])) 80) (some (A.top,[b,A.sl 65 r,A.sl 68 (Jw s [[a,A.sl 1 v,A.sl 1 p,A.sl 3 q]]),A.sl 65 t,A.sl 65 (Jw u [[KW s]])])) none) none) none) none) none) none:=vq Tryz.func21
theorem jtG:jfT a=brn (kJ a) (j8 a λb=>jbn a b (vi 0) [] []) none:=vq Tryz.func22
theorem jkn:jbn a b c p q=jB c b (y8 3 3 a c λd=>jm 3 d λd=>(jmE (jc d 0) (jc d 1) (jc d 2)).bind λd=>ZU d 0 λe=>ZU d 1 λf=>yl 66 d 2 λd=>brn (kJ e) (brn (kJ f) (brn (ke e) (brn (ke f) (brn (zo ((jO q)+(jO [[e,f,A.sl 2 d]])) 48) (ju c (vi 1) λc=>jbn a b c p (Jw q [[e,f,A.sl 2 d]])) none) none) none) none) none) (some (A.top,[A.sl 67 q])):=hq Tryz.func22
theorem g23:G 23 [a,b]=jm 2 a λa=>jm 2 b λb=>kF 9 [jc a 0,jc b 0] λc=>Z7 c (jh (vb false)) (kF 47 [jc a 1,jc b 1] λa=>Z7 a (jh (vb false)) (jh (vb true))):=gq Tryz.func23
theorem g24:G 24 [a,b]=j8 a λc=>j8 b λd=>kK c d (jh (vb false)) (jjy a b (vi 0)):=gq Tryz.func24
theorem jq3:jjy a b c=KU c a (kIP 1 a c λd=>kIP 1 b c λe=>kK d e (jh (vb false)) (ju c (vi 1) λc=>jjy a b c)) (jh (vb true)):=hq Tryz.func24
theorem g25:G 25 [a,b]=jm 1 a λa=>jm 1 b λb=>kF 48 [jc a 0,jc b 0] λa=>Z7 a (jh (vb false)) (jh (vb true)):=gq Tryz.func25
theorem jtH:jju a p=jbo a (vi 0) p:=vq Tryz.func26
theorem jko:jbo a b p=jB b (KW p) ((jz .rem false a (vi 3)).bind λc=>zO c (vi 0) λc=>kIx (jO p) b λd=>brn (kJ c) (brn (ke c) (kRG p d λe=>brn (Zw e 0 1) (ju a (vi 1) λa=>kF 49 [a] λf=>kIx (jO (kx p d (jJ e 0 [c]))) b λg=>brn (kJ f) (brn (ke f) (kRG (kx p d (jJ e 0 [c])) g λh=>brn (Zw h 1 1) (ju a (vi 1) λa=>kIx (jO (kx (kx p d (jJ e 0 [c])) g (jJ h 1 [f]))) b λi=>kRG (kx (kx p d (jJ e 0 [c])) g (jJ h 1 [f])) i λj=>brn (KH (jc j 2)) (kRG (kx (kx p d (jJ e 0 [c])) g (jJ h 1 [f])) i λj=>kRs 2 (jc j 2) λk=>(jdH a k).bind λa=>ZU a 0 λk=>yl 66 a 1 λa=>ju b (vi 1) λb=>jbo k b (kx (kx (kx p d (jJ e 0 [c])) g (jJ h 1 [f])) i (jJ j 2 [A.sl 2 a]))) none) none) none) none) none) none) none) (some (A.top,[a,A.sl 67 p])):=hq Tryz.func26
theorem jtI:jmC a p q=(jjt a p).bind λa=>ZU a 0 λb=>yl 65 a 1 λa=>(jmF b q).bind λb=>ZU b 0 λc=>yl 68 b 1 λb=>some (A.top,[c,A.sl 65 a,A.sl 68 b]):=vq Tryz.func27
theorem jtJ:jdG a p=jbp a (vi 0) p:=vq Tryz.func28
theorem jkp:jbp a b p=jB b (KW p) (kIx (jO p) b λc=>brn (kJ a) (brn (ke a) (kRG p c λd=>brn (Zw d 0 1) (ju a (vi 1) λe=>ju b (vi 1) λb=>jbp e b (kx p c (jJ d 0 [a]))) none) none) none) (some (A.top,[a,A.sl 65 p])):=hq Tryz.func28
theorem g29:G 29 [a,b]=jm 2 a λa=>kF 52 [jc a 0,b] λb=>jB b (vi 0) (jh (vi (- 1))) (kF 53 [jc a 1,b] λa=>jB a (vi 0) (jh (vi (- 1))) (jh a)):=gq Tryz.func29
theorem g3:G 3 [a]=kF 4 [a,vi 1048576] λb=>jB b (vi 0) (jh (vb true)) ((jk0 a).bind λb=>yl 65 b 0 λb=>(G 5 [A.sl 1 b]).bind λb=>jfa b λb=>ZV b 0 λc=>ZV b 1 λb=>jm 5 c λc=>(jk0 a).bind λd=>yl 65 d 0 λd=>(jpi (A.sl 1 d)).bind λe=>ZU e 0 λf=>ZU e 1 λg=>yl 65 e 2 λh=>yl 68 e 3 λi=>yl 65 e 4 λj=>yl 65 e 5 λe=>brn (zu f) (brn (zu g) (brn (kJ f) (kfn true (G 8 [A.agg [A.sl 1 h,A.sl 4 i,A.sl 1 j,A.sl 1 e,f],A.agg [jc c 0,jc c 1,jc c 2,jc c 3,jc c 4]]) λk=>jgJ k λk=>zd k g λl=>zd k b λm=>yu k (jz .neq true l m) λl=>Z8 k (vb true) l (jh (vb false)) ((jk0 a).bind λk=>yl 65 k 0 λk=>kfn true (G 9 [A.sl 1 d,A.sl 1 k]) λk=>Z7 k (jh (vb false)) ((jjt (vi 1) d).bind λd=>ZU d 0 λk=>yl 65 d 1 λ_=>jki k (vi 0) λd=>jF d false λ_=>jF d false λ_=>yu d ((G 8 [A.agg [A.sl 1 h,A.sl 4 i,A.sl 1 j,A.sl 1 e,f],A.agg [jc c 0,jc c 1,jc c 2,jc c 3,jc c 4]]).bind (fin true)) λk=>yu d (pUn .not k) λk=>kj d (vb true) k λd=>zd d g λg=>zd d b λk=>yu d (jz .neq true g k) λg=>Z8 d (vb true) g (jh (vb false)) ((jmy f (vi 1) h i j e).bind λd=>ZU d 0 λe=>yl 65 d 1 λg=>yl 68 d 2 λh=>yl 65 d 3 λi=>yl 65 d 4 λd=>kfn true (G 12 [A.agg [A.sl 1 g,A.sl 4 h,A.sl 1 i,A.sl 1 d,f],vi 1]) λj=>jB j (vi 0) (jh (vb false)) (kK j e (jh (vb false)) ((jk0 a).bind λa=>yl 65 a 0 λa=>(jpi (A.sl 1 a)).bind λa=>ZU a 0 λj=>ZU a 1 λk=>yl 65 a 2 λl=>yl 68 a 3 λm=>yl 65 a 4 λn=>yl 65 a 5 λa=>brn (zu j) (brn (zu k) (brn (kJ j) (kfn true (G 8 [A.agg [A.sl 1 l,A.sl 4 m,A.sl 1 n,A.sl 1 a,j],A.agg [jc c 0,jc c 1,jc c 2,jc c 3,jc c 4]]) λa=>jgJ a λa=>zd a k λc=>zd a b λb=>yu a (jz .neq true c b) λb=>Z8 a (vb true) b (jh (vb false)) (kfn true (G 12 [A.agg [A.sl 1 g,A.sl 4 h,A.sl 1 i,A.sl 1 d,f],vi 1]) λa=>jB a (vi 0) (jh (vb false)) (kK a e (jh (vb false)) (jh (vb true))))) none) none) none)))))) none) none) none):=gq Tryz.func3
theorem g30:G 30 [a,b]=jjz a b (vi 0):=gq Tryz.func30
theorem jq4:jjz a b c=KU c a (kIP 1 a c λd=>kK d b (jh (vi (- 1))) (ju b (vi 1) λb=>ju c (vi 1) λc=>jjz a b c)) (jh b):=hq Tryz.func30
theorem g31:G 31 [a,b]=j8 a λc=>jcp b c λb=>jB b (vi 0) (jh (vi (- 1))) (jfV a b (vi 0)):=gq Tryz.func31
theorem jq5:jfV a b c=KU c a (y8 3 3 a c λd=>kF 54 [d,b] λb=>jB b (vi 0) (jh (vi (- 1))) (ju c (vi 1) λc=>jfV a b c)) (jh b):=hq Tryz.func31
theorem g32:G 32 [a]=jm 1 a λa=>j8 (jc a 0) λb=>Jt b (vi 8) (jh (vb false)) (jjA (vi 0) (jc a 0)):=gq Tryz.func32
theorem jq6:jjA a b=KU a b (jdw 2 3 b a 1 λc=>kFN 55 [c] λc=>zd c a λd=>yu c (jz .gtr false d (vi 0)) λd=>zd c d λd=>jF d true λ_=>kB d b λe=>kB d a λf=>zN d (jz .sub false f (vi 1)) λf=>zN d (jk 3 e f) λe=>zN d (jL 3 e) λe=>jF d true λ_=>kB d b λf=>kB d a λg=>zN d (jk 3 f g) λf=>zN d (jL 3 f) λf=>zD d 56 [e,f] λe=>zN d (jz .geq false e (vi 0)) λe=>yu c (yY d e (vb false)) λd=>Z8 c (vb true) d (jh (vb false)) (ju a (vi 1) λa=>jjA a b)) (jh (vb true)):=hq Tryz.func32
theorem g33:G 33 [a]=jm 1 a λa=>kF 57 [KV a] λa=>jjB a (vi 0):=gq Tryz.func33
theorem jq7:jjB a b=KU b a (kIP 1 a b λc=>kF 58 [b] λd=>ju (sv [88]) d λd=>kK c d (jh (vb false)) (ju b (vi 1) λb=>jjB a b)) (jh (vb true)):=hq Tryz.func33
theorem g34:G 34 [a]=jm 2 a λa=>brn (kJ (jc a 0)) (brn (kJ (jc a 0)) (jjC (vi 0) (jc a 0) (jc a 1) (sv []) (jc a 0) [] []) none) none:=gq Tryz.func34
theorem jq8:jjC a b c d e p q=KU a c (y8 2 2 c a λf=>(G 34 [f]).bind λf=>jfa f λf=>jm 2 f λf=>brn (zo ((jO q)+(jO [[jc f 0,jc f 1]])) 40) (ju a (vi 1) λa=>jjC a b c d e p (Jw q [[jc f 0,jc f 1]])) none) (brn (kJ e) (jh (A.agg [e,A.sl 2 q])) none):=hq Tryz.func34
theorem g35:G 35 [a]=jm 1 a λa=>jfW (vi 0) (jc a 0):=gq Tryz.func35
theorem jq9:jfW a b=KU a b (jdw 2 3 b a 1 λc=>jm 2 c λc=>Qk 3 b a 0 λd=>jF d true λ_=>kB d (jc c 0) λe=>zN d (jz .eql false e (sv [61])) λe=>kj d e (vb false) λd=>jF d true λ_=>kB d (jc c 1) λe=>zN d (jk 2 e (vi 0)) λe=>zN d (jL 2 e) λe=>jF d true λ_=>kB d (jc c 1) λf=>zN d (jk 2 f (vi 1)) λf=>zN d (jL 2 f) λf=>zD d 59 [e,f] λe=>Z8 d e (vb false) (jh (vb true)) (jkh a (vi 0) λd=>jF d true λ_=>kB d b λe=>kB d a λf=>zN d (jz .sub false f (vi 1)) λf=>zN d (jk 3 e f) λe=>zN d (kQ e 1) λe=>zN d (jL 2 e) λe=>jF d true λ_=>zD d 59 [e,zz c] λc=>Z8 d c (vb false) (jh (vb true)) (ju a (vi 1) λa=>jfW a b))) (jh (vb false)):=hq Tryz.func35
theorem g36:G 36 [a,b,c]=jm 2 a λa=>jm 1 c λc=>jjD b (vi 0) (jc a 0) (jc a 1) (jc c 0):=gq Tryz.func36
theorem jra:jjD a b c d e=KU b a (kIP 1 a b λf=>jdw 1 4 d f 3 λf=>kF2 60 [f,A.agg [e]] λ_ f=>KI f (jh (vb true)) (ju b (vi 1) λb=>jjD a b c d e)) (jh (vb false)):=hq Tryz.func36
theorem jtK:jmD a=j8 a λb=>kMk 48 b b λb=>jbq a (vi 0) (jal b [vb false,sv [],A.sl 2 []]):=vq Tryz.func37
theorem jkq:jbq a b p=KU b a (y8 3 3 a b λc=>(jmG c).bind λc=>ZU c 0 λd=>ZU c 1 λe=>yl 66 c 2 λc=>kIx (jO p) b λf=>brn (kJ d) (brn (kJ e) (brn (ke d) (brn (ke e) (kRG p f λg=>ju b (vi 1) λb=>jbq a b (kx p f (jJ g 0 [d,e,A.sl 2 c]))) none) none) none) none) (some (A.top,[A.sl 67 p])):=hq Tryz.func37
theorem g38:G 38 [a,b]=kF 62 [a,b] λa=>Zd a (vi 0) λa=>jh a:=gq Tryz.func38
theorem g39:G 39 [a]=jm 1 a λa=>kFN 40 [KV a] λa=>jh a:=gq Tryz.func39
theorem g4:G 4 [a,b]=j8 a λc=>jcp b c λb=>jB b (vi 0) (jh (vi (- 1))) (jmQ a b (vi 0)):=gq Tryz.func4
theorem jui:jmQ a b c=KU c a (y8 1 1 a c λd=>kF 13 [d,b] λb=>jB b (vi 0) (jh (vi (- 1))) (ju c (vi 1) λc=>jmQ a b c)) (jh b):=hq Tryz.func4
theorem g40:G 40 [a]=jm 1 a λa=>kF 63 [KV a] λb=>jF b true λ_=>zD b 64 [KV a] λa=>kj b a (vb false) λa=>jh a:=gq Tryz.func40
theorem g41:G 41 [a,b,c]=kLP b λb=>kF 43 [b,a] λa=>kLN 1 c λb=>kF 42 [a,b] λa=>jh a:=gq Tryz.func41
theorem g42:G 42 [a,b]=jm 1 a λa=>jm 1 b λb=>(G 65 [A.mp [],jc a 0,KV b]).bind λa=>jfa a λa=>ZV a 0 λ_=>ZV a 1 λa=>jh a:=gq Tryz.func42
theorem g43:G 43 [a,b]=(jiU a).bind λa=>jll a 0 λa=>kAP a 1 λa=>jdw 1 4 a b 3 λa=>jm 1 a λa=>jh (KV a):=gq Tryz.func43
theorem g44:G 44 [a]=jm 1 a λa=>j8 (jc a 0) λb=>jfX (jc a 0) b (vi 0) (jc a 0):=gq Tryz.func44
theorem jrb:jfX a b c d=jB c b (y8 3 3 a c λe=>jm 3 e λe=>jF (jc e 0) true λ_=>jF (jc e 0) true λ_=>zD (jc e 0) 66 [A.agg [jc e 1,jc e 2]] λf=>kj (jc e 0) f (vb false) λf=>jF f true λ_=>jF f true λ_=>kB f (jc e 2) λg=>zN f (jk 2 g (vi 0)) λg=>zN f (jL 2 g) λg=>jF f true λ_=>jF f true λ_=>kB f (jc e 2) λh=>zN f (jk 2 h (vi 1)) λh=>zN f (jL 2 h) λh=>zD f 67 [g,h] λg=>kj f g (vb false) λf=>zd f c λg=>yu f (jz .gtr false g (vi 0)) λg=>zd f g λg=>jF g true λ_=>kB g d λh=>kB g c λi=>zN g (jz .sub false i (vi 1)) λi=>zN g (jk 3 h i) λh=>zN g (kQ h 1) λh=>zN g (jL 2 h) λh=>jF g true λ_=>jF g true λ_=>zD g 67 [h,A.agg [jc e 1,jc e 2]] λe=>yu f (yY g e (vb false)) λe=>Z8 f (vb true) e (jh (vb true)) (ju c (vi 1) λc=>jfX a b c d)) (jh (vb false)):=hq Tryz.func44
theorem g45:G 45 [a,b]=kF 68 [a,b] λa=>Zd a (vi 0) λa=>jh a:=gq Tryz.func45
theorem jtL:jmE a b c=brn (kJ a) (brn (kJ b) (brn (kJ c) ((jdI (A.agg [b,c])).bind λb=>ZU b 0 λc=>yl 66 b 1 λb=>brn (zu c) (brn (kJ a) (brn (kJ c) (brn (kJ a) (brn (kJ c) (some (A.top,[a,c,A.sl 66 b])) none) none) none) none) none) none) none) none:=vq Tryz.func46
theorem g47:G 47 [a,b]=j8 a λc=>j8 b λd=>kK c d (jh (vb false)) (jjE a b (vi 0)):=gq Tryz.func47
theorem jrc:jjE a b c=KU c a (y8 4 4 a c λd=>y8 4 4 b c λe=>kF 70 [d,e] λd=>Z7 d (jh (vb false)) (ju c (vi 1) λc=>jjE a b c)) (jh (vb true)):=hq Tryz.func47
theorem g48:G 48 [a,b]=j8 a λc=>j8 b λd=>kK c d (jh (vb false)) (jjF a b (vi 0)):=gq Tryz.func48
theorem jrd:jjF a b c=KU c a (y8 3 3 a c λd=>y8 3 3 b c λe=>kF 71 [d,e] λd=>Z7 d (jh (vb false)) (ju c (vi 1) λc=>jjF a b c)) (jh (vb true)):=hq Tryz.func48
theorem g49:G 49 [a]=jiy a (vi 0) (jh (sv [109,48])) (jjG a (sv [])):=gq Tryz.func49
theorem jre:jjG a b=Jt a (vi 0) ((jz .rem false a (vi 10)).bind λc=>ju (vi 48) c λc=>(jhf .u8 c).bind λc=>brn (kJ c) ((YC (A.sl 1 [[c]])).bind λc=>ju c b λb=>jkj a (vi 10) λa=>jjG a b) none) (ju (sv [109]) b λa=>jh a):=hq Tryz.func49
theorem g5:G 5 [a]=j8 a λb=>Jt b (vi 30) (jh (A.tup [A.agg [A.sl 1 [],A.sl 4 [],A.sl 1 [],A.sl 1 [],vb false],vb false])) (jpl a (vi 0) (vb false) (vb false) [] [] [] [] [] [] [] []):=gq Tryz.func5
theorem juj:jpl a b c d p q r s t u v w=KU b a (y8 1 1 a b λe=>kF 14 [e] λe=>Z7 e (jh (A.tup [A.agg [A.sl 1 [],A.sl 4 [],A.sl 1 [],A.sl 1 [],vb false],vb false])) (y8 1 1 a b λe=>kF 15 [e] λe=>jm 1 e λe=>brn (zo ((jO t)+(jO [[jc e 0]])) 24) (ju b (vi 1) λb=>jpl a b c d p q r s (Jw t [[jc e 0]]) u v w) none)) (jh4 a (vi 0) c d p q r s t u v w):=hq Tryz.func5
theorem juk:jh4 a b c d p q r s t u v w=KU b a (y8 1 1 a b λe=>kfn true (G 16 [A.agg [A.sl 1 t,A.sl 4 u,A.sl 1 v,A.sl 1 w,d],e]) λe=>Z7 e (brn (zo ((jO w)+(jO [[KW u]])) 8) (brn (kJ b) (y8 1 1 a b λe=>kF 15 [e] λe=>jm 1 e λe=>brn (kJ (jc e 0)) (brn (zo ((jO u)+(jO [[vi 1,A.sl 1 [],A.sl 1 [[b]],jc e 0]])) 80) (ju b (vi 1) λf=>jh4 a f c d p q r s t (Jw u [[vi 1,A.sl 1 [],A.sl 1 [[b]],jc e 0]]) v (Jw w [[KW u]])) none) none) none) none) (ju b (vi 1) λb=>jh4 a b c d p q r s t u v w)) (brn (kJ d) (jh (A.tup [A.agg [A.sl 1 t,A.sl 4 u,A.sl 1 v,A.sl 1 w,d],vb true])) none):=hq Tryz.func5
theorem jtM:jdH a p=jbr a (vi 0) p:=vq Tryz.func50
theorem jkr:jbr a b p=jB b (KW p) (kF 49 [a] λc=>kIx (jO p) b λd=>brn (kJ c) (brn (ke c) (kRG p d λe=>brn (Zw e 0 1) (ju a (vi 1) λa=>kIx (jO (kx p d (jJ e 0 [c]))) b λf=>kRG (kx p d (jJ e 0 [c])) f λg=>brn (KH (jc g 1)) (kRG (kx p d (jJ e 0 [c])) f λg=>kRs 2 (jc g 1) λh=>(jdH a h).bind λa=>ZU a 0 λh=>yl 66 a 1 λa=>ju b (vi 1) λb=>jbr h b (kx (kx p d (jJ e 0 [c])) f (jJ g 1 [A.sl 2 a]))) none) none) none) none) (some (A.top,[a,A.sl 66 p])):=hq Tryz.func50
theorem jtN:jmF a p=jbs a (vi 0) p:=vq Tryz.func51
theorem jks:jbs a b p=jB b (KW p) (kIx (jO p) b λc=>brn (kJ a) (brn (ke a) (kRG p c λd=>brn (Zw d 0 1) (ju a (vi 1) λe=>kIx (jO (kx p c (jJ d 0 [a]))) b λf=>kRG (kx p c (jJ d 0 [a])) f λg=>brn (KH (jc g 1)) (kRG (kx p c (jJ d 0 [a])) f λg=>kRs 1 (jc g 1) λh=>(jdG e h).bind λe=>ZU e 0 λh=>yl 65 e 1 λe=>kIx (jO (kx (kx p c (jJ d 0 [a])) f (jJ g 1 [A.sl 1 e]))) b λi=>kRG (kx (kx p c (jJ d 0 [a])) f (jJ g 1 [A.sl 1 e])) i λj=>brn (KH (jc j 2)) (kRG (kx (kx p c (jJ d 0 [a])) f (jJ g 1 [A.sl 1 e])) i λj=>kRs 1 (jc j 2) λk=>(jdG h k).bind λh=>ZU h 0 λk=>yl 65 h 1 λh=>kIx (jO (kx (kx (kx p c (jJ d 0 [a])) f (jJ g 1 [A.sl 1 e])) i (jJ j 2 [A.sl 1 h]))) b λl=>kRG (kx (kx (kx p c (jJ d 0 [a])) f (jJ g 1 [A.sl 1 e])) i (jJ j 2 [A.sl 1 h])) l λm=>brn (KH (jc m 3)) (kRG (kx (kx (kx p c (jJ d 0 [a])) f (jJ g 1 [A.sl 1 e])) i (jJ j 2 [A.sl 1 h])) l λm=>kRs 3 (jc m 3) λn=>(jju k n).bind λk=>ZU k 0 λn=>yl 67 k 1 λk=>ju b (vi 1) λb=>jbs n b (kx (kx (kx (kx p c (jJ d 0 [a])) f (jJ g 1 [A.sl 1 e])) i (jJ j 2 [A.sl 1 h])) l (jJ m 3 [A.sl 3 k]))) none) none) none) none) none) none) (some (A.top,[a,A.sl 68 p])):=hq Tryz.func51
theorem g52:G 52 [a,b]=jjH a b (vi 0):=gq Tryz.func52
theorem jrf:jjH a b c=KU c a (Qk 1 a c 0 λd=>kF 72 [d,b] λb=>jB b (vi 0) (jh (vi (- 1))) (ju c (vi 1) λc=>jjH a b c)) (jh b):=hq Tryz.func52
theorem g53:G 53 [a,b]=jjI a b (vi 0):=gq Tryz.func53
theorem jrg:jjI a b c=KU c a (Qk 4 a c 0 λd=>kK d b (jh (vi (- 1))) (ju b (vi 1) λb=>Qk 4 a c 1 λd=>kF 30 [d,b] λb=>jB b (vi 0) (jh (vi (- 1))) (Qk 4 a c 2 λd=>kF 30 [d,b] λb=>jB b (vi 0) (jh (vi (- 1))) (kIA 4 a c λd=>jll d 3 λd=>kAP d 0 λd=>kF 72 [d,b] λb=>jB b (vi 0) (jh (vi (- 1))) (ju c (vi 1) λc=>jjI a b c))))) (jh b):=hq Tryz.func53
theorem g54:G 54 [a,b]=jm 3 a λa=>kF 73 [A.agg [jc a 1,jc a 2],b] λa=>jB a (vi 0) (jh (vi (- 1))) (jh a):=gq Tryz.func54
theorem g55:G 55 [a]=jm 2 a λa=>Js (jc a 0) (sv [61]) (j8 (jc a 1) λb=>zO b (vi 2) λb=>jF b true λ_=>zD b 74 [zz a] λc=>kj b c (vb false) λb=>jF b true λ_=>kB b (jc a 1) λc=>zN b (jk 2 c (vi 0)) λc=>zN b (jL 2 c) λc=>zD b 75 [c] λc=>kj b c (vb false) λb=>jF b true λ_=>kB b (jc a 1) λa=>zN b (jk 2 a (vi 1)) λa=>zN b (jL 2 a) λa=>zD b 75 [a] λa=>kj b a (vb false) λa=>jh a) (kF 76 [jc a 0] λb=>jF b true λ_=>zD b 77 [zz a] λa=>kj b a (vb false) λa=>jh a):=gq Tryz.func55
theorem g56:G 56 [a,b]=jm 3 a λa=>jm 3 b λb=>kF 78 [A.agg [jc a 1,jc a 2],A.agg [jc b 1,jc b 2]] λc=>kK c (vi 0) (jh c) (jgJ (jc a 0) λc=>jF c true λ_=>kB c (jc b 0) λd=>Z8 c d (vb false) (jh (vi (- 1))) (jF (jc a 0) true λ_=>kB (jc a 0) (jc b 0) λb=>zN (jc a 0) (pUn .not b) λb=>Z8 (jc a 0) b (vb false) (jh (vi 1)) (jh (vi 0)))):=gq Tryz.func56
theorem g57:G 57 [a]=jm 1 a λa=>jfY (vi 0) (jc a 0) []:=gq Tryz.func57
theorem jrh:jfY a b p=KU a b (jdw 2 3 b a 1 λc=>(jjv c p).bind λc=>yl 1 c 0 λc=>ju a (vi 1) λa=>jfY a b c) (jh (A.sl 1 p)):=hq Tryz.func57
theorem g58:G 58 [a]=jB a (vi 0) ((pUn .neg a).bind λa=>kF 58 [a] λa=>ju (sv [45]) a λa=>jh a) (jB a (vi 10) (ju a (vi 1) λb=>(Kr (sv [48,49,50,51,52,53,54,55,56,57]) (some a) (some b)).bind λa=>jh a) (jkj a (vi 10) λb=>kF 58 [b] λb=>(jz .rem false a (vi 10)).bind λc=>(jz .rem false a (vi 10)).bind λa=>ju a (vi 1) λa=>(Kr (sv [48,49,50,51,52,53,54,55,56,57]) (some c) (some a)).bind λa=>ju b a λa=>jh a)):=gq Tryz.func58
theorem g59:G 59 [a,b]=jm 2 a λa=>jm 2 b λb=>jaR (jc a 0) (jc b 0) λc=>jF c false λ_=>zd c (jc a 1) λd=>yu c (yX d) λd=>jF c false λ_=>zd c (jc b 1) λe=>yu c (yX e) λe=>yu c (jz .neq false d e) λd=>Z8 c (vb true) d (jh (vb false)) (jjJ (vi 0) (jc a 0) (jc a 1) (jc b 0) (jc b 1)):=gq Tryz.func59
theorem jri:jjJ a b c d e=KU a c (y8 2 2 c a λf=>y8 2 2 e a λg=>kF 59 [f,g] λf=>Z7 f (jh (vb false)) (ju a (vi 1) λa=>jjJ a b c d e)) (jh (vb true)):=hq Tryz.func59
theorem g60:G 60 [a,b]=jm 1 a λa=>jm 1 b λb=>(G 80 [KV a,vi 0,KV b,A.sl 3 []]).bind λa=>jfa a λa=>ZV a 0 λb=>ZV a 1 λa=>jh (A.tup [b,a]):=gq Tryz.func60
theorem jtO:jmG a=jm 3 a λa=>brn (kJ (jc a 0)) ((jmH (jc a 1) (jc a 2)).bind λb=>ZU b 0 λc=>yl 66 b 1 λb=>brn (kJ c) (brn (kJ (jc a 0)) (brn (kJ c) (some (A.top,[jc a 0,c,A.sl 66 b])) none) none) none) none:=vq Tryz.func61
theorem g62:G 62 [a,b]=j8 a λc=>jfZ a b c (vi 0):=gq Tryz.func62
theorem jrj:jfZ a b c d=jB d c (y8 1 1 a d λe=>(DX.run K (MM K) (.callc b [e] false)).bind λe=>KI e (jh d) (ju d (vi 1) λd=>jfZ a b c d)) (jh (vi (- 1))):=hq Tryz.func62
theorem g63:G 63 [a]=jm 1 a λa=>j8 (jc a 0) λb=>jjK (jc a 0) b (vi 0) (jc a 0):=gq Tryz.func63
theorem jrk:jjK a b c d=jB c b (y8 3 3 a c λe=>jm 3 e λe=>kFN 82 [jpT e] λf=>zd f c λg=>yu f (jz .gtr false g (vi 0)) λg=>zd f g λg=>jF g true λ_=>kB g d λh=>kB g c λi=>zN g (jz .sub false i (vi 1)) λi=>zN g (jk 3 h i) λh=>zN g (jL 3 h) λh=>jF g true λ_=>zD g 83 [h,jpT e] λe=>zN g (jz .geq false e (vi 0)) λe=>yu f (yY g e (vb false)) λe=>Z8 f (vb true) e (jh (vb false)) (ju c (vi 1) λc=>jjK a b c d)) (j8 d λa=>jgK a (vi 8) λa=>jh a):=hq Tryz.func63
theorem g64:G 64 [a]=jm 1 a λa=>kF 84 [KV a] λa=>j8 a λb=>jjL a b (vi 0):=gq Tryz.func64
theorem jrl:jjL a b c=jB c b (kIP 1 a c λd=>kF 85 [c] λe=>ju (sv [88]) e λe=>kK d e (jh (vb false)) (ju c (vi 1) λc=>jjL a b c)) (jh (vb true)):=hq Tryz.func64
theorem g65:G 65 [a,b,c]=jm 1 c λc=>j8 b λd=>Js d (vi 0) (jh (A.tup [a,vb true])) (j8 (jc c 0) λd=>jf0 a b (jc c 0) d (vi 0) (jc c 0)):=gq Tryz.func65
theorem jrm:jf0 a b c d e f=jB e d (y8 3 3 c e λg=>jm 3 g λg=>(jmI a).bind λh=>yl 128 h 0 λh=>Qk 3 b (vi 0) 0 λi=>(jz .neq true (jc g 0) i).bind λi=>jF i false λ_=>zd i b λj=>yu i (jk 3 j (vi 0)) λj=>yu i (kQ j 1) λj=>yu i (jL 2 j) λj=>jF i false λ_=>jF i false λ_=>jF i false λk=>brn k ((jfU j (jc g 1) (jc g 2) h).bind λg=>ZU g 0 λh=>yl 128 g 1 λg=>yu i (pUn .not h) λh=>e_5 i h e a b c d f g) (yu i (pUn .not (A.val undef)) λg=>e_5 i g e a b c d f h)) (jh (A.tup [A.val (.map none),vb false])):=hq Tryz.func65
theorem g66:G 66 [a]=jm 2 a λa=>zO (jc a 0) (sv [61]) λa=>jh a:=gq Tryz.func66
theorem g67:G 67 [a,b]=jm 2 a λa=>jm 2 b λb=>zO (jc a 0) (jc b 0) λc=>jF c true λ_=>kB c (jc a 1) λa=>jF c true λ_=>kB c (jc b 1) λb=>zD c 88 [a,b,A.fn 67 []] λa=>kj c a (vb false) λa=>jh a:=gq Tryz.func67
theorem g68:G 68 [a,b]=j8 a λc=>jjM a b c (vi 0):=gq Tryz.func68
theorem jrn:jjM a b c d=jB d c (kIP 1 a d λe=>(DX.run K (MM K) (.callc b [e] false)).bind λe=>KI e (jh d) (ju d (vi 1) λd=>jjM a b c d)) (jh (vi (- 1))):=hq Tryz.func68
theorem jtP:jdI a=jm 2 a λa=>(jmJ (jc a 1)).bind λb=>yl 66 b 0 λb=>brn (kJ (jc a 0)) (e_6 a b) none:=vq Tryz.func69
theorem jvD:jk0 a=j8 a λb=>kMk 24 b b λb=>jeO a (vi 0) (jal b [A.sl 3 []]):=vq Tryz.func6
theorem jnX:jeO a b p=KU b a (y8 1 1 a b λc=>(jmz c).bind λc=>yl 67 c 0 λc=>kIx (jO p) b λd=>kRG p d λe=>ju b (vi 1) λb=>jeO a b (kx p d (jJ e 0 [A.sl 3 c]))) (some (A.top,[A.sl 65 p])):=hq Tryz.func6
theorem g70:G 70 [a,b]=jm 4 a λa=>jm 4 b λb=>kK (jc a 0) (jc b 0) (jh (vb false)) (kF 24 [jc a 1,jc b 1] λc=>Z7 c (jh (vb false)) (kF 24 [jc a 2,jc b 2] λc=>Z7 c (jh (vb false)) (kF 25 [A.agg [jc a 3],A.agg [jc b 3]] λa=>Z7 a (jh (vb false)) (jh (vb true))))):=gq Tryz.func70
theorem g71:G 71 [a,b]=jm 3 a λa=>jm 3 b λb=>(jz .neq true (jc a 0) (jc b 0)).bind λc=>KI c (jh (vb false)) (kF 90 [A.agg [jc a 1,jc a 2],A.agg [jc b 1,jc b 2]] λa=>Z7 a (jh (vb false)) (jh (vb true))):=gq Tryz.func71
theorem g72:G 72 [a,b]=jjN a b (vi 0):=gq Tryz.func72
theorem jro:jjN a b c=KU c a (Qk 3 a c 0 λd=>(jz .rem false b (vi 3)).bind λe=>zO e (vi 0) λe=>(jz .neq true d e).bind λd=>KI d (jh (vi (- 1))) (ju b (vi 1) λb=>kIA 3 a c λd=>jll d 1 λd=>kAP d 0 λd=>kF 49 [b] λe=>kK d e (jh (vi (- 1))) (ju b (vi 1) λb=>kIA 3 a c λd=>jll d 1 λd=>kAP d 1 λd=>kF 91 [d,b] λb=>jB b (vi 0) (jh (vi (- 1))) (ju c (vi 1) λc=>jjN a b c)))) (jh b):=hq Tryz.func72
theorem g73:G 73 [a,b]=jm 2 a λa=>kLS (jc a 0) λc=>jcp b c λb=>jB b (vi 0) (jh (vi (- 1))) (kF 92 [jc a 1,b] λa=>jB a (vi 0) (jh (vi (- 1))) (jh a)):=gq Tryz.func73
theorem g74:G 74 [a]=jm 2 a λa=>kF 93 [zz a,vi 30] λb=>jgK b (vi 30) λb=>jF b true λ_=>zD b 94 [zz a] λa=>zN b (jz .leq false a (vi 8)) λa=>kj b a (vb false) λa=>jh a:=gq Tryz.func74
theorem g75:G 75 [a]=jm 2 a λa=>kF 95 [jc a 0] λb=>KI b (j8 (jc a 1) λa=>zO a (vi 0) λa=>jh a) (kFN 76 [jc a 0] λb=>jF b false λ_=>zd b (jc a 1) λc=>yu b (yX c) λc=>yu b (jz .gtr false c (vi 4)) λc=>Z8 b (vb true) c (jh (vb false)) (jjO (vi 0) (jc a 0) (jc a 1))):=gq Tryz.func75
theorem jrp:jjO a b c=KU a c (y8 2 2 c a λd=>kF 75 [d] λd=>Z7 d (jh (vb false)) (ju a (vi 1) λa=>jjO a b c)) (jh (vb true)):=hq Tryz.func75
theorem g76:G 76 [a]=kLS a λb=>kFN 96 [b,vi 1,vi 6] λb=>zd b a λc=>yu b (kG c (vi 0)) λc=>yu b (jz .lss false c (vy 97)) λc=>kj b (vb true) c λb=>zd b a λc=>yu b (kG c (vi 0)) λc=>yu b (jz .gtr false c (vy 122)) λc=>Z8 b (vb true) c (jh (vb false)) (zO a (sv [116,114,117,101]) λb=>KI b (KI b (jh (vb false)) (JF a (vi 1))) (zO a (sv [102,97,108,115,101]) λb=>KI b (KI b (jh (vb false)) (JF a (vi 1))) (zO a (sv [116,114,117,116,104]) λb=>KI b (KI b (jh (vb false)) (JF a (vi 1))) (zO a (sv [98,111,116,104]) λb=>KI b (KI b (jh (vb false)) (JF a (vi 1))) (zO a (sv [101,105,116,104,101,114]) λb=>KI b (KI b (jh (vb false)) (JF a (vi 1))) (zO a (sv [105,102]) λb=>KI b (KI b (jh (vb false)) (JF a (vi 1))) (zO a (sv [97,108,108]) λb=>KI b (KI b (jh (vb false)) (JF a (vi 1))) (Js a (sv [115,111,109,101]) (jh (vb false)) (JF a (vi 1)))))))))):=gq Tryz.func76
theorem jrq:JF a b=kLS a λc=>jB b c (kIS a b λc=>kFN 97 [c] λc=>kB c a λd=>kB c b λe=>zN c (kG d e) λd=>zN c (jz .neq false d (vy 95)) λd=>Z8 c d (vb false) (jh (vb false)) (ju b (vi 1) λb=>JF a b)) (jh (vb true)):=hq Tryz.func76
theorem g77:G 77 [a]=jm 2 a λa=>kF 74 [zz a] λb=>jF b true λ_=>zD b 75 [zz a] λa=>kj b a (vb false) λa=>jh a:=gq Tryz.func77
theorem g78:G 78 [a,b]=jm 2 a λa=>jm 2 b λb=>kF 95 [jc a 0] λc=>kF 95 [jc b 0] λd=>kB c d λe=>zN c (pUn .not e) λe=>Z8 c e (vb false) (jh (vi (- 1))) (jgJ c λc=>kB c d λd=>Z8 c d (vb false) (jh (vi 1)) (kK (jc a 0) (jc b 0) (kF 98 [jc a 0,jc b 0] λa=>jh a) (j8 (jc a 1) λc=>KU c (jc b 1) (jh (vi (- 1))) (j8 (jc a 1) λc=>j8 (jc b 1) λd=>Jt c d (jh (vi 1)) (jf1 (vi 0) (jc a 0) (jc a 1) (jc b 0) (jc b 1)))))):=gq Tryz.func78
theorem jrr:jf1 a b c d e=KU a c (y8 2 2 c a λf=>y8 2 2 e a λg=>kF 78 [f,g] λf=>kK f (vi 0) (jh f) (ju a (vi 1) λa=>jf1 a b c d e)) (jh (vi 0)):=hq Tryz.func78
theorem jtQ:jjv a p=jm 2 a λa=>kF 95 [jc a 0] λb=>KI b (kfn true (G 99 [A.sl 1 p,jc a 0]) λb=>KI b (some (A.top,[A.sl 1 p])) (brn (kJ (jc a 0)) (brn (zo ((jO p)+(jO [[jc a 0]])) 16) (some (A.top,[A.sl 1 (Jw p [[jc a 0]])])) none) none)) (jbt (vi 0) (jc a 0) (jc a 1) p):=vq Tryz.func79
theorem jp0:jbt a b c p=e_7 a c p b:=hq Tryz.func79
theorem jff:jbu a b c p=e_7 a c p b:=hq Tryz.func79
theorem jvE:jpi a=j8 a λb=>jkh b (vi 30) λb=>zd b a λc=>jgI b 18 [c] λc=>yu b (pUn .not c) λc=>Z8 b (vb true) c (some (A.top,[vb false,vb false,A.sl 65 [],A.sl 68 [],A.sl 65 [],A.sl 65 []])) ((jmA a).bind λb=>yl 65 b 0 λb=>j8 a λc=>jh5 a c (vi 0) (vb false) (vb false) b [] [] [] [] [] [] []):=vq Tryz.func7
theorem jnY:jh5 a b c d e p q r s t u v w=e_8 c b a p u v w e d q r s t:=hq Tryz.func7
theorem jnZ:jbP a b c d e p q r s t u v w=e_8 c b a t u v w e d p q r s:=hq Tryz.func7
theorem g8:G 8 [a,b]=jm 5 a λa=>jm 5 b λb=>kF 23 [zz a,zz b] λc=>Z7 c (jh (vb false)) (kF 24 [jc a 2,jc b 2] λc=>Z7 c (jh (vb false)) (kF 24 [jc a 3,jc b 3] λc=>Z7 c (jh (vb false)) ((jz .neq true (jc a 4) (jc b 4)).bind λa=>KI a (jh (vb false)) (jh (vb true))))):=gq Tryz.func8
theorem g80:G 80 [a,b,c,d]=jm 1 a λa=>jm 1 c λc=>j8 (jc a 0) λe=>Js b e (jh (A.tup [d,vb true])) (jbQ b d (vi 0) (jc a 0) (jc c 0)):=gq Tryz.func80
theorem jrs:jbQ a b c d e=KU c e (Qk 3 d a 0 λf=>Qk 3 e c 0 λg=>(jz .neq true f g).bind λf=>KI f (ju c (vi 1) λc=>jbQ a b c d e) (jdw 2 3 d a 1 λf=>jdw 2 3 e c 1 λg=>kRs 3 b λh=>brn (zo (jO h) 56) ((Yf f g h).bind λf=>ZU f 0 λg=>yl 259 f 1 λf=>KI g (Z7 g (ju c (vi 1) λc=>jbQ a b c d e) (ju a (vi 1) λg=>(G 80 [A.agg [d],g,A.agg [e],A.sl 3 f]).bind λf=>jfa f λf=>ZV f 0 λg=>ZV f 1 λf=>KI f (jh (A.tup [g,vb true])) (ju c (vi 1) λc=>jbQ a b c d e))) (Z7 g (ju c (vi 1) λc=>jbQ a b c d e) (ju a (vi 1) λ_=>none))) none)) (jh (A.tup [b,vb false])):=hq Tryz.func80
theorem jtR:jmH a b=brn (kJ a) (brn (kJ b) (brn (kJ a) ((Yg b).bind λb=>yl 66 b 0 λb=>brn (kJ a) (some (A.top,[a,A.sl 66 b])) none) none) none) none:=vq Tryz.func81
theorem jtS:jjw a=jm 2 a λa=>brn (kJ (jc a 0)) ((Yg (jc a 1)).bind λb=>yl 66 b 0 λb=>e_6 a b) none:=vq Tryz.func81
theorem g82:G 82 [a]=jm 3 a λa=>kF 102 [A.agg [jc a 1,jc a 2]] λa=>jh a:=gq Tryz.func82
theorem g83:G 83 [a,b]=jm 3 a λa=>jm 3 b λb=>kF 104 [A.agg [jc a 1,jc a 2],A.agg [jc b 1,jc b 2]] λc=>kF 106 [jc a 0] λa=>kF 106 [jc b 0] λb=>kF 105 [a,b] λa=>brn (kJ c) (brn (kJ a) (kfn true (G 103 [A.sl 1 [[c],[a]]]) λa=>jh a) none) none:=gq Tryz.func83
theorem g84:G 84 [a]=jm 1 a λa=>j8 (jc a 0) λb=>jf2 (jc a 0) b (vi 0) []:=gq Tryz.func84
theorem jrt:jf2 a b c p=jB c b (y8 3 3 a c λd=>jm 3 d λd=>(jeH (jc d 1) (jc d 2) p).bind λd=>yl 1 d 0 λd=>ju c (vi 1) λc=>jf2 a b c d) (jh (A.sl 1 p)):=hq Tryz.func84
theorem jtT:jmI a=(jgZ a).bind λa=>jbv (jig []) a:=vq Tryz.func86
theorem jtU:jfU a b c p=jm 2 a λa=>brn (kJ b) (brn (kJ c) (j8 (jc a 1) λd=>zO d (vi 0) λd=>jF d true λ_=>zD d 109 [zz a] λe=>Z8 d e (vb false) ((Zl none true false [sv [],A.sl 2 []] (A.mp p) (jc a 0)).bind λd=>ZV d 0 λe=>ZV d 1 λd=>jm 2 e λe=>(jfx none p (jc a 0) (A.agg [b,c])).bind λa=>jgJ d λd=>jF d false λ_=>jF d false λ_=>jgI d 67 [zz e,A.agg [b,c]] λb=>kj d (vb true) b λb=>some (A.top,[b,A.sl 128 a])) (jaR (jc a 0) b λd=>jF d false λ_=>zd d (jc a 1) λe=>yu d (yX e) λe=>jF d false λ_=>zd d c λf=>yu d (yX f) λf=>yu d (jz .neq false e f) λe=>Z8 d (vb true) e (some (A.top,[vb false,A.sl 128 p])) (j8 (jc a 1) λd=>YS (jc a 1) d (vi 0) b c p))) none) none:=vq Tryz.func87
theorem jku:YS a b c d e p=jB c b (y8 2 2 a c λf=>jm 2 f λf=>y8 2 2 e c λg=>(KY (jc f 0) (jc f 1) g p).bind λf=>ZU f 0 λg=>yl 128 f 1 λf=>Z7 g (some (A.top,[vb false,A.sl 128 f])) (ju c (vi 1) λc=>YS a b c d e f)) (some (A.top,[vb true,A.sl 128 p])):=hq Tryz.func87
theorem jtV:KY a b c p=brn (kJ a) (brn (kJ b) (jm 2 c λc=>j8 b λd=>zO d (vi 0) λd=>jF d true λ_=>zD d 109 [A.agg [a,b]] λe=>Z8 d e (vb false) ((Zl none true false [sv [],A.sl 2 []] (A.mp p) a).bind λb=>ZV b 0 λd=>ZV b 1 λb=>jm 2 d λd=>(jfx none p a (zz c)).bind λa=>jgJ b λb=>jF b false λ_=>jF b false λ_=>jgI b 67 [zz d,zz c] λc=>kj b (vb true) c λb=>some (A.top,[b,A.sl 128 a])) (jaR a (jc c 0) λa=>jF a false λ_=>zd a b λd=>yu a (yX d) λd=>jF a false λ_=>zd a (jc c 1) λe=>yu a (yX e) λe=>yu a (jz .neq false d e) λd=>Z8 a (vb true) d (some (A.top,[vb false,A.sl 128 p])) (j8 b λa=>YT b a (vi 0) (jc c 0) (jc c 1) p))) none) none:=vq Tryz.func87
theorem jkv:YT a b c d e p=jB c b (y8 2 2 a c λf=>jm 2 f λf=>y8 2 2 e c λg=>(KY (jc f 0) (jc f 1) g p).bind λf=>ZU f 0 λg=>yl 128 f 1 λf=>Z7 g (some (A.top,[vb false,A.sl 128 f])) (ju c (vi 1) λc=>YT a b c d e f)) (some (A.top,[vb true,A.sl 128 p])):=hq Tryz.func87
theorem g88:G 88 [a,b,c]=j8 a λd=>j8 b λe=>kK d e (jh (vb false)) (j8 a λd=>jjP b c a d (vi 0)):=gq Tryz.func88
theorem jru:jjP a b c d e=jB e d (y8 2 2 c e λf=>jm 2 f λf=>y8 2 2 a e λg=>jm 2 g λg=>(DX.run K (MM K) (.callc b [zz f,zz g] false)).bind λf=>Z7 f (jh (vb false)) (ju e (vi 1) λe=>jjP a b c d e)) (jh (vb true)):=hq Tryz.func88
theorem jqS:jmJ a=j8 a λb=>Js b (vi 0) (some (A.top,[A.sl 66 []])) (j8 a λb=>kMk 40 b b λb=>j8 a λc=>jbw a c (vi 0) (jal b [sv [],A.sl 2 []])):=vq Tryz.func89
theorem jkw:jbw a b c p=jB c b (y8 2 2 a c λd=>jm 2 d λd=>(jdI (zz d)).bind λd=>ZU d 0 λe=>yl 66 d 1 λd=>brn (zu e) (kIx (jO p) c λf=>brn (kJ e) (brn (ke e) (kRG p f λg=>ju c (vi 1) λc=>jbw a b c (kx p f (jJ g 0 [e,A.sl 2 d]))) none) none) none) (some (A.top,[A.sl 66 p])):=hq Tryz.func89
theorem g9:G 9 [a,b]=j8 a λc=>j8 b λd=>kK c d (jh (vb false)) (jpm a b (vi 0)):=gq Tryz.func9
theorem jul:jpm a b c=KU c a (y8 1 1 a c λd=>y8 1 1 b c λe=>kF 25 [d,e] λd=>Z7 d (jh (vb false)) (ju c (vi 1) λc=>jpm a b c)) (jh (vb true)):=hq Tryz.func9
theorem g90:G 90 [a,b]=jm 2 a λa=>jm 2 b λb=>kK (jc a 0) (jc b 0) (jh (vb false)) (kF 110 [jc a 1,jc b 1] λa=>Z7 a (jh (vb false)) (jh (vb true))):=gq Tryz.func90
theorem g91:G 91 [a,b]=jjQ a b (vi 0):=gq Tryz.func91
theorem jrv:jjQ a b c=KU c a (Qk 2 a c 0 λd=>kF 49 [b] λe=>kK d e (jh (vi (- 1))) (ju b (vi 1) λb=>Qk 2 a c 1 λd=>kF 91 [d,b] λb=>jB b (vi 0) (jh (vi (- 1))) (ju c (vi 1) λc=>jjQ a b c))) (jh b):=hq Tryz.func91
theorem g92:G 92 [a,b]=j8 a λc=>jcp b c λb=>jB b (vi 0) (jh (vi (- 1))) (jf3 a b (vi 0)):=gq Tryz.func92
theorem jrw:jf3 a b c=KU c a (y8 2 2 a c λd=>kF 73 [d,b] λb=>jB b (vi 0) (jh (vi (- 1))) (ju c (vi 1) λc=>jf3 a b c)) (jh b):=hq Tryz.func92
theorem g93:G 93 [a,b]=jm 2 a λa=>jjR b (vi 1) (vi 0) (jc a 0) (jc a 1):=gq Tryz.func93
theorem jn0:jjR a b c d e=j8 e λf=>jki c f λf=>kB f b λg=>kB f a λh=>zN f (jz .leq false g h) λg=>Z8 f g (vb false) (y8 2 2 e c λf=>jcp a b λg=>kF 93 [f,g] λf=>ju b f λb=>ju c (vi 1) λc=>jjR a b c d e) (jh b):=hq Tryz.func93
theorem g94:G 94 [a]=jm 2 a λa=>jjS (vi 0) (vi 0) (jc a 0) (jc a 1):=gq Tryz.func94
theorem jrx:jjS a b c d=KU b d (y8 2 2 d b λe=>kF 94 [e] λe=>kF 111 [a,e] λa=>ju b (vi 1) λb=>jjS a b c d) (ju a (vi 1) λa=>jh a):=hq Tryz.func94
theorem g95:G 95 [a]=kLS a λb=>kFN 96 [b,vi 1,vi 4] λb=>zd b a λc=>yu b (kG c (vi 0)) λc=>yu b (jz .lss false c (vy 65)) λc=>kj b (vb true) c λb=>zd b a λc=>yu b (kG c (vi 0)) λc=>yu b (jz .gtr false c (vy 90)) λc=>Z8 b (vb true) c (jh (vb false)) (jdK a (vi 1)):=gq Tryz.func95
theorem jry:jdK a b=kLS a λc=>jB b c (kIS a b λc=>kF 97 [c] λc=>Z7 c (jh (vb false)) (ju b (vi 1) λb=>jdK a b)) (jh (vb true)):=hq Tryz.func95
theorem g96:G 96 [a,b,c]=e_4 a b c:=gq Tryz.func96
theorem g97:G 97 [a]=Zd a (vy 97) λb=>kB b a λc=>zN b (jz .leq false c (vy 122)) λc=>kj b c (vb false) λb=>zd b a λc=>yu b (jz .geq false c (vy 48)) λc=>zd b c λc=>kB c a λa=>zN c (jz .leq false a (vy 57)) λa=>yu b (yY c a (vb false)) λa=>kj b (vb true) a λa=>jh a:=gq Tryz.func97
theorem g98:G 98 [a,b]=jB a b (jh (vi (- 1))) (Jt a b (jh (vi 1)) (jh (vi 0))):=gq Tryz.func98
theorem g99:G 99 [a,b]=jjT a b (vi 0):=gq Tryz.func99
theorem jrz:jjT a b c=KU c a (kIP 1 a c λd=>Js d b (jh (vb true)) (ju c (vi 1) λc=>jjT a b c)) (jh (vb false)):=hq Tryz.func99
end
end
end Go.Proofs.YtcmflcpoohgmmaaGreatDoor
