/- Pq -/
import Derived.Test.YtocncngbocomhaaGreatDoorKt
import Derived.KernelRfl
set_option linter.unusedVariables false
namespace Go.Proofs.YtocncngbocomhaaGreatDoor
open Go Go.RowKit Go.Proofs.YtocncngbocomhaaGreatDoor.Abs
set_option linter.unusedSimpArgs false
set_option linter.unusedVariables false
noncomputable section
def vT:V:=V.top
def vD(a:A):V:=V.d a
def vP(i:Nat):V:=V.ptr i 0
def vR(i:Nat):V:=V.row i
def tp(n:Nat):Xj:=List.replicate n vT
def pth:Nat->Nat->Xf
 |0,_=>[]
 |k+1,n=>if Nat.ble n 1 then[]else pth k (n/10)++[n%10]
def hs(sh:Option Xf)(f p:Nat)(l:Xj)(n:Nat)(ob:List Abs.Obj):Xe:=MM K (.head f (pth 60 p) (l++tp n) ob sh)
def hd(f p:Nat)(l:Xj)(n:Nat)(ob:List Abs.Obj):Xe:=hs none f p l n ob
theorem gq{f:FuncId}{fn:Func}{l:Xd}{r:Xe}(h3:Tryz.prog.funcs[f]? = some fn)(h2:K.pureF f=true:=by exact rfl)(h4:fn.body.isSome=true:=by exact rfl)(h5:Nat.ble l.length fn.ntmps=true:=by exact rfl)(h1:K.ext f=none:=by exact rfl)(e:evC K (MM K) f (codeOf fn) [] (Jk fn l) (yU K f fn)=r:=by kernel_rfl):G f l=r:=(jh7 h2 h3 h4 h5 h1).trans e
theorem vq{f:FuncId}{fn:Func}{l:Xj}{ob:List Abs.Obj}{r:Xe}(h3:Tryz.prog.funcs[f]? = some fn)(h1:K.extv f=none:=by exact rfl)(h4:fn.body.isSome=true:=by exact rfl)(h5:Nat.ble l.length fn.ntmps=true:=by exact rfl)(e:evC K (MM K) f (codeOf fn) [] (Za fn l ob) (yU K f fn)=r:=by kernel_rfl):MM K (.callv f l ob)=r:=(jh9 h1 h3 h4 h5).trans e
theorem hq{f:FuncId}{fn:Func}{p:Xf}{l:Xj}{ob:List Abs.Obj}{sh:Option Xf}{r:Xe}(h3:Tryz.prog.funcs[f]? = some fn)(h4:fn.body.isSome=true:=by exact rfl)(e:evAt K (MM K) f (codeOf fn) p [] (St.of fn.ntmps l ob sh) (yU K f fn)=r:=by kernel_rfl):MM K (.head f p l ob sh)=r:=(jh8 h3 h4).trans e
section
variable{B:Type}
def jbJ(n:Nat)(a:A)(k0:Xd->Option B):Option B:=(jeo n a).bind k0
def jie(t:A)(n:Nat)(k0:A->Option B):Option B:=(jg6 t n).bind k0
def jgU(t x y:A)(k0:A->Option B):Option B:=(jfS t x y).bind k0
def jcK(t:A)(w:Bool)(k0:Bool->Option B):Option B:=(qZ t w).bind k0
def jhK(l:A)(k0:A->Option B):Option B:=(jfQ l).bind k0
def kLN(n:Nat)(a:A)(k0:A->Option B):Option B:=(jb6 n a).bind k0
def jg2(t x:A)(k0:A->Option B):Option B:=(pG t true (some x)).bind k0
def jhm(t x:A)(k0:A->Option B):Option B:=(pG t false (some x)).bind k0
def kGT(t:A)(x:Xl)(k0:A->Option B):Option B:=(pG t true x).bind k0
def kGF(t:A)(x:Xl)(k0:A->Option B):Option B:=(pG t false x).bind k0
def jiN(t:A)(n:Nat)(l:Xd)(k0:A->Option B):Option B:=(pG t true ((G n l).bind (fin false))).bind k0
def jjf(t:A)(n:Nat)(l:Xd)(k0:A->Option B):Option B:=(pG t false ((G n l).bind (fin false))).bind k0
def kF(n:Nat)(l:Xd)(k0:A->Option B):Option B:=((G n l).bind (fin false)).bind k0
def jiD(o:Out)(k0:A->Option B):Option B:=(fin false o).bind k0
def kfn(b:Bool)(x:Xe)(k0:A->Option B):Option B:=(x.bind (fin b)).bind k0
def jlM(x:A)(k0:A->Option B):Option B:=(pUn .not x).bind k0
def kHD(o:Out)(i:Nat)(k0:A->Option B):Option B:=(hD o i).bind k0
def kHR(k:Nat)(o:Out)(i:Nat)(k0:Xc->Option B):Option B:=(hR k o i).bind k0
def kIx(n:Nat)(i:A)(k0:Nat->Option B):Option B:=(pIx n i).bind k0
def kB(d t:Nat)(x:Xl)(k0:Nat->Option B):Option B:=(pB d t x).bind k0
def kRN(l:Xc)(i j n:Nat)(k0:A->Option B):Option B:=(jfU l i j n).bind k0
def kRG(l:Xc)(i:Nat)(k0:Xd->Option B):Option B:=(jbd l i).bind k0
def kIS(a i:A)(k0:A->Option B):Option B:=(jaj a i).bind k0
def kSl(k:Nat)(a:A)(x y:Xl)(k0:A->Option B):Option B:=(K4 k a x y).bind k0
def kMk(n:Nat)(a b:A)(k0:Nat->Option B):Option B:=(Qp n a b).bind k0
def kRs(k:Nat)(a:A)(k0:Xc->Option B):Option B:=(qI k a).bind k0
def kLS(a:A)(k0:A->Option B):Option B:=(jfR a).bind k0
def jeV(x y:A)(k0:A->Option B):Option B:=(jgm .add false x y).bind k0
def jjg(x y:A)(k0:A->Option B):Option B:=(jgm .eql false x y).bind k0
def jlF(x y:A)(k0:A->Option B):Option B:=(jgm .geq false x y).bind k0
def jnU(x y:A)(k0:A->Option B):Option B:=(jgm .gtr false x y).bind k0
def joQ(x y:A)(k0:A->Option B):Option B:=(jgm .leq false x y).bind k0
def jk8(x y:A)(k0:A->Option B):Option B:=(jgm .lss false x y).bind k0
def jnV(x y:A)(k0:A->Option B):Option B:=(jgm .mul false x y).bind k0
def jj7(x y:A)(k0:A->Option B):Option B:=(jgm .neq false x y).bind k0
def jsD(x y:A)(k0:A->Option B):Option B:=(jgm .quo false x y).bind k0
def jmR(x y:A)(k0:A->Option B):Option B:=(jgm .shr false x y).bind k0
def jnW(x y:A)(k0:A->Option B):Option B:=(jgm .sub false x y).bind k0
def kbr(t:A)(X Y:Option B):Option B:=(qH t).bind λu=>brn u X Y
def kbP(c x y:A)(X Y:Option B):Option B:=(jfS c x y).bind λt=>(qH t).bind λu=>brn u X Y
def kbN(x:A)(X Y:Option B):Option B:=(pUn .not x).bind λt=>(qH t).bind λu=>brn u X Y
def kLb(i l:A)(X Y:Option B):Option B:=(jfQ l).bind λn=>(jgm .lss false i n).bind λt=>(qH t).bind λu=>brn u X Y
def kF2(n:Nat)(l:Xd)(k:A->A->Option B):Option B:=((G n l).bind (fin false)).bind λt=>(jg6 t 0).bind λa=>(jg6 t 1).bind λb=>k a b
def kFN(n:Nat)(l:Xd)(k:A->Option B):Option B:=((G n l).bind (fin false)).bind λt=>(pUn .not t).bind k
def kIN(n m:Nat)(x i:A)(k:A->Option B):Option B:=(zP m x i).bind λt=>(jb6 n t).bind k
def kIP(m:Nat)(x i:A)(k:A->Option B):Option B:=(zP m x i).bind λt=>(jb7 t).bind k
def jte(n m:Nat)(x i:A)(o:Nat)(k:A->Option B):Option B:=(zP m x i).bind λt=>(jgl t o).bind λt=>(jb6 n t).bind k
def jqx(m:Nat)(x i:A)(o:Nat)(k:A->Option B):Option B:=(zP m x i).bind λt=>(jgl t o).bind λt=>(jb7 t).bind k
def jf1(x y:A)(X Y:Option B):Option B:=(jgm .lss false x y).bind λt=>(qH t).bind λu=>brn u X Y
def jrz(x y:A)(X Y:Option B):Option B:=(jgm .leq false x y).bind λt=>(qH t).bind λu=>brn u X Y
def jiR(x y:A)(X Y:Option B):Option B:=(jgm .gtr false x y).bind λt=>(qH t).bind λu=>brn u X Y
def jry(x y:A)(X Y:Option B):Option B:=(jgm .geq false x y).bind λt=>(qH t).bind λu=>brn u X Y
def jiL(x y:A)(X Y:Option B):Option B:=(jgm .eql false x y).bind λt=>(qH t).bind λu=>brn u X Y
def jjO(x y:A)(X Y:Option B):Option B:=(jgm .neq false x y).bind λt=>(qH t).bind λu=>brn u X Y
def jb4(x:A):Xe:=some (x,[])
def jjI(t:Xd):A:=A.agg [kG t 0]
def jfC(t:Xd):A:=A.agg [kG t 0,kG t 1]
def jlB(t:Xd):A:=A.agg [kG t 0,kG t 1,kG t 2]
end
section
variable(a b c d e f g h i j k l m n o aa ab ac ad ae af ag ah ai aj ak al am:A)(p q r s t u v w x y z:Xc)
def jnu:=hd 106 11010 ([vT,vT,vT,vP 0,vP 1,vP 2]++tp 9++[vD a,vD b,vD c]) 49 [.box [vD d,vD e,vD f],.box [vD g,vD h],.box [vD i,vD j]]
def jph:=hd 109 11010 ([vD a,vD b]++tp 5++[vD c,vD d]) 10 []
def jpX:=MM K (.callv 10 [V.agg [V.d a,V.row 0],vD b] [.tre true 2 p])
def jpi:=hd 111 11010 ([vT,vP 0]++tp 4++[vD a,vD b,vD c]) 43 [.box [vD d]]
def jro:=MM K (.callv 112 [vR 0,V.fn 113 []] [.row 3 p])
def jnv:=hd 115 111100 ([vD a,vD b,vD c]++tp 5++[vD d,vD e,vD f]) 38 []
def jpf:=MM K (.callv 117 [vD a] [])
def jlZ:=hs (some []) 117 1111010 ([vT,vT,vT,vR 0]++tp 8++[vD a,vD b,vD c]) 11 [.row 2 p]
def jpj:=hd 119 111010 [vT,vT,vP 0,vP 1,vT,vD a] 26 [.box [vD b,vD c,vD d],.box [vD e,vD f]]
def jkX:=MM K (.callv 11 [vR 0,vD a] [.tre true 2 p])
def jl0:=hs (some [0]) 11 11010 [vR 0,vD a,vT,vT,vT,vD b] 22 [.tre true 2 p]
def jr2:=hd 12 11010 [vD a,vD b,vT,vT,vT,vD c] 26 []
def jpk:=hd 120 111010 [vT,vT,vP 0,vP 1,vT,vD a,vD b] 21 [.box [vD c,vD d],.box [vD e,vD f]]
def jnw:=hd 121 1111010 [vT,vT,vP 0,vP 1,vT,vD a,vD b] 31 [.box [vD c,vD d,vD e],.box [vD f,vD g]]
def jnx:=hd 123 11010 [vT,vT,vP 0,vP 1,vT,vD a] 20 [.box [vD b,vD c],.box [vD d,vD e]]
def jpl:=hd 124 111010 [vD a,vT,vT,vP 0,vT,vD b] 22 [.box [vD c,vD d]]
def jpm:=hd 125 111010 [vT,vT,vP 0,vP 1,vP 2,vP 3,vD a] 56 [.box [vD b],.box [vD c],.box [vR 4],.box [vR 5],.row 3 p,.row 3 q]
def jny:=hd 125 1111010 [vT,vT,vP 0,vP 1,vP 2,vP 3,vT,vD a] 55 [.box [vD b],.box [vD c],.box [vR 4],.box [vR 5],.row 3 p,.row 3 q]
def jp1:=hd 13 1111010 [vD a,vD b,vT,vT,vT,vD c] 21 []
def jnz:=hd 140 1111010 ([vT,vD a,vT,vT,vT,vD b]++tp 7++[vD c,vD d,vD e]) 10 []
def jpn:=hd 141 1111010 ([vT,vT,vP 0,vT,vT,vD a]++tp 16++[vD b,vD c,vD d]) 10 [.box [vD e,vD f,vD g]]
def jpo:=hd 143 111010 ([vT,vT,vT,vP 0,vP 1,vP 2]++tp 20++[vD a,vD b,vD c]) 21 [.box [vD d,vD e],.box [vD f,vR 3],.box [vD g,vR 4],.row 2 p,.row 2 q]
def jpp:=hd 147 11010 [vT,vD a,vP 0,vT,vT,vD b] 15 [.box [vD c,vD d,vD e]]
def jnA:=hd 148 1111010 [vT,vD a,vP 0,vT,vT,vD b,vD c] 21 [.box [vD d,vD e]]
def jr3:=hd 15 11010010 [vT,vD a,vD b,vP 0,vT,vT,vP 1,vD c] 50 [.box [vD d,vD e],.box [vD f,vR 2],.row 2 p]
def jr4:=hd 15 1111010 [vT,vD a,vD b,vP 0,vT,vT,vP 1,vT,vP 2,vD c] 48 [.box [vD d,vD e],.box [vD f,vR 3],.box [vD g,vR 4],.row 2 p,.row 2 q]
def jrX:=MM K (.callv 16 [V.agg [V.d a,V.d b],vR 0] [.row 1 p])
def jpq:=hs (some [0]) 16 111010 [vT,vR 0,vP 1,vT,vT,vD a] 28 [.row 1 p,.box [vD b,vD c]]
def jm9:=hs (some [2]) 16 111010 [vT,vR 0,vP 1,vT,vT,vD a] 28 [.row 1 p,.box [vD b,vD c],.gone]
def jtX:=MM K (.callv 16 [V.agg [V.d a,V.row 0],vR 1] [.row 2 p,.row 1 q])
def jpr:=hs (some [2,0]) 16 111010 [vT,vR 0,vP 1,vT,vT,vD a] 28 [.row 1 p,.box [vD b,vR 2],.row 2 q]
def jna:=hs (some [2,3]) 16 111010 [vT,vR 0,vP 1,vT,vT,vD a] 28 [.row 1 p,.box [vD b,vR 2],.row 2 q,.gone]
def jpY:=MM K (.callv 16 [vD a,vR 0] [.row 1 p])
def jnb:=hs (some [0]) 16 111010 [vT,vR 0,vP 1,vT,vT,vD a] 28 [.row 1 p,.box [vD b,vD c]]
def jnc:=hs (some [2]) 16 111010 [vT,vR 0,vP 1,vT,vT,vD a] 28 [.row 1 p,.box [vD b,vD c],.gone]
def jr5:=hd 17 111010 [vT,vD a,vP 0,vT,vT,vR 1,vD b] 24 [.box [vD c,vD d],.row 1 p]
def jr6:=hd 19 111010 [vT,vT,vP 0,vP 1,vT,vD a] 33 [.box [vD b,vD c],.box [vD d,vD e]]
def jnt:=MM K (.callv 20 [vD a] [])
def jnd:=hs (some []) 20 111010 [vD a,vT,vT,vR 0,vD b] 18 [.tre false 2 p]
def jtY:=MM K (.callv 22 [vD a,vD b] [])
def jp2:=hd 23 111010 ([vT,vT,vT,vR 0]++tp 7++[vD a,vD b,vD c]) 21 [.row 1 p]
def jr7:=hd 23 11101001100110 ([vT,vT,vT,vR 0,vD a]++tp 6++[vD b,vD c,vD d]++tp 5++[vD e,vD f,vD g]) 13 [.row 1 p]
def jpZ:=MM K (.callv 24 [vD a,vD b,vD c] [])
def jr8:=hd 28 111100 [vD a,vT,vT,vD b] 16 []
def jp3:=hd 30 11111010 [vT,vT,vP 0,vP 1,vT,vP 2,vD a] 43 [.box [vD b,vD c],.box [vD d,vD e],.box [vD f,vR 3,vD g],.row 1 p]
def joH:=hd 31 111010 [vD a,vT,vT,vD b] 25 []
def jr9:=hd 33 11010 [vD a,vD b,vT,vT,vT,vD c] 12 []
def jrY:=MM K (.callv 34 [vD a] [])
def jsa:=hd 35 11010 [vT,vD a,vP 0,vT,vP 1,vT,vD b] 27 [.box [vD c,vD d],.box [vD e,vR 2],.row 2 p]
def jt4:=hd 36 1111100 (tp 4++[vP 0,vT,vP 1,vP 2,vR 3]) 140 [.box [vR 4],.box [vR 5],.box [vR 6],.row 4 p,.row 3 q,.row 3 r,.row 3 s]
def jp4:=hd 36 1111100 (tp 4++[vP 0,vT,vP 1,vP 2,V.win 3 4 (nOf a) (nOf b)]) 140 [.box [vR 4],.box [vR 5],.box [vR 6],.row 4 p,.row 3 q,.row 3 r,.fro 3 s]
def jl1:=hd 36 1111100 (tp 4++[vP 0,vT,vP 1,vP 2,V.win 3 4 (nOf a) (nOf b)]) 140 [.box [vR 4],.box [vR 5],.box [vD c],.row 4 p,.row 3 q,.row 3 r]
def jsb:=hd 36 1111100010111110011111111111010 (tp 4++[vP 0,vT,vP 1,vP 2,V.win 3 4 (nOf a) (nOf b),vP 4,vT,vP 5,vT,vD c,vR 9,vD d]) 133 [.box [vR 6],.box [vR 7],.box [vR 8],.row 4 p,.box [vD e,vD f],.box [vD g,vD h],.row 3 q,.row 3 r,.fro 3 s,.row 4 t]
def jsc:=hd 36 1111100010111110011111111111010 (tp 4++[vP 0,vT,vP 1,vP 2,V.win 3 4 (nOf a) (nOf b),vP 4,vT,vP 5,vT,vD c,vR 8,vD d]) 133 [.box [vR 6],.box [vR 7],.box [vD e],.row 4 p,.box [vD f,vD g],.box [vD h,vD i],.row 3 q,.row 3 r,.row 4 s]
def jt5:=hd 36 1111100010111110011111111111010 (tp 4++[vP 0,vT,vP 1,vP 2,V.win 3 4 (nOf a) (nOf b),vP 4,vT,vP 5,vT,vD c,vR 6,vD d]) 133 [.box [vR 7],.box [vR 8],.box [vR 9],.row 4 p,.box [vD e,vD f],.box [vD g,vD h],.row 4 q,.row 3 r,.row 3 s,.fro 3 t]
def jnB:=hd 36 1111100 (tp 4++[vP 0,vT,vP 1,vP 2,vR 3]) 140 [.box [vR 4],.box [vR 5],.box [vR 6],.row 4 p,.row 3 q,.row 3 r,.fro 3 s]
def jt6:=hd 36 1111100010111110011111111111010 (tp 4++[vP 0,vT,vP 1,vP 2,V.win 3 4 (nOf a) (nOf b),vP 4,vT,vP 5,vT,vD c,vR 6,vD d]) 133 [.box [vR 7],.box [vR 8],.box [vD e],.row 4 p,.box [vD f,vD g],.box [vD h,vD i],.row 4 q,.row 3 r,.row 3 s]
def joI:=hd 36 1111100 (tp 4++[vP 0,vT,vP 1,vP 2,vR 3]) 140 [.box [vR 4],.box [vR 5],.box [vD a],.row 4 p,.row 3 q,.row 3 r]
def jsd:=hd 37 1111010 [vT,vT,vP 0,vP 1,vP 2,vT,vP 3,vD a] 42 [.box [vD b],.box [vD c,vD d],.box [vD e,vR 4],.box [vD f,vR 5],.row 2 p,.row 2 q]
def joF:=MM K (.callv 44 [vD a,vD b] [])
def jlm:=hs (some []) 44 1111010 ([vT,vD a,vT,vT,vP 0,vP 1]++tp 24++[vD b,vD c,vD d]) 13 [.box [vD e,vR 2],.box [vD f,vR 3],.tre true 2 p,.tre true 2 q]
def jse:=hd 45 111010 [vT,vD a,vT,vT,vT,vR 0,vT,vT,vT,vD b,vD c,vD d] 12 [.map p]
def jlW:=MM K (.callv 46 [vR 0,V.agg [V.d a,V.d b]] [.row 1 p])
def jl2:=hs (some [0]) 46 111010 ([vR 0]++tp 26++[vD a,vD b,vD c]) 8 [.row 1 p]
def jl3:=hs (some [1]) 46 111010 ([vR 0]++tp 26++[vD a,vD b,vD c]) 8 [.row 1 p,.gone]
def jsf:=hd 47 11010 [vT,vT,vP 0,vT,vP 1,vT,vT,vT,vD a,vD b,vD c] 18 [.box [vD d,vD e],.box [vD f,vR 2],.row 2 p]
def jt7:=hd 49 111100 (tp 4++[vP 0,vT,vP 1,vR 2]) 115 [.box [vR 3],.box [vR 4],.row 4 p,.row 3 q,.row 3 r]
def jp5:=hd 49 111100 (tp 4++[vP 0,vT,vP 1,V.win 2 4 (nOf a) (nOf b)]) 115 [.box [vR 3],.box [vR 4],.row 4 p,.row 3 q,.fro 3 r]
def jl4:=hd 49 111100 (tp 4++[vP 0,vT,vP 1,V.win 2 4 (nOf a) (nOf b)]) 115 [.box [vR 3],.box [vD c],.row 4 p,.row 3 q]
def jsg:=hd 49 1111000101110111111111010 (tp 4++[vP 0,vT,vP 1,V.win 2 4 (nOf a) (nOf b),vT,vT,vP 3,vT,vT,vT,vR 6]++tp 32++[vD c,vD d,vD e]) 73 [.box [vR 4],.box [vR 5],.row 4 p,.box [vD f,vD g],.row 3 q,.fro 3 r,.row 4 s]
def jsh:=hd 49 1111000101110111111111010 (tp 4++[vP 0,vT,vP 1,V.win 2 4 (nOf a) (nOf b),vT,vT,vP 3,vT,vT,vT,vR 5]++tp 32++[vD c,vD d,vD e]) 73 [.box [vR 4],.box [vD f],.row 4 p,.box [vD g,vD h],.row 3 q,.row 4 r]
def jt8:=hd 49 1111000101110111111111010 (tp 4++[vP 0,vT,vP 1,V.win 2 4 (nOf a) (nOf b),vT,vT,vP 3,vT,vT,vT,vR 4]++tp 32++[vD c,vD d,vD e]) 73 [.box [vR 5],.box [vR 6],.row 4 p,.box [vD f,vD g],.row 4 q,.row 3 r,.fro 3 s]
def jnC:=hd 49 111100 (tp 4++[vP 0,vT,vP 1,vR 2]) 115 [.box [vR 3],.box [vR 4],.row 4 p,.row 3 q,.fro 3 r]
def jt9:=hd 49 1111000101110111111111010 (tp 4++[vP 0,vT,vP 1,V.win 2 4 (nOf a) (nOf b),vT,vT,vP 3,vT,vT,vT,vR 4]++tp 32++[vD c,vD d,vD e]) 73 [.box [vR 5],.box [vD f],.row 4 p,.box [vD g,vD h],.row 4 q,.row 3 r]
def joJ:=hd 49 111100 (tp 4++[vP 0,vT,vP 1,vR 2]) 115 [.box [vR 3],.box [vD a],.row 4 p,.row 3 q]
def jx7:=hd 5 111111010 (tp 6++[vR 2,vP 0,vP 1,vD a,vD b]) 67 [.box [vD c,vD d],.box [vD e,vD f],.row 2 p]
def juc:=hd 5 11111101001001010 (tp 6++[vR 0,vP 1,vP 2,vD a,vD b,vP 3,vD c,vD d]) 64 [.row 2 p,.box [vD e,vD f],.box [vD g,vD h],.box [vD i,vD j]]
def jp7:=hd 5 111111010 (tp 6++[vR 0,vP 1,vP 2,vD a,vD b]) 67 [.row 2 p,.box [vD c,vD d],.box [vD e,vD f]]
def jua:=hd 50 1111010 ([vT,vT,vP 0,vT,vP 1,vT,vT,vP 2]++tp 27++[vD a,vD b,vD c]) 13 [.box [vD d],.box [vD e,vR 4],.box [vD f,vR 3],.row 2 p,.row 2 q]
def jub:=hd 50 1111010 ([vT,vT,vP 0,vT,vP 1,vT,vT,vP 2]++tp 27++[vD a,vD b,vD c]) 13 [.box [vD d],.box [vD e,vR 3],.box [vD f,vR 4],.row 2 p,.row 2 q]
def jsi:=hd 53 11010 ([vD a,vD b]++tp 5++[vD c,vD d]) 10 []
def jsj:=hd 54 111010 ([vT,vD a,vD b]++tp 12++[vD c,vD d,vD e]) 14 []
def jsk:=hd 56 1111010 [vT,vP 0,vT,vD a] 31 [.box [vD b,vD c]]
def jkn:=hd 57 1111010 [vD a,vT,vT,vD b] 41 []
def jp6:=hd 59 111010 [vD a,vT,vT,vP 0,vT,vD b] 23 [.box [vD c,vD d]]
def jsl:=hd 63 111010 [vT,vP 0,vP 1,vP 2,vD a] 22 [.box [vD b,vD c],.box [vD d,vR 3],.box [vD e,vR 4],.row 2 p,.row 2 q]
def jrZ:=MM K (.callv 63 [V.agg [V.d a,V.d b]] [])
def jne:=hs (some []) 63 111010 [vT,vP 0,vP 1,vP 2,vD a] 22 [.box [vD b,vD c],.box [vD d,vR 3],.box [vD e,vR 4],.row 2 p,.row 2 q]
def jp8:=hd 66 11010 [vT,vD a,vP 0,vT,vT,vD b] 16 [.box [vD c]]
def jp9:=hd 68 11010 ([vD a]++tp 4++[vD b,vD c]) 41 []
def jot:=MM K (.callv 6 [V.agg [V.d a,V.d b]] [])
def jv2:=MM K (.callv 6 [vD a] [])
def jlX:=MM K (.callv 70 [vR 0,V.agg [V.d a,V.d b]] [.row 1 p])
def jnf:=hs (some [1]) 70 111010 ([vR 0]++tp 22++[vD a,vD b,vD c]) 8 [.row 1 p,.gone]
def jps:=hs (some [0]) 70 111010 ([vR 0]++tp 22++[vD a,vD b,vD c]) 8 [.row 1 p]
def jp0:=MM K (.callv 71 [vR 0] [.row 1 p])
def jtZ:=MM K (.callv 72 [vR 0,vD a] [.row 1 p])
def jng:=hs (some [1]) 72 111111100 (tp 7++[vR 0,vD a]) 39 [.row 1 p,.row 1 q]
def jqa:=hd 79 111010 ([vT,vT,vP 0,vP 1,vP 2,vT,vP 3]++tp 9++[vD a,vD b,vD c]) 58 [.box [vD d],.box [vD e],.box [vR 4],.box [vR 5],.row 3 p,.row 3 q]
def joK:=hd 79 1111010 ([vT,vT,vP 0,vT,vP 1,vT,vP 2]++tp 35++[vD a,vD b,vD c]) 32 [.box [vD d],.box [vR 3],.box [vR 4],.row 3 p,.row 3 q]
def jv3:=MM K (.callv 7 [vD a,vD b] [])
def jmx:=hs (some []) 7 111111010 (tp 6++[vP 0,vT,vP 1,vT,vR 2]++tp 27++[vD a,vD b,vD c]) 23 [.box [vD d,vD e],.box [vD f,vD g],.tre true 2 p]
def jv4:=hd 8 111010 [vD a,vD b,vT,vT,vT,vD c] 21 []
def jr0:=MM K (.callv 81 [V.agg [V.d a,V.d b]] [])
def jsm:=hd 82 111010 [vT,vT,vT,vD a,vT,vT,vT,vD b,vD c,vD d] 12 []
def jsn:=hd 83 111010 [vT,vT,vT,vD a,vT,vT,vT,vD b,vD c,vD d] 10 []
def jso:=hd 84 111010 [vT,vD a,vP 0,vT,vT,vD b,vD c] 24 [.box [vD d,vD e]]
def jsp:=hd 85 111010 [vT,vP 0,vT,vD a,vD b] 17 [.box [vD c,vD d]]
def jqb:=hd 86 11100 [vD a,vD b,vT,vT,vT,vD c] 39 []
def jsq:=hd 87 111010 [vT,vP 0,vT,vD a] 57 [.box [vD b,vD c,vD d]]
def jsr:=hd 91 11010 [vT,vP 0,vT,vD a] 51 [.box [vD b]]
def jt0:=MM K (.callv 95 [V.agg [V.row 0],vD a,V.agg [V.d b,V.d c]] [.row 3 p])
def jpt:=hs (some [3]) 95 111100 [vT,vD a,vT,vP 0,vT,vP 1,vP 2,vD b] 43 [.box [vR 3],.box [vD c,vD d],.box [vR 4],.row 3 p,.row 3 q]
def jr1:=MM K (.callv 95 [V.agg [V.row 0],vD a,vD b] [.row 3 p])
def jl5:=hs (some [3]) 95 111100 [vT,vD a,vT,vP 0,vT,vP 1,vP 2,vD b] 43 [.box [vR 3],.box [vD c,vD d],.box [vR 4],.row 3 p,.row 3 q]
def jqc:=hd 96 11010 ([vD a]++tp 4++[vD b,vD c]) 33 []
def e_0(a:A):Xe:=brn (ZO a) (brn (ZO a) (jb4 (A.agg [a,A.sl 2 []])) none) none
def e_1(a:A)(p:Xc):Xe:=brn (ZO a) (brn (jbb ((JL p)+(JL [[a]])) 16) (some (A.top,[A.sl 1 (jgs p [[a]])])) none) none
def e_2(a:A)(b:A)(p:Xc)(c:A):Xe:=kLb a b (kIN 2 2 b a λd=>(jpY d p).bind λd=>kHR 1 d 0 λd=>jeV a (vi 1) λa=>jm9 a c b d) (some (A.top,[A.sl 1 p]))
def e_3(a:A)(p:Xc)(q:Xc)(b:A):Xe:=jf1 a (jdt p) (kIx (JL p) a λc=>kRN p c 0 2 λc=>(jpY c q).bind λc=>kHR 1 c 0 λc=>jeV a (vi 1) λa=>jna a b c p) (some (A.top,[A.sl 2 p,A.sl 1 q]))
def e_4(a:A)(b:A)(p:Xc)(c:A):Xe:=kLb a b (kIN 2 2 b a λd=>(jpY d p).bind λd=>kHR 1 d 0 λd=>jeV a (vi 1) λa=>jnc a c b d) (some (A.top,[A.sl 1 p]))
def e_6(a:A)(b:A)(c:A)(d:Xd)(e:Xd):Xe:=jjf a 19 [b,c] λb=>kbP a (vb true) b (jb4 (A.tup [A.agg [sv [],A.sl 2 []],vb false])) ((jtX (sv [61]) [[kG d 0,kG d 1],[kG e 0,kG e 1]] []).bind λa=>kHR 2 a 0 λb=>kHR 1 a 1 λa=>(G 15 [A.agg [sv [61],A.sl 2 b],A.sl 1 a,sv [88]]).bind λa=>jiD a λa=>jbJ 2 a λa=>jb4 (A.tup [jfC a,vb true]))
def e_5(a:A)(c:Xd)(d:Xd)(b:A):Xe:=jcK a false λ_=>jcK a false λ_=>jcK a false λe=>brn e (kIx (JL [[kG c 0,kG c 1],[kG d 0,kG d 1]]) (vi 1) λe=>kGF a (jfU [[kG c 0,kG c 1],[kG d 0,kG d 1]] e 0 2) λe=>e_6 a b e c d) (kGF a (jb6 2 (A.val undef)) λe=>e_6 a b e c d)
def e_8(a:A)(b:A)(c:A)(d:Xd)(e:Xd):Xe:=jjf a 27 [b,c] λb=>kbP a (vb true) b (some (A.top,[sv [],vb false,A.sl 66 []])) ((jtY (A.agg [sv [61],A.sl 2 [[kG d 0,kG d 1],[kG e 0,kG e 1]]]) (sv [88])).bind λa=>kHD a 0 λb=>kHD a 1 λc=>kHR 66 a 2 λa=>brn (z6 b) (brn (z6 c) (brn (ZO b) (some (A.top,[b,c,A.sl 66 a])) none) none) none)
def e_7(a:A)(c:Xd)(d:Xd)(b:A):Xe:=jcK a false λ_=>jcK a false λ_=>jcK a false λe=>brn e (kIx (JL [[kG c 0,kG c 1],[kG d 0,kG d 1]]) (vi 1) λe=>kGF a (jfU [[kG c 0,kG c 1],[kG d 0,kG d 1]] e 0 2) λe=>e_8 a b e c d) (kGF a (jb6 2 (A.val undef)) λe=>e_8 a b e c d)
def jwb(a:Out)(p:Xc)(b:Nat)(c:Nat)(q:Xc)(r:Xc):Xe:=jiD a λa=>jie a 0 λd=>jie a 1 λa=>jbJ 1 d λd=>kbN a (jb4 (A.tup [A.agg [A.sl 3 p],vb false])) (jl1 (nA (0+b)) (nA (jhR c b)) (kG d 0) q r p)
def juq(p:Xc)(a:Xd)(b:Xd)(q:Xc)(c:Nat)(d:Nat)(r:Xc)(s:Xc):Xe:=(G 65 [A.agg [A.sl 3 p],kG a 0,jfC b]).bind λa=>jwb a q c d r s
def e_9(p:Xc)(q:Xc)(r:Xc)(s:Xc):Xe:=jiR (jdt p) (vi 0) (kIx (JL p) (vi 0) λa=>kRN p a 0 2 λa=>(G 64 [A.agg [A.sl 3 q],a]).bind λa=>jiD a λa=>jie a 0 λb=>jie a 1 λa=>jbJ 2 b λb=>kIx (JL p) (vi 0) λc=>kRN p c 2 2 λc=>(G 64 [A.agg [A.sl 3 q],c]).bind λc=>jiD c λc=>jie c 0 λd=>jie c 1 λc=>jbJ 2 d λd=>jlM a λa=>jhm a c λc=>kGF a (pUn .not c) λc=>kbP a (vb true) c (jb4 (A.tup [A.agg [A.sl 3 r],vb false])) (kB (jds p) (jg7 p 0) none λa=>kB 0 a (some (vi 1)) λc=>kF 19 [jfC b,jfC d] λe=>kbr e (kbN (vb true) (jb4 (A.tup [A.agg [A.sl 3 r],vb false])) (jp4 (nA (0+c)) (nA (jhR a c)) p s r q)) (kF 31 [kG b 0] λe=>jcK e true λ_=>jg2 e (kG d 0) λf=>jiN e 31 [f] λf=>jgU e f (vb false) λe=>jcK e true λ_=>jg2 e (kG b 0) λf=>jcK e true λ_=>jg2 e (kG d 0) λg=>kGT e (jgm .lss false f g) λf=>kbP e f (vb false) (juq q d b r c a p s) (kF 31 [kG b 0] λe=>kbr e (juq q b d r c a p s) (kF 31 [kG d 0] λe=>kbr e (juq q d b r c a p s) (jj7 (kG b 0) (kG d 0) λe=>jcK e false λ_=>jhm e (kG b 1) λf=>kGF e (jfQ f) λf=>jcK e false λ_=>jhm e (kG d 1) λg=>kGF e (jfQ g) λg=>kGF e (jgm .neq false f g) λf=>kbP e (vb true) f (jb4 (A.tup [A.agg [A.sl 3 r],vb false])) (jsb (nA (0+c)) (nA (jhR a c)) (vb true) (vi 0) (kG b 0) (kG b 1) (kG d 0) (kG d 1) p s r q []))))))) (jb4 (A.tup [A.agg [A.sl 3 q],vb true]))
def jwc(b:Out)(p:Xc)(a:A)(c:Nat)(d:Nat)(q:Xc)(r:Xc):Xe:=jiD b λb=>jie b 0 λe=>jie b 1 λb=>jbJ 1 e λe=>kbN b (jb4 (A.tup [A.agg [A.sl 3 p],vb false])) (jl1 (nA ((nOf a)+c)) (nA (jhR d c)) (kG e 0) q r p)
def jur(p:Xc)(b:Xd)(c:Xd)(q:Xc)(a:A)(d:Nat)(e:Nat)(r:Xc)(s:Xc):Xe:=(G 65 [A.agg [A.sl 3 p],kG b 0,jfC c]).bind λb=>jwc b q a d e r s
def jus(a:A)(c:Xd)(d:Xd)(p:Xc)(b:A)(e:Nat)(f:Nat)(q:Xc)(r:Xc):Xe:=(G 65 [A.agg [a],kG c 0,jfC d]).bind λa=>jwc a p b e f q r
def jwd(a:A)(b:A)(c:A)(p:Xc)(d:A)(e:A)(f:A)(g:A)(h:A)(q:Xc)(r:Xc)(s:Xc)(t:Xc):Xe:=kLb a b (kIN 2 2 b a λi=>kIN 2 2 c a λj=>(K1 (kD (K.at 36) 79) [sv [],A.sl 2 [],sv [],A.sl 2 []] [(0,i),(1,j)]).bind λi=>jbJ 4 i λi=>brn (jbb ((JL p)+(JL [[kG i 0,kG i 1,kG i 2,kG i 3]])) 80) (jeV a (vi 1) λa=>jt5 (nA (nOf d)) (nA (nOf e)) f a g b h c q (jgs p [[kG i 0,kG i 1,kG i 2,kG i 3]]) r s t) none) (brn (jbb ((JL p)+(JL (jhW q (nOf d) (nOf e)))) 80) (kbN f (jb4 (A.tup [A.agg [A.sl 3 s],vb false])) (jnB (jgs p (jhW q (nOf d) (nOf e))) r s t)) none)
def jwe(a:A)(b:A)(c:A)(p:Xc)(d:A)(e:A)(f:A)(g:A)(h:A)(i:A)(q:Xc)(r:Xc)(s:Xc):Xe:=kLb a b (kIN 2 2 b a λj=>kIN 2 2 c a λk=>(K1 (kD (K.at 36) 79) [sv [],A.sl 2 [],sv [],A.sl 2 []] [(0,j),(1,k)]).bind λj=>jbJ 4 j λj=>brn (jbb ((JL p)+(JL [[kG j 0,kG j 1,kG j 2,kG j 3]])) 80) (jeV a (vi 1) λa=>jt6 (nA (nOf d)) (nA (nOf e)) f a g h b i c q (jgs p [[kG j 0,kG j 1,kG j 2,kG j 3]]) r s) none) (brn (jbb ((JL p)+(JL (jhW q (nOf d) (nOf e)))) 80) (kbN f (jb4 (A.tup [A.agg [A.sl 3 s],vb false])) (joI g (jgs p (jhW q (nOf d) (nOf e))) r s)) none)
def jut(a:A)(b:Xd)(c:Xd)(p:Xc)(d:Nat)(e:Nat)(q:Xc)(r:Xc):Xe:=(G 65 [A.agg [a],kG b 0,jfC c]).bind λa=>jwb a p d e q r
def jwf(a:Xd):Xe:=brn (ZO (kG a 0)) (brn (ZO (kG a 0)) (jb4 (A.agg [kG a 0,A.sl 2 []])) none) none
def jwg(a:Out):Xe:=kHD a 0 λb=>kHR 2 a 1 λa=>brn (ZO b) (jb4 (A.agg [b,A.sl 2 a])) none
def jwh(p:Xc)(a:A)(b:A)(c:A):Xe:=kIx (JL p) a λa=>jbJ 2 b λb=>kRG p a λd=>brn (ZO c) (jb4 (A.agg [c,A.sl 2 (jal p a (Z4 d 0 [kG b 0,kG b 1]))])) none
def jwi(a:A)(b:A)(c:A)(p:Xc):Xe:=jf1 a b (kIN 2 2 c a λd=>jbJ 2 d λd=>(jlW (kG d 0) (kG d 1) p).bind λd=>kHR 1 d 0 λd=>jeV a (vi 1) λa=>jl3 c b a d) (some (A.top,[A.sl 1 p]))
def jwk(a:Out)(b:Nat)(c:Nat)(p:Xc)(q:Xc):Xe:=jiD a λa=>jie a 0 λd=>jie a 1 λa=>jbJ 1 d λd=>kbN a (jb4 (A.tup [A.agg [A.sl 3 []],vb false])) (jl4 (nA (0+b)) (nA (jhR c b)) (kG d 0) p q)
def jwj(p:Xc)(q:Xc)(r:Xc):Xe:=jiR (jdt p) (vi 0) (kIx (JL p) (vi 0) λa=>kRN p a 0 2 λa=>(G 77 [A.agg [A.sl 3 q],a]).bind λa=>jiD a λa=>jie a 0 λb=>jie a 1 λa=>jbJ 2 b λb=>kIx (JL p) (vi 0) λc=>kRN p c 2 2 λc=>(G 77 [A.agg [A.sl 3 q],c]).bind λc=>jiD c λc=>jie c 0 λd=>jie c 1 λc=>jbJ 2 d λd=>kB (jds p) (jg7 p 0) none λe=>kB 0 e (some (vi 1)) λf=>jlM a λa=>jhm a c λc=>kGF a (pUn .not c) λc=>kbP a (vb true) c (jb4 (A.tup [A.agg [A.sl 3 []],vb false])) (kF 27 [jfC b,jfC d] λa=>kbr a (jp5 (nA (0+f)) (nA (jhR e f)) p r q) (kF 48 [jfC b] λa=>jcK a false λ_=>jjf a 48 [jfC d] λc=>kbP a (vb true) c (brn (ZO (kG b 0)) (brn (ZO (kG b 1)) (brn (ZO (kG d 0)) (brn (ZO (kG d 1)) (kF2 78 [A.agg [kG b 0,kG b 1,kG d 0,kG d 1]] λa b=>jbJ 1 a λa=>kbN b (jb4 (A.tup [A.agg [A.sl 3 []],vb false])) ((G 79 [A.agg [A.sl 3 q],jjI a]).bind λa=>jwk a f e p r)) none) none) none) none) (jj7 (kG b 0) (kG d 0) λa=>jcK a false λ_=>jhm a (kG b 1) λc=>kGF a (jfQ c) λc=>jcK a false λ_=>jhm a (kG d 1) λg=>kGF a (jfQ g) λg=>kGF a (jgm .neq false c g) λc=>kbP a (vb true) c (jb4 (A.tup [A.agg [A.sl 3 []],vb false])) (jhK (kG b 1) λa=>jsg (nA (0+f)) (nA (jhR e f)) (kG b 1) a (vi 0) (kG d 0) (kG d 1) p r q []))))) (jb4 (A.tup [A.agg [A.sl 3 q],vb true]))
def jwl(b:Out)(a:A)(c:Nat)(d:Nat)(p:Xc)(q:Xc):Xe:=jiD b λb=>jie b 0 λe=>jie b 1 λb=>jbJ 1 e λe=>kbN b (jb4 (A.tup [A.agg [A.sl 3 []],vb false])) (jl4 (nA ((nOf a)+c)) (nA (jhR d c)) (kG e 0) p q)
def jwm(a:A)(b:A)(c:A)(d:A)(p:Xc)(e:A)(f:A)(g:A)(q:Xc)(r:Xc)(s:Xc):Xe:=jf1 a b (kIN 2 2 c a λh=>jbJ 2 h λh=>kIN 2 2 d a λi=>brn (ZO (kG h 0)) (brn (ZO (kG h 1)) (jbJ 2 i λi=>brn (ZO (kG h 0)) (brn (ZO (kG h 1)) (brn (ZO (kG i 0)) (brn (ZO (kG i 1)) (brn (jbb ((JL p)+(JL [[kG h 0,kG h 1,kG i 0,kG i 1]])) 80) (jeV a (vi 1) λa=>jt8 (nA (nOf e)) (nA (nOf f)) c b a g d q (jgs p [[kG h 0,kG h 1,kG i 0,kG i 1]]) r s) none) none) none) none) none) none) none) (brn (jbb ((JL p)+(JL (jhW q (nOf e) (nOf f)))) 80) (jnC (jgs p (jhW q (nOf e) (nOf f))) r s) none)
def jwn(a:A)(b:A)(c:A)(d:A)(p:Xc)(e:A)(f:A)(g:A)(h:A)(q:Xc)(r:Xc):Xe:=jf1 a b (kIN 2 2 c a λi=>jbJ 2 i λi=>kIN 2 2 d a λj=>brn (ZO (kG i 0)) (brn (ZO (kG i 1)) (jbJ 2 j λj=>brn (ZO (kG i 0)) (brn (ZO (kG i 1)) (brn (ZO (kG j 0)) (brn (ZO (kG j 1)) (brn (jbb ((JL p)+(JL [[kG i 0,kG i 1,kG j 0,kG j 1]])) 80) (jeV a (vi 1) λa=>jt9 (nA (nOf e)) (nA (nOf f)) c b a g h d q (jgs p [[kG i 0,kG i 1,kG j 0,kG j 1]]) r) none) none) none) none) none) none) none) (brn (jbb ((JL p)+(JL (jhW q (nOf e) (nOf f)))) 80) (joJ g (jgs p (jhW q (nOf e) (nOf f))) r) none)
def jwo(a:A)(b:A)(c:A)(d:A)(e:A)(f:A)(p:Xc):Xe:=kLb a b (kIP 1 b a λg=>kF2 18 [A.agg [c,d],A.agg [e,f],g] λg h=>jbJ 2 g λg=>juc b a h (vi 0) c d e f (kG g 0) (kG g 1) p) (jb4 (A.tup [A.sl 2 p,vb true]))
def jwp(a:A)(b:A)(c:A)(d:A)(p:Xc)(e:A)(f:A)(q:Xc):Xe:=jf1 a b (kIN 2 2 c a λg=>jbJ 2 g λg=>kF 50 [A.agg [d],jfC g] λg=>kIx (JL p) a λh=>jbJ 2 g λg=>kRG p h λi=>jeV a (vi 1) λa=>jub c b a d e f q (jal p h (Z4 i 0 [kG g 0,kG g 1]))) (brn (ZO f) (jb4 (A.agg [f,A.sl 2 p])) none)
def jwq(a:A)(b:A)(c:A):Xe:=jlF a b λb=>jg2 b a λa=>jg2 b c λc=>kGT b (jgm .leq false a c) λa=>jgU b a (vb false) λa=>jb4 a
def jwr(a:A)(b:Xd):Xe:=kbN a (jb4 (A.tup [A.agg [sv [],A.sl 2 []],vb false])) (brn (ZO (kG b 0)) (brn (ZO (kG b 1)) (jb4 (A.tup [jfC b,vb true])) none) none)
def jws(a:A)(b:A)(c:A)(p:Xc):Xe:=jf1 a b (kIN 2 2 c a λd=>jbJ 2 d λd=>(jlX (kG d 0) (kG d 1) p).bind λd=>kHR 1 d 0 λd=>jeV a (vi 1) λa=>jnf c b a d) (some (A.top,[A.sl 1 p]))
def jwu(p:Xc)(a:A)(b:A)(c:A)(d:A):Xe:=kB (jds p) (jg7 p 0) (some a) λe=>brn (jbb (JL (jhW p 0 (jhR e 0))) 56) ((G 63 [A.agg [b,c]]).bind λb=>jiD b λb=>(K1 (kD (K.at 95) 85) [sv [],sv [],A.sl 2 []] [(0,d),(1,b)]).bind λb=>jbJ 3 b λb=>brn (jbb ((JL (jhW p 0 (jhR e 0)))+(JL [[kG b 0,kG b 1,kG b 2]])) 56) (kB (jds p) (jg7 p 0) none λc=>kB 0 c (some a) λa=>brn (jbb ((JL (jgs (jhW p 0 (jhR e 0)) [[kG b 0,kG b 1,kG b 2]]))+(JL (jhW p (0+a) (jhR c a)))) 56) (some (A.top,[A.sl 3 (jgs (jgs (jhW p 0 (jhR e 0)) [[kG b 0,kG b 1,kG b 2]]) (jhW p (0+a) (jhR c a)))])) none) none) none
def jwt(a:A)(b:A)(c:A)(d:A)(e:A)(f:A)(p:Xc)(q:Xc):Xe:=jg2 a b λg=>kGT a (jgm .lss false c g) λc=>kbP a c (vb false) (jeV d (vi 1) λa=>jpt b a e f p q) (jwu p d e f b)
def jwv(a:A)(b:A)(c:A)(d:A)(e:A)(f:A)(p:Xc)(q:Xc):Xe:=jg2 a b λg=>kGT a (jgm .lss false c g) λc=>kbP a c (vb false) (jeV d (vi 1) λa=>jl5 b a e f p q) (jwu p d e f b)
theorem cev:type_of% (And.intro @jbJ.eq_1 (And.intro @jie.eq_1 (And.intro @jgU.eq_1 (And.intro @jcK.eq_1 (And.intro @jhK.eq_1 (And.intro @kLN.eq_1 (And.intro @jg2.eq_1 (And.intro @jhm.eq_1 (And.intro @kGT.eq_1 (And.intro @kGF.eq_1 (And.intro @jiN.eq_1 (And.intro @jjf.eq_1 (And.intro @kF.eq_1 (And.intro @jiD.eq_1 (And.intro @kfn.eq_1 (And.intro @jlM.eq_1 (And.intro @kHD.eq_1 (And.intro @kHR.eq_1 (And.intro @kIx.eq_1 (And.intro @kB.eq_1 (And.intro @kRN.eq_1 (And.intro @kRG.eq_1 (And.intro @kIS.eq_1 (And.intro @kSl.eq_1 (And.intro @kMk.eq_1 (And.intro @kRs.eq_1 (And.intro @kLS.eq_1 (And.intro @jeV.eq_1 (And.intro @jjg.eq_1 (And.intro @jlF.eq_1 (And.intro @jnU.eq_1 (And.intro @joQ.eq_1 (And.intro @jk8.eq_1 (And.intro @jnV.eq_1 (And.intro @jj7.eq_1 (And.intro @jsD.eq_1 (And.intro @jmR.eq_1 (And.intro @jnW.eq_1 (And.intro @kbr.eq_1 (And.intro @kbP.eq_1 (And.intro @kbN.eq_1 (And.intro @kLb.eq_1 (And.intro @kF2.eq_1 (And.intro @kFN.eq_1 (And.intro @kIN.eq_1 (And.intro @kIP.eq_1 (And.intro @jte.eq_1 (And.intro @jqx.eq_1 (And.intro @jf1.eq_1 (And.intro @jrz.eq_1 (And.intro @jiR.eq_1 (And.intro @jry.eq_1 (And.intro @jiL.eq_1 (And.intro @jjO.eq_1 (And.intro @jb4.eq_1 (And.intro @jjI.eq_1 (And.intro @jfC.eq_1 (And.intro @jlB.eq_1 (And.intro @e_0.eq_1 (And.intro @e_1.eq_1 (And.intro @e_2.eq_1 (And.intro @e_3.eq_1 (And.intro @e_4.eq_1 (And.intro @e_6.eq_1 (And.intro @e_5.eq_1 (And.intro @e_8.eq_1 (And.intro @e_7.eq_1 (And.intro @jwb.eq_1 (And.intro @juq.eq_1 (And.intro @e_9.eq_1 (And.intro @jwc.eq_1 (And.intro @jur.eq_1 (And.intro @jus.eq_1 (And.intro @jwd.eq_1 (And.intro @jwe.eq_1 (And.intro @jut.eq_1 (And.intro @jwf.eq_1 (And.intro @jwg.eq_1 (And.intro @jwh.eq_1 (And.intro @jwi.eq_1 (And.intro @jwk.eq_1 (And.intro @jwj.eq_1 (And.intro @jwl.eq_1 (And.intro @jwm.eq_1 (And.intro @jwn.eq_1 (And.intro @jwo.eq_1 (And.intro @jwp.eq_1 (And.intro @jwq.eq_1 (And.intro @jwr.eq_1 (And.intro @jws.eq_1 (And.intro @jwu.eq_1 (And.intro @jwt.eq_1 (@jwv.eq_1))))))))))))))))))))))))))))))))))))))))))))))))))))))))))))))))))))))))))))))))))))))))))))):=And.intro @jbJ.eq_1 (And.intro @jie.eq_1 (And.intro @jgU.eq_1 (And.intro @jcK.eq_1 (And.intro @jhK.eq_1 (And.intro @kLN.eq_1 (And.intro @jg2.eq_1 (And.intro @jhm.eq_1 (And.intro @kGT.eq_1 (And.intro @kGF.eq_1 (And.intro @jiN.eq_1 (And.intro @jjf.eq_1 (And.intro @kF.eq_1 (And.intro @jiD.eq_1 (And.intro @kfn.eq_1 (And.intro @jlM.eq_1 (And.intro @kHD.eq_1 (And.intro @kHR.eq_1 (And.intro @kIx.eq_1 (And.intro @kB.eq_1 (And.intro @kRN.eq_1 (And.intro @kRG.eq_1 (And.intro @kIS.eq_1 (And.intro @kSl.eq_1 (And.intro @kMk.eq_1 (And.intro @kRs.eq_1 (And.intro @kLS.eq_1 (And.intro @jeV.eq_1 (And.intro @jjg.eq_1 (And.intro @jlF.eq_1 (And.intro @jnU.eq_1 (And.intro @joQ.eq_1 (And.intro @jk8.eq_1 (And.intro @jnV.eq_1 (And.intro @jj7.eq_1 (And.intro @jsD.eq_1 (And.intro @jmR.eq_1 (And.intro @jnW.eq_1 (And.intro @kbr.eq_1 (And.intro @kbP.eq_1 (And.intro @kbN.eq_1 (And.intro @kLb.eq_1 (And.intro @kF2.eq_1 (And.intro @kFN.eq_1 (And.intro @kIN.eq_1 (And.intro @kIP.eq_1 (And.intro @jte.eq_1 (And.intro @jqx.eq_1 (And.intro @jf1.eq_1 (And.intro @jrz.eq_1 (And.intro @jiR.eq_1 (And.intro @jry.eq_1 (And.intro @jiL.eq_1 (And.intro @jjO.eq_1 (And.intro @jb4.eq_1 (And.intro @jjI.eq_1 (And.intro @jfC.eq_1 (And.intro @jlB.eq_1 (And.intro @e_0.eq_1 (And.intro @e_1.eq_1 (And.intro @e_2.eq_1 (And.intro @e_3.eq_1 (And.intro @e_4.eq_1 (And.intro @e_6.eq_1 (And.intro @e_5.eq_1 (And.intro @e_8.eq_1 (And.intro @e_7.eq_1 (And.intro @jwb.eq_1 (And.intro @juq.eq_1 (And.intro @e_9.eq_1 (And.intro @jwc.eq_1 (And.intro @jur.eq_1 (And.intro @jus.eq_1 (And.intro @jwd.eq_1 (And.intro @jwe.eq_1 (And.intro @jut.eq_1 (And.intro @jwf.eq_1 (And.intro @jwg.eq_1 (And.intro @jwh.eq_1 (And.intro @jwi.eq_1 (And.intro @jwk.eq_1 (And.intro @jwj.eq_1 (And.intro @jwl.eq_1 (And.intro @jwm.eq_1 (And.intro @jwn.eq_1 (And.intro @jwo.eq_1 (And.intro @jwp.eq_1 (And.intro @jwq.eq_1 (And.intro @jwr.eq_1 (And.intro @jws.eq_1 (And.intro @jwu.eq_1 (And.intro @jwt.eq_1 (@jwv.eq_1))))))))))))))))))))))))))))))))))))))))))))))))))))))))))))))))))))))))))))))))))))))))))))
theorem jyc(r0:Xc):jro r0=extRun K (MM K) (Go.Proofs.YtocncngbocomhaaGreatDoor.Abs.sfE 3) [V.row 0,V.fn 113 []] [.row 3 r0]:=jia rfl
theorem jxd(r0:Xc):jp0 r0=jeD [V.row 0] [.row 1 r0]:=Eq.trans (jia (x:=jhg) rfl) rfl
theorem jAt:G 100 []=jb4 (A.sl 1 [[sv [116,114,117,101]],[sv [102,97,108,115,101]],[sv [116,114,117,116,104]],[sv [98,111,116,104]],[sv [101,105,116,104,101,114]],[sv [105,102]],[sv [97,108,108]],[sv [115,111,109,101]]]):=gq Tryz.func100
theorem jAu:G 103 [a,b]=kbr (vb false) ((jep .u32 a).bind λa=>(jep .u32 b).bind λb=>kF2 137 [a,b] λa b=>(jep .u64 a).bind λa=>(jep .u64 b).bind λb=>jb4 (A.tup [a,b])) (kF2 138 [a,b] λa b=>jb4 (A.tup [a,b])):=gq Tryz.func103
theorem jAv:G 104 [a,b,c]=kbr a (jb4 (vi 1)) ((DX.run K (MM K) (.callc b [] false)).bind λa=>kbr a (jb4 (vi 2)) ((DX.run K (MM K) (.callc c [] false)).bind λa=>kbr a (jb4 (vi 3)) (jb4 (vi 0)))):=gq Tryz.func104
theorem jzq:G 105 [a,b,c]=kLN 3 a λa=>kLN 2 b λb=>kLN 2 c λc=>kF 106 [a,b,c] λa=>jb4 a:=gq Tryz.func105
theorem jzr:G 106 [a,b,c]=jbJ 3 a λa=>jbJ 2 b λb=>jbJ 2 c λc=>kF 139 [jfC c] λd=>jhK d λe=>jnu d e (vi 0) (kG a 0) (kG a 1) (kG a 2) (kG b 0) (kG b 1) (kG c 0) (kG c 1):=gq Tryz.func106
theorem jrB:jnu a b c d e f g h i j=jf1 c b (kIP 1 a c λk=>kF 140 [A.agg [g,h],k] λl=>kF 140 [A.agg [i,j],k] λk=>jf1 l k (jb4 (vb false)) (jeV c (vi 1) λc=>jnu a b c d e f g h i j)) (kF 141 [A.agg [d,e,f],A.agg [g,h]] λa=>kF 141 [A.agg [d,e,f],A.agg [i,j]] λb=>jj7 a b λc=>jcK c false λ_=>jjf c 48 [A.agg [g,h]] λk=>jgU c (vb true) k λc=>jcK c false λ_=>jjf c 48 [A.agg [i,j]] λk=>kbP c (vb true) k (jnU a b λa=>jb4 a) (kF 142 [A.agg [d,e,f],A.agg [i,j],A.agg [g,h]] λa=>kbr a (jb4 (vb true)) (kF 143 [A.agg [g,h],A.agg [i,j]] λa=>jie a 0 λb=>jie a 1 λc=>jie a 2 λa=>jbJ 2 b λb=>jbJ 2 c λc=>jcK a true λ_=>jcK a true λ_=>jcK a true λ_=>jiN a 106 [A.agg [d,e,f],jfC b,jfC c] λb=>jgU a b (vb false) λa=>jb4 a))):=hq Tryz.func106
theorem jzs:G 107 [a,b,c]=kLN 3 a λa=>kLN 2 b λb=>kLN 2 c λc=>kF 106 [a,b,c] λa=>jb4 a:=gq Tryz.func107
theorem jAw:G 109 [a,b]=jhK a λc=>jph a b c (vi 0):=gq Tryz.func109
theorem juD:jph a b c d=jf1 d c (kIP 1 a d λe=>jiL b e (jb4 d) (jeV d (vi 1) λd=>jph a b c d)) (jb4 (vi (- 1))):=hq Tryz.func109
theorem jy5:jpX a b p=brn (ZO a) ((jkX b p).bind λa=>kHD a 0 λb=>kHR 66 a 1 λa=>some (A.top,[b,A.sl 66 a])) none:=vq Tryz.func10
theorem jAx:G 110 [a,b]=jbJ 2 b λb=>kF 140 [jfC b,a] λa=>jnU a (vi 0) λa=>jb4 a:=gq Tryz.func110
theorem jAy:G 111 [a]=jbJ 1 a λa=>jhK (kG a 0) λb=>jpi (kG a 0) b (vi 0) (kG a 0):=gq Tryz.func111
theorem juE:jpi a b c d=jf1 c b (kIN 3 3 a c λe=>jbJ 3 e λe=>kFN 96 [kG e 0] λf=>jhm f c λg=>kGF f (jgm .gtr false g (vi 0)) λg=>jhm f g λg=>jcK g true λ_=>jg2 g (kG e 0) λh=>jcK g true λ_=>jg2 g d λi=>jg2 g c λj=>kGT g (jgm .sub false j (vi 1)) λj=>kGT g (zP 3 i j) λi=>kGT g (jgl i 0) λi=>kGT g (jb7 i) λi=>kGT g (jgm .leq false h i) λh=>kGF f (jfS g h (vb false)) λg=>jgU f (vb true) g λf=>jcK f false λ_=>jcK f false λ_=>jjf f 69 [A.agg [kG e 1,kG e 2]] λg=>kGF f (pUn .not g) λg=>jgU f (vb true) g λf=>jcK f false λ_=>jcK f false λ_=>jhm f (kG e 1) λg=>jcK f false λ_=>jhm f (kG e 0) λe=>kGF f (jgm .eql false g e) λe=>kbP f (vb true) e (jb4 (vb false)) (jeV c (vi 1) λc=>jpi a b c d)) (jhK d λa=>joQ a (vi 12) λa=>jb4 a):=hq Tryz.func111
theorem jAz:G 113 [a,b]=jbJ 3 a λa=>jbJ 3 b λb=>kF 114 [kG a 0,kG b 0] λa=>jb4 a:=gq Tryz.func113
theorem jAA:G 114 [a,b]=kF 146 [a] λc=>kF 146 [b] λd=>kbr c (kbr d (jb4 (vi 0)) (jb4 (vi (- 1)))) (kbr d (jb4 (vi 1)) (jf1 a b (jb4 (vi (- 1))) (jiR a b (jb4 (vi 1)) (jb4 (vi 0))))):=gq Tryz.func114
theorem jAB:G 115 [a,b,c]=jhK a λd=>jnv a b c d (vi 0) d:=gq Tryz.func115
theorem juF:jnv a b c d e f=jf1 e f (jeV e f λg=>(jep .u64 g).bind λg=>jmR g (A.val (.int .u64 1)) λg=>(jep .i64 g).bind λg=>kIN 3 3 a g λh=>(DX.run K (MM K) (.callc c [h,b] false)).bind λh=>jf1 h (vi 0) (jeV g (vi 1) λe=>jnv a b c d e f) (jnv a b c d e g)) (jk8 e d λd=>jg2 d c λc=>jg2 d a λa=>jg2 d e λf=>kGT d (zP 3 a f) λa=>kGT d (jb6 3 a) λa=>jg2 d b λb=>kGT d (DX.run K (MM K) (.callc c [a,b] false)) λa=>kGT d (jgm .eql false a (vi 0)) λa=>jgU d a (vb false) λa=>jb4 (A.tup [e,a])):=hq Tryz.func115
theorem jAC:G 116 [a,b]=jbJ 3 a λa=>kF 114 [kG a 0,b] λa=>jb4 a:=gq Tryz.func116
theorem jyd:jpf a=jhK a λb=>jiL b (vi 0) (some (A.top,[A.sl 2 []])) (jhK a λb=>kMk 40 b b λb=>jhK a λc=>jlZ a c (vi 0) (jb9 b [sv [],A.sl 2 []])):=vq Tryz.func117
theorem jqA:jlZ a b c p=jf1 c b (kIN 2 2 a c λd=>jbJ 2 d λd=>kF 81 [jfC d] λd=>kIx (JL p) c λe=>jbJ 2 d λd=>kRG p e λf=>jeV c (vi 1) λc=>jlZ a b c (jal p e (Z4 f 0 [kG d 0,kG d 1]))) (some (A.top,[A.sl 2 p])):=hq Tryz.func117
theorem jAD:G 118 [a,b]=jiR a b (jb4 a) (jb4 b):=gq Tryz.func118
theorem jAE:G 119 [a,b]=jbJ 3 a λa=>jbJ 2 b λb=>kFN 31 [kG b 0] λc=>jcK c true λ_=>jcK c true λ_=>jg2 c (kG b 0) λd=>jiN c 147 [jlB a,d] λd=>kGT c (jgm .lss false d (vi 0)) λd=>kbP c d (vb false) (jb4 (vb false)) (jpj (vi 0) (kG a 0) (kG a 1) (kG a 2) (kG b 0) (kG b 1)):=gq Tryz.func119
theorem juG:jpj a b c d e f=kLb a f (kIN 2 2 f a λg=>kF 119 [A.agg [b,c,d],g] λg=>kbN g (jb4 (vb false)) (jeV a (vi 1) λa=>jpj a b c d e f)) (jb4 (vb true)):=hq Tryz.func119
theorem jxb:jkX a p=jl0 a (vi 0) p:=vq Tryz.func11
theorem jnm:jl0 a b p=jf1 b (jdt p) (kF 28 [a] λc=>kIx (JL p) b λd=>brn (ZO c) (brn (jir c) (kRG p d λe=>brn (jhk e 0 1) (jeV a (vi 1) λa=>kIx (JL (jal p d (Z4 e 0 [c]))) b λf=>kRG (jal p d (Z4 e 0 [c])) f λg=>brn (jed (kG g 1)) (kRG (jal p d (Z4 e 0 [c])) f λg=>kRs 2 (kG g 1) λh=>(jkX a h).bind λa=>kHD a 0 λh=>kHR 66 a 1 λa=>jeV b (vi 1) λb=>jl0 h b (jal (jal p d (Z4 e 0 [c])) f (Z4 g 1 [A.sl 2 a]))) none) none) none) none) (some (A.top,[a,A.sl 66 p])):=hq Tryz.func11
theorem g12:G 12 [a,b]=jr2 a b (vi 0):=gq Tryz.func12
theorem jxg:jr2 a b c=kLb c a (jqx 2 a c 0 λd=>kF 28 [b] λe=>jjO d e (jb4 (vi (- 1))) (jeV b (vi 1) λb=>jqx 2 a c 1 λd=>kF 12 [d,b] λb=>jf1 b (vi 0) (jb4 (vi (- 1))) (jeV c (vi 1) λc=>jr2 a b c))) (jb4 b):=hq Tryz.func12
theorem jAF:G 120 [a,b]=jbJ 2 a λa=>jbJ 2 b λb=>kF 93 [jfC b] λc=>jpk c (vi 0) (kG a 0) (kG a 1) (kG b 0) (kG b 1):=gq Tryz.func120
theorem juH:jpk a b c d e f=kLb b a (kIP 1 a b λg=>kF 148 [A.agg [c,d],g] λg=>kIP 1 a b λh=>kF 148 [A.agg [e,f],h] λh=>jf1 g h (jb4 (vb false)) (jeV b (vi 1) λb=>jpk a b c d e f)) (jb4 (vb true)):=hq Tryz.func120
theorem jAG:G 121 [a,b]=jbJ 3 a λa=>jbJ 2 b λb=>kF 31 [kG b 0] λc=>kbN c (kF 147 [jlB a,kG b 0] λc=>kIP 1 (kG a 1) c λc=>jnw c (vi 0) (kG a 0) (kG a 1) (kG a 2) (kG b 0) (kG b 1)) (jnw (kG a 2) (vi 0) (kG a 0) (kG a 1) (kG a 2) (kG b 0) (kG b 1)):=gq Tryz.func121
theorem juI:jnw a b c d e f g=kLb b g (kIN 2 2 g b λh=>kF 121 [A.agg [c,d,e],h] λh=>jeV a h λa=>jeV b (vi 1) λb=>jnw a b c d e f g) (jb4 a):=hq Tryz.func121
theorem jAH:G 122 [a,b,c]=jbJ 3 a λa=>jbJ 2 b λb=>jbJ 2 c λc=>kF 147 [jlB a,kG b 0] λd=>kF 147 [jlB a,kG c 0] λa=>jiL d a (jhK (kG b 1) λa=>jhK (kG c 1) λb=>jf1 a b (jb4 (vi (- 1))) (jiR a b (jb4 (vi 1)) (jb4 (vi 0)))) (jf1 d a (jb4 (vi (- 1))) (jiR d a (jb4 (vi 1)) (jb4 (vi 0)))):=gq Tryz.func122
theorem jAI:G 123 [a,b]=jbJ 2 a λa=>jbJ 2 b λb=>jnx (vi 0) (kG a 0) (kG a 1) (kG b 0) (kG b 1):=gq Tryz.func123
theorem juJ:jnx a b c d e=kLb a c (kIN 2 2 c a λf=>kIN 2 2 e a λg=>kF 19 [f,g] λf=>kbN f (jb4 a) (jeV a (vi 1) λa=>jnx a b c d e)) (jb4 (vi (- 1))):=hq Tryz.func123
theorem jAJ:G 124 [a,b]=jbJ 2 b λb=>kF 31 [kG b 0] λc=>kbr c (kF 86 [a,kG b 0] λa=>jb4 a) (jpl a (vi 0) (kG b 0) (kG b 1)):=gq Tryz.func124
theorem juK:jpl a b c d=kLb b d (kIN 2 2 d b λe=>kF 124 [a,e] λa=>jeV b (vi 1) λb=>jpl a b c d) (jb4 a):=hq Tryz.func124
theorem jAK:G 125 [a,b]=jbJ 1 a λa=>jbJ 1 b λb=>jpm (vi 0) (kG a 0) (kG b 0) [] []:=gq Tryz.func125
theorem juL:jpm a b c p q=kLb a b (jqx 3 b a 0 λd=>jte 2 3 b a 1 λe=>(G 37 [A.agg [c],e]).bind λe=>jiD e λe=>(jr1 d e q).bind λd=>kHR 3 d 0 λd=>jeV a (vi 1) λa=>jpm a b c p d) (jny (vi 0) b c p q):=hq Tryz.func125
theorem juM:jny a b c p q=kLb a c (jqx 3 c a 0 λd=>kF 66 [A.agg [b],d] λd=>jf1 d (vi 0) (jqx 3 c a 0 λd=>jte 2 3 c a 1 λe=>(jr1 d e q).bind λd=>kHR 3 d 0 λd=>jeV a (vi 1) λa=>jny a b c p d) (jeV a (vi 1) λa=>jny a b c p q)) (jb4 (A.agg [A.sl 3 q])):=hq Tryz.func125
theorem g13:G 13 [a,b]=jhK a λc=>jnW b c λb=>jf1 b (vi 0) (jb4 (vi (- 1))) (jp1 a b (vi 0)):=gq Tryz.func13
theorem jxh:jp1 a b c=kLb c a (kIN 2 2 a c λd=>kF 4 [d,b] λb=>jf1 b (vi 0) (jb4 (vi (- 1))) (jeV c (vi 1) λc=>jp1 a b c)) (jb4 b):=hq Tryz.func13
theorem jAL:G 138 [a,b]=(jgm .and false a (A.val (.int .u64 4294967295))).bind λc=>jmR a (A.val (.int .u64 32)) λd=>(jgm .and false b (A.val (.int .u64 4294967295))).bind λe=>jmR b (A.val (.int .u64 32)) λf=>jnV c e λg=>jnV d e λe=>jmR g (A.val (.int .u64 32)) λg=>jeV e g λe=>(jgm .and false e (A.val (.int .u64 4294967295))).bind λg=>jmR e (A.val (.int .u64 32)) λe=>jnV c f λc=>jeV g c λc=>jnV d f λd=>jeV d e λd=>jmR c (A.val (.int .u64 32)) λc=>jeV d c λc=>jnV a b λa=>jb4 (A.tup [c,a]):=gq Tryz.func138
theorem jAM:G 139 [a]=jbJ 2 a λa=>(jlW (kG a 0) (kG a 1) []).bind λa=>kHR 1 a 0 λa=>(jp0 a).bind λa=>kHR 1 a 0 λa=>jb4 (A.sl 1 a):=gq Tryz.func139
theorem g14:G 14 [a]=jbJ 2 a λa=>kF 29 [jfC a] λb=>jcK b true λ_=>jg2 b (kG a 0) λc=>kGT b (jgm .eql false c (sv [61])) λc=>jgU b c (vb false) λb=>jcK b true λ_=>jg2 b (kG a 1) λc=>kGT b (zP 2 c (vi 0)) λc=>kGT b (jb6 2 c) λc=>jcK b true λ_=>jg2 b (kG a 1) λa=>kGT b (zP 2 a (vi 1)) λa=>kGT b (jb6 2 a) λa=>jiN b 30 [c,a] λa=>kGT b (jgm .eql false a (vi 2)) λa=>jgU b a (vb false) λa=>jb4 a:=gq Tryz.func14
theorem jAN:G 140 [a,b]=jbJ 2 a λa=>jiL (kG a 0) b (jhK (kG a 1) λc=>jnz b (vi 1) (kG a 1) c (vi 0)) (jhK (kG a 1) λc=>jnz b (vi 0) (kG a 1) c (vi 0)):=gq Tryz.func140
theorem juN:jnz a b c d e=jf1 e d (kIN 2 2 c e λf=>jbJ 2 f λf=>kF 140 [jfC f,a] λf=>jeV b f λb=>jeV e (vi 1) λe=>jnz a b c d e) (jb4 b):=hq Tryz.func140
theorem jAO:G 141 [a,b]=jbJ 3 a λa=>jbJ 2 b λb=>kF 48 [jfC b] λc=>kbr c (jb4 (kG a 2)) (kF 109 [kG a 0,kG b 0] λc=>kIP 1 (kG a 1) c λc=>jhK (kG b 1) λd=>jpn c (kG b 1) d (vi 0) (kG a 0) (kG a 1) (kG a 2)):=gq Tryz.func141
theorem juO:jpn a b c d e f g=jf1 d c (kIN 2 2 b d λh=>jbJ 2 h λh=>kF 141 [A.agg [e,f,g],jfC h] λh=>jeV a h λa=>jeV d (vi 1) λd=>jpn a b c d e f g) (jb4 a):=hq Tryz.func141
theorem jAP:G 142 [a,b,c]=jbJ 3 a λa=>jbJ 2 b λb=>jbJ 2 c λc=>kF 109 [kG a 0,kG b 0] λd=>kF 109 [kG a 0,kG c 0] λa=>jk8 d a λe=>jhm e d λd=>jhm e a λa=>kGF e (jgm .eql false d a) λa=>jhm e a λa=>jcK a true λ_=>jg2 a (kG b 1) λb=>kGT a (jfQ b) λb=>jcK a true λ_=>jg2 a (kG c 1) λc=>kGT a (jfQ c) λc=>kGT a (jgm .lss false b c) λb=>kGF e (jfS a b (vb false)) λa=>jgU e (vb true) a λa=>jb4 a:=gq Tryz.func142
theorem jzt:G 143 [a,b]=jbJ 2 a λa=>jbJ 2 b λb=>jj7 (kG a 0) (kG b 0) λc=>jcK c false λ_=>jhm c (kG a 1) λd=>kGF c (jfQ d) λd=>jcK c false λ_=>jhm c (kG b 1) λe=>kGF c (jfQ e) λe=>kGF c (jgm .neq false d e) λd=>kbP c (vb true) d (jb4 (A.tup [A.agg [sv [],A.sl 2 []],A.agg [sv [],A.sl 2 []],vb false])) (jhK (kG a 1) λc=>jpo (kG a 1) c (vi 0) (kG b 0) (kG b 1) (sv []) (sv []) [] []):=gq Tryz.func143
theorem juP:jpo a b c d e f g p q=jf1 c b (kIN 2 2 a c λh=>jbJ 2 h λh=>kIN 2 2 e c λi=>kF 27 [jfC h,i] λi=>kbN i (kIN 2 2 e c λa=>brn (ZO (kG h 0)) (brn (ZO (kG h 1)) (jbJ 2 a λa=>jb4 (A.tup [jfC h,jfC a,vb true])) none) none) (jeV c (vi 1) λc=>jpo a b c d e f g p q)) (jb4 (A.tup [A.agg [sv [],A.sl 2 []],A.agg [sv [],A.sl 2 []],vb false])):=hq Tryz.func143
theorem jzu:G 146 [a]=jj7 a a λa=>jb4 a:=gq Tryz.func146
theorem jAQ:G 147 [a,b]=jbJ 3 a λa=>jpp b (vi 0) (kG a 0) (kG a 1) (kG a 2):=gq Tryz.func147
theorem juQ:jpp a b c d e=kLb b c (kIP 1 c b λf=>jiL f a (jb4 b) (jeV b (vi 1) λb=>jpp a b c d e)) (jb4 (vi (- 1))):=hq Tryz.func147
theorem jAR:G 148 [a,b]=jbJ 2 a λa=>jiL (kG a 0) b (jnA b (vi 1) (vi 0) (kG a 0) (kG a 1)) (jnA b (vi 0) (vi 0) (kG a 0) (kG a 1)):=gq Tryz.func148
theorem juR:jnA a b c d e=kLb c e (kIN 2 2 e c λf=>kF 148 [f,a] λf=>jeV b f λb=>jeV c (vi 1) λc=>jnA a b c d e) (jb4 b):=hq Tryz.func148
theorem g15:G 15 [a,b,c]=jbJ 2 a λa=>kF 31 [kG a 0] λd=>kbr d (jr3 b c (vi 0) (kG a 0) (kG a 1) (sv []) []) (brn (ZO (kG a 0)) (brn (ZO (kG a 0)) (jr4 b c (vi 0) (kG a 0) (kG a 1) (sv []) (kG a 0) [] []) none) none):=gq Tryz.func15
theorem jxi:jr3 a b c d e f p=kLb c a (kIP 1 a c λg=>jiL g d (kF 32 [c] λa=>jeV b a λa=>e_0 a) (jeV c (vi 1) λc=>jr3 a b c d e f p)) (e_0 d):=hq Tryz.func15
theorem jxj:jr4 a b c d e f g p q=kLb c e (kIN 2 2 e c λh=>(G 15 [h,a,b]).bind λh=>jiD h λh=>jbJ 2 h λh=>brn (jbb ((JL q)+(JL [[kG h 0,kG h 1]])) 40) (jeV c (vi 1) λc=>jr4 a b c d e f g p (jgs q [[kG h 0,kG h 1]])) none) (brn (ZO g) (jb4 (A.agg [g,A.sl 2 q])) none):=hq Tryz.func15
theorem jy6:jrX a b p=brn (ZO a) (brn (ZO b) (kF 31 [a] λc=>kbr c (kfn true (G 33 [A.sl 1 p,a]) λb=>kbr b (some (A.top,[A.sl 1 p])) (e_1 a p)) (jpq (vi 0) a b p)) none) none:=vq Tryz.func16
theorem jwF:jpq a b c p=e_2 a c p b:=hq Tryz.func16
theorem jpA:jm9 a b c p=e_2 a c p b:=hq Tryz.func16
theorem jy7:jtX a p q=brn (ZO a) (kF 31 [a] λb=>kbr b (kfn true (G 33 [A.sl 1 q,a]) λb=>kbr b (some (A.top,[A.sl 2 p,A.sl 1 q])) (brn (ZO a) (brn (jbb ((JL q)+(JL [[a]])) 16) (some (A.top,[A.sl 2 p,A.sl 1 (jgs q [[a]])])) none) none)) (jpr (vi 0) a q p)) none:=vq Tryz.func16
theorem jwG:jpr a b p q=e_3 a q p b:=hq Tryz.func16
theorem jsE:jna a b p q=e_3 a q p b:=hq Tryz.func16
theorem jy8:jpY a p=jbJ 2 a λa=>kF 31 [kG a 0] λb=>kbr b (kfn true (G 33 [A.sl 1 p,kG a 0]) λb=>kbr b (some (A.top,[A.sl 1 p])) (brn (ZO (kG a 0)) (brn (jbb ((JL p)+(JL [[kG a 0]])) 16) (some (A.top,[A.sl 1 (jgs p [[kG a 0]])])) none) none)) (jnb (vi 0) (kG a 0) (kG a 1) p):=vq Tryz.func16
theorem jwH:jnb a b c p=e_4 a c p b:=hq Tryz.func16
theorem jpB:jnc a b c p=e_4 a c p b:=hq Tryz.func16
theorem g17:G 17 [a,b]=jbJ 2 a λa=>(jrY b).bind λc=>kHR 1 c 0 λc=>jr5 b (vi 0) (kG a 0) (kG a 1) [[A.sl 1 c]]:=gq Tryz.func17
theorem jxk:jr5 a b c d p=kLb b d (kIN 2 2 d b λe=>(jrY a).bind λf=>kHR 1 f 0 λf=>brn (ZO b) (brn (jbb ((JL f)+(JL [[b]])) 8) ((G 17 [e,A.sl 1 (jgs f [[b]])]).bind λe=>jiD e λe=>kRs 1 e λe=>brn (jbb ((JL p)+(JL e)) 24) (jeV b (vi 1) λb=>jr5 a b c d (jgs p e)) none) none) none) (jb4 (A.sl 1 p)):=hq Tryz.func17
theorem g18:G 18 [a,b,c]=jbJ 2 a λa=>jbJ 2 b λb=>kIN 2 2 (kG b 1) (vi 0) λd=>kF2 35 [d,c] λd e=>jbJ 2 d λd=>jlM e λe=>jcK e false λ_=>jhm e (kG d 0) λf=>jjf e 31 [f] λf=>kbP e (vb true) f (jb4 (A.tup [A.agg [sv [],A.sl 2 []],vb false])) (kIN 2 2 (kG a 1) (vi 0) λe=>kF2 36 [e,jfC d] λd e=>jbJ 1 d λd=>kbN e (jb4 (A.tup [A.agg [sv [],A.sl 2 []],vb false])) (kIN 2 2 (kG b 1) (vi 0) λe=>kIN 2 2 (kG a 1) (vi 1) λa=>kF 38 [e,c,a] λa=>(G 37 [jjI d,a]).bind λa=>jiD a λa=>kIN 2 2 (kG b 1) (vi 1) λb=>(G 37 [jjI d,b]).bind λb=>jiD b λb=>jbJ 2 a λa=>jbJ 2 b λb=>kfn true (G 29 [A.agg [sv [61],A.sl 2 [[kG a 0,kG a 1],[kG b 0,kG b 1]]]]) λc=>jlM c λc=>jcK c false λ_=>jcK c false λ_=>jcK c false λd=>brn d (kIx (JL [[kG a 0,kG a 1],[kG b 0,kG b 1]]) (vi 0) λd=>kGF c (jfU [[kG a 0,kG a 1],[kG b 0,kG b 1]] d 0 2) λd=>e_5 c a b d) (kGF c (jb6 2 (A.val undef)) λd=>e_5 c a b d))):=gq Tryz.func18
theorem g19:G 19 [a,b]=jbJ 2 a λa=>jbJ 2 b λb=>jj7 (kG a 0) (kG b 0) λc=>jcK c false λ_=>jhm c (kG a 1) λd=>kGF c (jfQ d) λd=>jcK c false λ_=>jhm c (kG b 1) λe=>kGF c (jfQ e) λe=>kGF c (jgm .neq false d e) λd=>kbP c (vb true) d (jb4 (vb false)) (jr6 (vi 0) (kG a 0) (kG a 1) (kG b 0) (kG b 1)):=gq Tryz.func19
theorem jxl:jr6 a b c d e=kLb a c (kIN 2 2 c a λf=>kIN 2 2 e a λg=>kF 19 [f,g] λf=>kbN f (jb4 (vb false)) (jeV a (vi 1) λa=>jr6 a b c d e)) (jb4 (vb true)):=hq Tryz.func19
theorem jy9:jnt a=jhK a λb=>kMk 40 b b λb=>jnd a (vi 0) (jb9 b [sv [],A.sl 2 []]):=vq Tryz.func20
theorem jsF:jnd a b p=kLb b a (kIN 2 2 a b λc=>(jv2 c).bind λc=>kHD c 0 λd=>kHR 66 c 1 λc=>kIx (JL p) b λe=>brn (ZO d) (brn (jir d) (kRG p e λf=>jeV b (vi 1) λb=>jnd a b (jal p e (Z4 f 0 [d,A.sl 2 c]))) none) none) (some (A.top,[A.sl 66 p])):=hq Tryz.func20
theorem g21:G 21 [a]=jbJ 2 a λa=>kF 39 [jfC a] λb=>jcK b true λ_=>jiN b 40 [jfC a] λc=>jgU b c (vb false) λb=>jcK b true λ_=>jg2 b (kG a 1) λc=>kGT b (zP 2 c (vi 0)) λc=>kGT b (jb6 2 c) λc=>jcK b true λ_=>jg2 b (kG a 1) λa=>kGT b (zP 2 a (vi 1)) λa=>kGT b (jb6 2 a) λa=>jiN b 41 [c,a] λa=>kGT b (jgm .eql false a (vi 2)) λa=>jgU b a (vb false) λa=>jb4 a:=gq Tryz.func21
theorem g22:G 22 [a,b]=jbJ 2 a λa=>kFN 42 [jfC a] λc=>jhm c b λd=>kGF c (jfR d) λd=>kGF c (jgm .neq false d (vi 1)) λd=>jgU c (vb true) d λc=>jhm c b λd=>kGF c (jaj d (vi 0)) λd=>jjf c 43 [d] λd=>kGF c (pUn .not d) λd=>kbP c (vb true) d (jb4 (A.tup [A.agg [sv [],A.sl 2 []],vb false])) ((jlW (kG a 0) (kG a 1) []).bind λc=>kHR 1 c 0 λc=>(G 45 [A.sl 1 c,b]).bind λb=>jiD b λb=>(joF (jfC a) b).bind λa=>kHD a 0 λb=>kHR 66 a 1 λa=>brn (z6 b) (brn (ZO b) (jb4 (A.tup [A.agg [b,A.sl 2 a],vb true])) none) none):=gq Tryz.func22
theorem jza:jtY a b=jbJ 2 a λa=>kFN 42 [jfC a] λc=>jhm c b λd=>kGF c (jfR d) λd=>kGF c (jgm .neq false d (vi 1)) λd=>jgU c (vb true) d λc=>jhm c b λd=>kGF c (jaj d (vi 0)) λd=>jjf c 43 [d] λd=>kGF c (pUn .not d) λd=>kbP c (vb true) d (some (A.top,[sv [],vb false,A.sl 66 []])) ((jlW (kG a 0) (kG a 1) []).bind λc=>kHR 1 c 0 λc=>(G 45 [A.sl 1 c,b]).bind λb=>jiD b λb=>(joF (jfC a) b).bind λa=>kHD a 0 λb=>kHR 66 a 1 λa=>brn (z6 b) (brn (ZO b) (some (A.top,[b,vb true,A.sl 66 a])) none) none):=vq Tryz.func22
theorem g23:G 23 [a]=jbJ 2 a λa=>jhK (kG a 1) λb=>jp2 (kG a 1) b (vi 0) [[A.sl 1 []]]:=gq Tryz.func23
theorem jxm:jp2 a b c p=jf1 c b (kIN 2 2 a c λd=>jbJ 2 d λd=>kF 23 [jfC d] λd=>jhK d λe=>jr7 c a b c d e (vi 0) p) (jb4 (A.sl 1 p)):=hq Tryz.func23
theorem jxn:jr7 a b c d e f g p=jf1 g f (kIP 1 e g λh=>brn (ZO a) (kRs 1 h λh=>brn (jbb ((JL [[a]])+(JL h)) 8) (brn (jbb ((JL p)+(JL [[A.sl 1 (jgs [[a]] h)]])) 24) (jeV g (vi 1) λg=>jr7 a b c d e f g (jgs p [[A.sl 1 (jgs [[a]] h)]])) none) none) none) (jeV d (vi 1) λa=>jp2 b c a p):=hq Tryz.func23
theorem jzb:jpZ a b c=jbJ 2 a λa=>jbJ 2 b λb=>kIN 2 2 (kG b 1) (vi 0) λd=>kF2 47 [d,c] λd _=>jbJ 2 d λd=>kF 48 [jfC d] λe=>kbr e (some (A.top,[sv [],vb false,A.sl 66 []])) (kIN 2 2 (kG a 1) (vi 0) λe=>kF2 49 [jfC d,e] λd e=>jbJ 1 d λd=>kbN e (some (A.top,[sv [],vb false,A.sl 66 []])) (kIN 2 2 (kG b 1) (vi 0) λe=>kIN 2 2 (kG a 1) (vi 1) λa=>kF 51 [e,c,a] λa=>kF 50 [jjI d,a] λa=>jbJ 2 a λa=>kIN 2 2 (kG b 1) (vi 1) λb=>kF 50 [jjI d,b] λb=>brn (ZO (kG a 0)) (brn (ZO (kG a 1)) (jbJ 2 b λb=>kfn true (G 52 [A.agg [sv [61],A.sl 2 [[kG a 0,kG a 1],[kG b 0,kG b 1]]]]) λc=>jlM c λc=>jcK c false λ_=>jcK c false λ_=>jcK c false λd=>brn d (kIx (JL [[kG a 0,kG a 1],[kG b 0,kG b 1]]) (vi 0) λd=>kGF c (jfU [[kG a 0,kG a 1],[kG b 0,kG b 1]] d 0 2) λd=>e_7 c a b d) (kGF c (jb6 2 (A.val undef)) λd=>e_7 c a b d)) none) none)):=vq Tryz.func24
theorem g25:G 25 [a,b]=kF 53 [a,b] λa=>jlF a (vi 0) λa=>jb4 a:=gq Tryz.func25
theorem g26:G 26 [a,b]=jbJ 2 a λa=>kLN 2 b λb=>kF 27 [jfC a,b] λa=>jb4 a:=gq Tryz.func26
theorem g27:G 27 [a,b]=jbJ 2 a λa=>jbJ 2 b λb=>jjg (kG a 0) (kG b 0) λc=>jcK c true λ_=>jg2 c (kG a 1) λa=>jcK c true λ_=>jg2 c (kG b 1) λb=>jiN c 54 [a,b,A.fn 27 []] λa=>jgU c a (vb false) λa=>jb4 a:=gq Tryz.func27
theorem g28:G 28 [a]=jrz a (vi 0) (jb4 (sv [109,48])) (jr8 a (sv [])):=gq Tryz.func28
theorem jxo:jr8 a b=jiR a (vi 0) ((jgm .rem false a (vi 10)).bind λc=>jeV (vi 48) c λc=>(jep .u8 c).bind λc=>brn (ZO c) ((Ys (A.sl 1 [[c]])).bind λc=>jeV c b λb=>jsD a (vi 10) λa=>jr8 a b) none) (jeV (sv [109]) b λa=>jb4 a):=hq Tryz.func28
theorem g29:G 29 [a]=jbJ 2 a λa=>jiL (kG a 0) (sv [61]) (jhK (kG a 1) λb=>jjg b (vi 2) λb=>jcK b true λ_=>jiN b 55 [jfC a] λc=>jgU b c (vb false) λb=>jcK b true λ_=>jg2 b (kG a 1) λc=>kGT b (zP 2 c (vi 0)) λc=>kGT b (jb6 2 c) λc=>jiN b 56 [c] λc=>jgU b c (vb false) λb=>jcK b true λ_=>jg2 b (kG a 1) λa=>kGT b (zP 2 a (vi 1)) λa=>kGT b (jb6 2 a) λa=>jiN b 56 [a] λa=>jgU b a (vb false) λa=>jb4 a) (kF 57 [kG a 0] λb=>jcK b true λ_=>jiN b 58 [jfC a] λa=>jgU b a (vb false) λa=>jb4 a):=gq Tryz.func29
theorem g3:G 3 [a,b]=jbJ 2 a λa=>jbJ 2 b λb=>kF 4 [jfC a,vi 1048576] λc=>jf1 c (vi 0) (jb4 (vb true)) (kF 4 [jfC b,c] λc=>jf1 c (vi 0) (jb4 (vb true)) ((jot (kG a 0) (kG a 1)).bind λc=>kHD c 0 λd=>kHR 66 c 1 λc=>(jot (kG b 0) (kG b 1)).bind λe=>kHD e 0 λf=>kHR 66 e 1 λe=>(G 5 [A.agg [d,A.sl 2 c],A.agg [f,A.sl 2 e]]).bind λc=>jiD c λc=>jie c 0 λd=>jie c 1 λc=>(jot (kG a 0) (kG a 1)).bind λe=>kHD e 0 λf=>kHR 66 e 1 λe=>brn (ZO f) ((jot (kG b 0) (kG b 1)).bind λg=>kHD g 0 λh=>kHR 66 g 1 λg=>brn (ZO h) ((jv3 (A.agg [f,A.sl 2 e]) (A.agg [h,A.sl 2 g])).bind λi=>kHD i 0 λj=>kHR 66 i 1 λi=>brn (z6 j) (kfn true (G 8 [A.sl 2 i,d]) λk=>jlM k λk=>jhm k j λl=>jhm k c λm=>kGF k (jgm .neq true l m) λl=>kbP k (vb true) l (jb4 (vb false)) ((jot (kG a 0) (kG a 1)).bind λk=>kHD k 0 λl=>kHR 66 k 1 λk=>kfn true (G 9 [A.agg [f,A.sl 2 e],A.agg [l,A.sl 2 k]]) λk=>kbN k (jb4 (vb false)) ((jot (kG b 0) (kG b 1)).bind λk=>kHD k 0 λl=>kHR 66 k 1 λk=>kfn true (G 9 [A.agg [h,A.sl 2 g],A.agg [l,A.sl 2 k]]) λk=>kbN k (jb4 (vb false)) ((jpX f (vi 1) e).bind λe=>kHD e 0 λf=>kHR 66 e 1 λ_=>(jpX h f g).bind λe=>kHD e 0 λf=>kHR 66 e 1 λ_=>jk8 f (vi 0) λe=>jcK e false λ_=>jhm e d λf=>kGF e ((G 8 [A.sl 2 i,f]).bind (fin true)) λf=>kGF e (pUn .not f) λf=>jgU e (vb true) f λe=>jhm e j λf=>jhm e c λg=>kGF e (jgm .neq true f g) λf=>kbP e (vb true) f (jb4 (vb false)) ((jkX (vi 1) i).bind λe=>kHD e 0 λf=>kHR 66 e 1 λe=>kfn true (G 12 [A.sl 2 e,vi 1]) λg=>jf1 g (vi 0) (jb4 (vb false)) (jjO g f (jb4 (vb false)) ((jot (kG a 0) (kG a 1)).bind λa=>kHD a 0 λg=>kHR 66 a 1 λa=>(jot (kG b 0) (kG b 1)).bind λb=>kHD b 0 λh=>kHR 66 b 1 λb=>(jv3 (A.agg [g,A.sl 2 a]) (A.agg [h,A.sl 2 b])).bind λa=>kHD a 0 λb=>kHR 66 a 1 λa=>brn (z6 b) (kfn true (G 8 [A.sl 2 a,d]) λa=>jlM a λa=>jhm a b λb=>jhm a c λc=>kGF a (jgm .neq true b c) λb=>kbP a (vb true) b (jb4 (vb false)) (kfn true (G 12 [A.sl 2 e,vi 1]) λa=>jf1 a (vi 0) (jb4 (vb false)) (jjO a f (jb4 (vb false)) (jb4 (vb true))))) none))))))) none) none) none)):=gq Tryz.func3
theorem g30:G 30 [a,b]=jbJ 2 a λa=>jbJ 2 b λb=>kF 19 [jfC a,jfC b] λc=>kbr c (jb4 (vi 1)) (kF 59 [A.sl 1 [],jfC a] λc=>kF 59 [c,jfC b] λc=>brn (ZO c) (brn (ZO c) (jhK c λd=>jjg d (vi 0) λd=>jcK d false λ_=>jhm d c λe=>kGF d (jfQ e) λe=>kGF d (jgm .gtr false e (vi 12)) λe=>kbP d (vb true) e (jb4 (vi 0)) (jp3 (vi 0) (kG a 0) (kG a 1) (kG b 0) (kG b 1) c (vi 1) [])) none) none):=gq Tryz.func30
theorem jxp:jp3 a b c d e f g p=kLb a f (brn (jbb ((JL p)+(JL [[vi 1]])) 8) (jeV a (vi 1) λa=>jp3 a b c d e f g (jgs p [[vi 1]])) none) (kfn true (G 60 [A.agg [f,A.sl 1 p,g],A.agg [b,c],A.agg [d,e]]) λa=>jie a 0 λb=>jie a 1 λa=>kbN a (jb4 (vi 0)) (jb4 b)):=hq Tryz.func30
theorem g31:G 31 [a]=kLS a λb=>kFN 61 [b,vi 1,vi 4] λb=>jhm b a λc=>kGF b (jaj c (vi 0)) λc=>kGF b (jgm .lss false c (vy 65)) λc=>jgU b (vb true) c λb=>jhm b a λc=>kGF b (jaj c (vi 0)) λc=>kGF b (jgm .gtr false c (vy 90)) λc=>kbP b (vb true) c (jb4 (vb false)) (joH a (vi 1)):=gq Tryz.func31
theorem jxq:joH a b=kLS a λc=>jf1 b c (kIS a b λc=>kF 62 [c] λc=>kbN c (jb4 (vb false)) (jeV b (vi 1) λb=>joH a b)) (jb4 (vb true)):=hq Tryz.func31
theorem g32:G 32 [a]=jf1 a (vi 0) ((pUn .neg a).bind λa=>kF 32 [a] λa=>jeV (sv [45]) a λa=>jb4 a) (jf1 a (vi 10) (jeV a (vi 1) λb=>(ZP (sv [48,49,50,51,52,53,54,55,56,57]) (some a) (some b)).bind λa=>jb4 a) (jsD a (vi 10) λb=>kF 32 [b] λb=>(jgm .rem false a (vi 10)).bind λc=>(jgm .rem false a (vi 10)).bind λa=>jeV a (vi 1) λa=>(ZP (sv [48,49,50,51,52,53,54,55,56,57]) (some c) (some a)).bind λa=>jeV b a λa=>jb4 a)):=gq Tryz.func32
theorem g33:G 33 [a,b]=jr9 a b (vi 0):=gq Tryz.func33
theorem jxr:jr9 a b c=kLb c a (kIP 1 a c λd=>jiL d b (jb4 (vb true)) (jeV c (vi 1) λc=>jr9 a b c)) (jb4 (vb false)):=hq Tryz.func33
theorem jzc:jrY a=kRs 1 a λa=>brn (jbb (JL a) 8) (some (A.top,[A.sl 1 a])) none:=vq Tryz.func34
theorem g35:G 35 [a,b]=jbJ 2 a λa=>jsa b (vi 0) (kG a 0) (kG a 1) (sv []) []:=gq Tryz.func35
theorem jxs:jsa a b c d e p=kLb b a (kIP 1 a b λc=>jhK d λf=>jnW f (vi 1) λf=>kF 61 [c,vi 0,f] λc=>kbN c (jb4 (A.tup [A.agg [sv [],A.sl 2 []],vb false])) (kIP 1 a b λc=>kIN 2 2 d c λc=>jbJ 2 c λc=>jeV b (vi 1) λb=>jsa a b (kG c 0) (kG c 1) e p)) ((G 63 [A.agg [c,d]]).bind λa=>jiD a λa=>jbJ 2 a λa=>jb4 (A.tup [jfC a,vb true])):=hq Tryz.func35
theorem g36:G 36 [a,b]=jbJ 2 a λa=>jbJ 2 b λb=>brn (ZO (kG a 0)) (brn (ZO (kG a 1)) (brn (ZO (kG b 0)) (brn (ZO (kG b 1)) (brn (ZO (kG a 0)) (brn (ZO (kG a 1)) (brn (ZO (kG b 0)) (brn (ZO (kG b 1)) (jt4 [[kG a 0,kG a 1,kG b 0,kG b 1]] [] [] []) none) none) none) none) none) none) none) none:=gq Tryz.func36
theorem jzB:jt4 p q r s=e_9 p s r q:=hq Tryz.func36
theorem juU:jp4 a b p q r s=jiR (nA (nOf b)) (vi 0) (kIx (nOf b) (vi 0) λc=>kRN p ((nOf a)+c) 0 2 λc=>(G 64 [A.agg [A.sl 3 s],c]).bind λc=>jiD c λc=>jie c 0 λd=>jie c 1 λc=>jbJ 2 d λd=>kIx (nOf b) (vi 0) λe=>kRN p ((nOf a)+e) 2 2 λe=>(G 64 [A.agg [A.sl 3 s],e]).bind λe=>jiD e λe=>jie e 0 λf=>jie e 1 λe=>jbJ 2 f λf=>jlM c λc=>jhm c e λe=>kGF c (pUn .not e) λe=>kbP c (vb true) e (jb4 (A.tup [A.agg [A.sl 3 r],vb false])) (kB (nOf b) (jg7 p (nOf a)) none λb=>kB 0 b (some (vi 1)) λc=>kF 19 [jfC d,jfC f] λe=>kbr e (kbN (vb true) (jb4 (A.tup [A.agg [A.sl 3 r],vb false])) (jp4 (nA ((nOf a)+c)) (nA (jhR b c)) p q r s)) (kF 31 [kG d 0] λe=>jcK e true λ_=>jg2 e (kG f 0) λg=>jiN e 31 [g] λg=>jgU e g (vb false) λe=>jcK e true λ_=>jg2 e (kG d 0) λg=>jcK e true λ_=>jg2 e (kG f 0) λh=>kGT e (jgm .lss false g h) λg=>kbP e g (vb false) (jur s f d r a c b p q) (kF 31 [kG d 0] λe=>kbr e (jur s d f r a c b p q) (kF 31 [kG f 0] λe=>kbr e (jur s f d r a c b p q) (jj7 (kG d 0) (kG f 0) λe=>jcK e false λ_=>jhm e (kG d 1) λg=>kGF e (jfQ g) λg=>jcK e false λ_=>jhm e (kG f 1) λh=>kGF e (jfQ h) λh=>kGF e (jgm .neq false g h) λg=>kbP e (vb true) g (jb4 (A.tup [A.agg [A.sl 3 r],vb false])) (jsb (nA ((nOf a)+c)) (nA (jhR b c)) (vb true) (vi 0) (kG d 0) (kG d 1) (kG f 0) (kG f 1) p q r s []))))))) (jb4 (A.tup [A.agg [A.sl 3 s],vb true])):=hq Tryz.func36
theorem juV:jl1 a b c p q r=jiR (nA (nOf b)) (vi 0) (kIx (nOf b) (vi 0) λd=>kRN p ((nOf a)+d) 0 2 λd=>(G 64 [A.agg [c],d]).bind λd=>jiD d λd=>jie d 0 λe=>jie d 1 λd=>jbJ 2 e λe=>kIx (nOf b) (vi 0) λf=>kRN p ((nOf a)+f) 2 2 λf=>(G 64 [A.agg [c],f]).bind λf=>jiD f λf=>jie f 0 λg=>jie f 1 λf=>jbJ 2 g λg=>jlM d λd=>jhm d f λf=>kGF d (pUn .not f) λf=>kbP d (vb true) f (jb4 (A.tup [A.agg [A.sl 3 r],vb false])) (kB (nOf b) (jg7 p (nOf a)) none λb=>kB 0 b (some (vi 1)) λd=>kF 19 [jfC e,jfC g] λf=>kbr f (kbN (vb true) (jb4 (A.tup [A.agg [A.sl 3 r],vb false])) (jl1 (nA ((nOf a)+d)) (nA (jhR b d)) c p q r)) (kF 31 [kG e 0] λf=>jcK f true λ_=>jg2 f (kG g 0) λh=>jiN f 31 [h] λh=>jgU f h (vb false) λf=>jcK f true λ_=>jg2 f (kG e 0) λh=>jcK f true λ_=>jg2 f (kG g 0) λi=>kGT f (jgm .lss false h i) λh=>kbP f h (vb false) (jus c g e r a d b p q) (kF 31 [kG e 0] λf=>kbr f (jus c e g r a d b p q) (kF 31 [kG g 0] λf=>kbr f (jus c g e r a d b p q) (jj7 (kG e 0) (kG g 0) λf=>jcK f false λ_=>jhm f (kG e 1) λh=>kGF f (jfQ h) λh=>jcK f false λ_=>jhm f (kG g 1) λi=>kGF f (jfQ i) λi=>kGF f (jgm .neq false h i) λh=>kbP f (vb true) h (jb4 (A.tup [A.agg [A.sl 3 r],vb false])) (jsc (nA ((nOf a)+d)) (nA (jhR b d)) (vb true) (vi 0) c (kG e 0) (kG e 1) (kG g 0) (kG g 1) p q r []))))))) (brn (ZO c) (jb4 (A.tup [A.agg [c],vb true])) none):=hq Tryz.func36
theorem jzC:jsb a b c d e f g h p q r s t=jwd d f h t a b c e g p q r s:=hq Tryz.func36
theorem jzD:jsc a b c d e f g h i p q r s=jwe d g i s a b c e f h p q r:=hq Tryz.func36
theorem jxt:jt5 a b c d e f g h p q r s t=jwd d f h q a b c e g p r s t:=hq Tryz.func36
theorem juW:jnB p q r s=e_9 p s r q:=hq Tryz.func36
theorem jxu:jt6 a b c d e f g h i p q r s=jwe d g i q a b c e f h p r s:=hq Tryz.func36
theorem jxv:joI a p q r=jiR (jdt p) (vi 0) (kIx (JL p) (vi 0) λb=>kRN p b 0 2 λb=>(G 64 [A.agg [a],b]).bind λb=>jiD b λb=>jie b 0 λc=>jie b 1 λb=>jbJ 2 c λc=>kIx (JL p) (vi 0) λd=>kRN p d 2 2 λd=>(G 64 [A.agg [a],d]).bind λd=>jiD d λd=>jie d 0 λe=>jie d 1 λd=>jbJ 2 e λe=>jlM b λb=>jhm b d λd=>kGF b (pUn .not d) λd=>kbP b (vb true) d (jb4 (A.tup [A.agg [A.sl 3 r],vb false])) (kB (jds p) (jg7 p 0) none λb=>kB 0 b (some (vi 1)) λd=>kF 19 [jfC c,jfC e] λf=>kbr f (kbN (vb true) (jb4 (A.tup [A.agg [A.sl 3 r],vb false])) (jl1 (nA (0+d)) (nA (jhR b d)) a p q r)) (kF 31 [kG c 0] λf=>jcK f true λ_=>jg2 f (kG e 0) λg=>jiN f 31 [g] λg=>jgU f g (vb false) λf=>jcK f true λ_=>jg2 f (kG c 0) λg=>jcK f true λ_=>jg2 f (kG e 0) λh=>kGT f (jgm .lss false g h) λg=>kbP f g (vb false) (jut a e c r d b p q) (kF 31 [kG c 0] λf=>kbr f (jut a c e r d b p q) (kF 31 [kG e 0] λf=>kbr f (jut a e c r d b p q) (jj7 (kG c 0) (kG e 0) λf=>jcK f false λ_=>jhm f (kG c 1) λg=>kGF f (jfQ g) λg=>jcK f false λ_=>jhm f (kG e 1) λh=>kGF f (jfQ h) λh=>kGF f (jgm .neq false g h) λg=>kbP f (vb true) g (jb4 (A.tup [A.agg [A.sl 3 r],vb false])) (jsc (nA (0+d)) (nA (jhR b d)) (vb true) (vi 0) a (kG c 0) (kG c 1) (kG e 0) (kG e 1) p q r []))))))) (brn (ZO a) (jb4 (A.tup [A.agg [a],vb true])) none):=hq Tryz.func36
theorem g37:G 37 [a,b]=jbJ 1 a λa=>jbJ 2 b λb=>kF 31 [kG b 0] λc=>kbr c (kF 66 [jjI a,kG b 0] λc=>jry c (vi 0) (jte 2 3 (kG a 0) c 1 λa=>(G 63 [a]).bind λa=>jiD a λa=>jbJ 2 a λa=>jb4 (jfC a)) (jwf b)) (brn (ZO (kG b 0)) (brn (ZO (kG b 0)) (jsd (vi 0) (kG a 0) (kG b 0) (kG b 1) (sv []) (kG b 0) [] []) none) none):=gq Tryz.func37
theorem jxw:jsd a b c d e f p q=kLb a d (kIN 2 2 d a λg=>(G 37 [A.agg [b],g]).bind λg=>jiD g λg=>jbJ 2 g λg=>brn (jbb ((JL q)+(JL [[kG g 0,kG g 1]])) 40) (jeV a (vi 1) λa=>jsd a b c d e f p (jgs q [[kG g 0,kG g 1]])) none) (brn (ZO f) (jb4 (A.agg [f,A.sl 2 q])) none):=hq Tryz.func37
theorem g38:G 38 [a,b,c]=jbJ 2 a λa=>jbJ 2 c λc=>jhK b λd=>jiL d (vi 0) ((jrZ (kG c 0) (kG c 1)).bind λa=>jwg a) ((jrZ (kG a 0) (kG a 1)).bind λd=>kHD d 0 λe=>kHR 2 d 1 λd=>brn (ZO e) (kIP 1 b (vi 0) λf=>kIP 1 b (vi 0) λg=>kIN 2 2 (kG a 1) g λa=>kSl 1 b (some (vi 1)) none λb=>kF 38 [a,b,jfC c] λa=>jwh d f a e) none):=gq Tryz.func38
theorem g39:G 39 [a]=jbJ 2 a λa=>jjg (kG a 0) (sv [61]) λa=>jb4 a:=gq Tryz.func39
theorem g4:G 4 [a,b]=jbJ 2 a λa=>kLS (kG a 0) λc=>jnW b c λb=>jf1 b (vi 0) (jb4 (vi (- 1))) (kF 13 [kG a 1,b] λa=>jf1 a (vi 0) (jb4 (vi (- 1))) (jb4 a)):=gq Tryz.func4
theorem g40:G 40 [a]=jbJ 2 a λa=>kF 39 [jfC a] λb=>kbr b (jhK (kG a 1) λb=>jjg b (vi 2) λb=>jcK b true λ_=>jiN b 52 [jfC a] λc=>jgU b c (vb false) λb=>jcK b true λ_=>jg2 b (kG a 1) λc=>kGT b (zP 2 c (vi 0)) λc=>kGT b (jb6 2 c) λc=>jiN b 67 [c] λc=>jgU b c (vb false) λb=>jcK b true λ_=>jg2 b (kG a 1) λa=>kGT b (zP 2 a (vi 1)) λa=>kGT b (jb6 2 a) λa=>jiN b 67 [a] λa=>jgU b a (vb false) λa=>jb4 a) (kF 68 [kG a 0] λb=>jcK b true λ_=>jiN b 69 [jfC a] λa=>jgU b a (vb false) λa=>jb4 a):=gq Tryz.func40
theorem g41:G 41 [a,b]=jbJ 2 a λa=>jbJ 2 b λb=>kF 27 [jfC a,jfC b] λc=>kbr c (jb4 (vi 1)) ((jlX (kG a 0) (kG a 1) []).bind λc=>kHR 1 c 0 λc=>(jlX (kG b 0) (kG b 1) c).bind λc=>kHR 1 c 0 λc=>jiR (jdt c) (vi 12) (jb4 (vi 0)) ((jp0 c).bind λc=>kHR 1 c 0 λc=>(jtZ (jdt c) [[vi 1]]).bind λd=>kHR 1 d 0 λd=>kfn true (G 73 [A.agg [A.sl 1 c,A.sl 1 d,vi 1],jfC a,jfC b]) λa=>jb4 a)):=gq Tryz.func41
theorem g42:G 42 [a]=jbJ 2 a λa=>kF 69 [jfC a] λb=>jcK b false λ_=>jjf b 39 [jfC a] λc=>jhm b c λc=>jcK c true λ_=>jiN c 40 [jfC a] λa=>kGF b (jfS c a (vb false)) λa=>jgU b (vb true) a λa=>jb4 a:=gq Tryz.func42
theorem g43:G 43 [a]=jlF a (vy 65) λb=>jg2 b a λa=>kGT b (jgm .leq false a (vy 90)) λa=>jgU b a (vb false) λa=>jb4 a:=gq Tryz.func43
theorem jzd:joF a b=jbJ 2 a λa=>brn (ZO (kG a 0)) (brn (ZO (kG a 0)) ((jcP none true true [sv []] b (kG a 0)).bind λc=>jie c 0 λd=>jie c 1 λc=>jcK c true λ_=>jg2 c (kG a 1) λe=>kGT c (jfQ e) λe=>kGT c (jgm .eql false e (vi 0)) λe=>kbP c e (vb false) (brn (ZO d) (jhK (kG a 1) λc=>jlm b (kG a 1) c (vi 0) (sv []) d [] []) none) (jhK (kG a 1) λc=>jlm b (kG a 1) c (vi 0) (sv []) (kG a 0) [] [])) none) none:=vq Tryz.func44
theorem jpF:jlm a b c d e f p q=jf1 d c (kIN 2 2 b d λg=>jbJ 2 g λg=>(joF (jfC g) a).bind λg=>kHD g 0 λh=>kHR 66 g 1 λg=>brn (z6 h) (brn (ZO h) (brn (jir h) (brn (jbb ((JL q)+(JL [[h,A.sl 2 g]])) 40) (jeV d (vi 1) λd=>jlm a b c d e f p (jgs q [[h,A.sl 2 g]])) none) none) none) none) (brn (ZO f) (some (A.top,[f,A.sl 66 q])) none):=hq Tryz.func44
theorem g45:G 45 [a,b]=jhK a λc=>jse b a c (vi 0) []:=gq Tryz.func45
theorem jxx:jse a b c d p=jf1 d c (kIP 1 b d λe=>kF 74 [d] λf=>jeV a f λf=>(jgq none p e f).bind λe=>jeV d (vi 1) λd=>jse a b c d e) (jb4 (A.mp p)):=hq Tryz.func45
theorem jxc:jlW a b p=brn (ZO a) (brn (ZO b) (jhK b λc=>jjg c (vi 0) λc=>jcK c true λ_=>jiN c 48 [A.agg [a,b]] λd=>kbP c d (vb false) (kfn true (G 75 [A.sl 1 p,a]) λb=>kbN b (e_1 a p) (some (A.top,[A.sl 1 p]))) (jhK b λa=>jl2 b a (vi 0) p)) none) none:=vq Tryz.func46
theorem jsG:jl2 a b c p=jwi c b a p:=hq Tryz.func46
theorem jmf:jl3 a b c p=jwi c b a p:=hq Tryz.func46
theorem g47:G 47 [a,b]=jbJ 2 a λa=>jhK b λc=>jsf b c (vi 0) (kG a 0) (kG a 1) (sv []) []:=gq Tryz.func47
theorem jxy:jsf a b c d e f p=jf1 c b (kIP 1 a c λd=>jhK e λg=>jnW g (vi 1) λg=>kF 76 [d,vi 0,g] λg=>kbN g (jb4 (A.tup [A.agg [sv [],A.sl 2 []],vb false])) (kIN 2 2 e d λd=>jbJ 2 d λd=>jeV c (vi 1) λc=>jsf a b c (kG d 0) (kG d 1) f p)) (brn (ZO d) (brn (ZO e) (jb4 (A.tup [A.agg [d,e],vb true])) none) none):=hq Tryz.func47
theorem g48:G 48 [a]=jbJ 2 a λa=>kIS (kG a 0) (vi 0) λa=>kF 43 [a] λa=>jb4 a:=gq Tryz.func48
theorem g49:G 49 [a,b]=jbJ 2 a λa=>jbJ 2 b λb=>brn (ZO (kG a 0)) (brn (ZO (kG a 1)) (brn (ZO (kG b 0)) (brn (ZO (kG b 1)) (brn (ZO (kG a 0)) (brn (ZO (kG a 1)) (brn (ZO (kG b 0)) (brn (ZO (kG b 1)) (jt7 [[kG a 0,kG a 1,kG b 0,kG b 1]] [] []) none) none) none) none) none) none) none) none:=gq Tryz.func49
theorem jzE:jt7 p q r=jwj p r q:=hq Tryz.func49
theorem juX:jp5 a b p q r=jiR (nA (nOf b)) (vi 0) (kIx (nOf b) (vi 0) λc=>kRN p ((nOf a)+c) 0 2 λc=>(G 77 [A.agg [A.sl 3 r],c]).bind λc=>jiD c λc=>jie c 0 λd=>jie c 1 λc=>jbJ 2 d λd=>kIx (nOf b) (vi 0) λe=>kRN p ((nOf a)+e) 2 2 λe=>(G 77 [A.agg [A.sl 3 r],e]).bind λe=>jiD e λe=>jie e 0 λf=>jie e 1 λe=>jbJ 2 f λf=>kB (nOf b) (jg7 p (nOf a)) none λb=>kB 0 b (some (vi 1)) λg=>jlM c λc=>jhm c e λe=>kGF c (pUn .not e) λe=>kbP c (vb true) e (jb4 (A.tup [A.agg [A.sl 3 []],vb false])) (kF 27 [jfC d,jfC f] λc=>kbr c (jp5 (nA ((nOf a)+g)) (nA (jhR b g)) p q r) (kF 48 [jfC d] λc=>jcK c false λ_=>jjf c 48 [jfC f] λe=>kbP c (vb true) e (brn (ZO (kG d 0)) (brn (ZO (kG d 1)) (brn (ZO (kG f 0)) (brn (ZO (kG f 1)) (kF2 78 [A.agg [kG d 0,kG d 1,kG f 0,kG f 1]] λc d=>jbJ 1 c λc=>kbN d (jb4 (A.tup [A.agg [A.sl 3 []],vb false])) ((G 79 [A.agg [A.sl 3 r],jjI c]).bind λc=>jwl c a g b p q)) none) none) none) none) (jj7 (kG d 0) (kG f 0) λc=>jcK c false λ_=>jhm c (kG d 1) λe=>kGF c (jfQ e) λe=>jcK c false λ_=>jhm c (kG f 1) λh=>kGF c (jfQ h) λh=>kGF c (jgm .neq false e h) λe=>kbP c (vb true) e (jb4 (A.tup [A.agg [A.sl 3 []],vb false])) (jhK (kG d 1) λc=>jsg (nA ((nOf a)+g)) (nA (jhR b g)) (kG d 1) c (vi 0) (kG f 0) (kG f 1) p q r []))))) (jb4 (A.tup [A.agg [A.sl 3 r],vb true])):=hq Tryz.func49
theorem juY:jl4 a b c p q=jiR (nA (nOf b)) (vi 0) (kIx (nOf b) (vi 0) λd=>kRN p ((nOf a)+d) 0 2 λd=>(G 77 [A.agg [c],d]).bind λd=>jiD d λd=>jie d 0 λe=>jie d 1 λd=>jbJ 2 e λe=>kIx (nOf b) (vi 0) λf=>kRN p ((nOf a)+f) 2 2 λf=>(G 77 [A.agg [c],f]).bind λf=>jiD f λf=>jie f 0 λg=>jie f 1 λf=>jbJ 2 g λg=>kB (nOf b) (jg7 p (nOf a)) none λb=>kB 0 b (some (vi 1)) λh=>jlM d λd=>jhm d f λf=>kGF d (pUn .not f) λf=>kbP d (vb true) f (jb4 (A.tup [A.agg [A.sl 3 []],vb false])) (kF 27 [jfC e,jfC g] λd=>kbr d (jl4 (nA ((nOf a)+h)) (nA (jhR b h)) c p q) (kF 48 [jfC e] λd=>jcK d false λ_=>jjf d 48 [jfC g] λf=>kbP d (vb true) f (brn (ZO (kG e 0)) (brn (ZO (kG e 1)) (brn (ZO (kG g 0)) (brn (ZO (kG g 1)) (kF2 78 [A.agg [kG e 0,kG e 1,kG g 0,kG g 1]] λd e=>jbJ 1 d λd=>kbN e (jb4 (A.tup [A.agg [A.sl 3 []],vb false])) ((G 79 [A.agg [c],jjI d]).bind λc=>jwl c a h b p q)) none) none) none) none) (jj7 (kG e 0) (kG g 0) λd=>jcK d false λ_=>jhm d (kG e 1) λf=>kGF d (jfQ f) λf=>jcK d false λ_=>jhm d (kG g 1) λi=>kGF d (jfQ i) λi=>kGF d (jgm .neq false f i) λf=>kbP d (vb true) f (jb4 (A.tup [A.agg [A.sl 3 []],vb false])) (jhK (kG e 1) λd=>jsh (nA ((nOf a)+h)) (nA (jhR b h)) (kG e 1) d (vi 0) c (kG g 0) (kG g 1) p q []))))) (brn (ZO c) (jb4 (A.tup [A.agg [c],vb true])) none):=hq Tryz.func49
theorem jzF:jsg a b c d e f g p q r s=jwm e d c g s a b f p q r:=hq Tryz.func49
theorem jzG:jsh a b c d e f g h p q r=jwn e d c h r a b f g p q:=hq Tryz.func49
theorem jxz:jt8 a b c d e f g p q r s=jwm e d c g q a b f p r s:=hq Tryz.func49
theorem juZ:jnC p q r=jwj p r q:=hq Tryz.func49
theorem jxA:jt9 a b c d e f g h p q r=jwn e d c h q a b f g p r:=hq Tryz.func49
theorem jxB:joJ a p q=jiR (jdt p) (vi 0) (kIx (JL p) (vi 0) λb=>kRN p b 0 2 λb=>(G 77 [A.agg [a],b]).bind λb=>jiD b λb=>jie b 0 λc=>jie b 1 λb=>jbJ 2 c λc=>kIx (JL p) (vi 0) λd=>kRN p d 2 2 λd=>(G 77 [A.agg [a],d]).bind λd=>jiD d λd=>jie d 0 λe=>jie d 1 λd=>jbJ 2 e λe=>kB (jds p) (jg7 p 0) none λf=>kB 0 f (some (vi 1)) λg=>jlM b λb=>jhm b d λd=>kGF b (pUn .not d) λd=>kbP b (vb true) d (jb4 (A.tup [A.agg [A.sl 3 []],vb false])) (kF 27 [jfC c,jfC e] λb=>kbr b (jl4 (nA (0+g)) (nA (jhR f g)) a p q) (kF 48 [jfC c] λb=>jcK b false λ_=>jjf b 48 [jfC e] λd=>kbP b (vb true) d (brn (ZO (kG c 0)) (brn (ZO (kG c 1)) (brn (ZO (kG e 0)) (brn (ZO (kG e 1)) (kF2 78 [A.agg [kG c 0,kG c 1,kG e 0,kG e 1]] λb c=>jbJ 1 b λb=>kbN c (jb4 (A.tup [A.agg [A.sl 3 []],vb false])) ((G 79 [A.agg [a],jjI b]).bind λa=>jwk a g f p q)) none) none) none) none) (jj7 (kG c 0) (kG e 0) λb=>jcK b false λ_=>jhm b (kG c 1) λd=>kGF b (jfQ d) λd=>jcK b false λ_=>jhm b (kG e 1) λh=>kGF b (jfQ h) λh=>kGF b (jgm .neq false d h) λd=>kbP b (vb true) d (jb4 (A.tup [A.agg [A.sl 3 []],vb false])) (jhK (kG c 1) λb=>jsh (nA (0+g)) (nA (jhR f g)) (kG c 1) b (vi 0) a (kG e 0) (kG e 1) p q []))))) (brn (ZO a) (jb4 (A.tup [A.agg [a],vb true])) none):=hq Tryz.func49
theorem g5:G 5 [a,b]=jbJ 2 a λa=>jbJ 2 b λb=>kFN 14 [jfC a] λc=>jcK c false λ_=>jjf c 14 [jfC b] λd=>kGF c (pUn .not d) λd=>kbP c (vb true) d (jb4 (A.tup [A.sl 2 [],vb false])) ((jrX (kG a 0) (kG a 1) []).bind λc=>kHR 1 c 0 λc=>(G 15 [jfC a,A.sl 1 c,sv [65]]).bind λa=>jiD a λa=>(jrX (kG b 0) (kG b 1) []).bind λc=>kHR 1 c 0 λc=>(G 15 [jfC b,A.sl 1 c,sv [66]]).bind λb=>jiD b λb=>jbJ 2 a λa=>jbJ 2 b λb=>kIN 2 2 (kG b 1) (vi 0) λc=>(G 17 [c,A.sl 1 []]).bind λc=>jiD c λc=>jx7 c (vi 0) (kG a 0) (kG a 1) (kG b 0) (kG b 1) []):=gq Tryz.func5
theorem jAX:jx7 a b c d e f p=jwo b a c d e f p:=hq Tryz.func5
theorem jwI:juc a b c d e f g h i j p=jk8 d (jdt p) λk=>jg2 k c λl=>kbP k l (vb false) (kIx (JL p) d λc=>kRN p c 0 2 λc=>kFN 19 [c,A.agg [i,j]] λc=>jeV d (vi 1) λd=>juc a b c d e f g h i j p) (kbr c (brn (ZO i) (brn (ZO j) (brn (jbb ((JL p)+(JL [[i,j]])) 40) (jeV b (vi 1) λb=>jp7 a b e f g h (jgs p [[i,j]])) none) none) none) (jeV b (vi 1) λb=>jp7 a b e f g h p)):=hq Tryz.func5
theorem jyr:jp7 a b c d e f p=jwo b a c d e f p:=hq Tryz.func5
theorem g50:G 50 [a,b]=jbJ 1 a λa=>jbJ 2 b λb=>jhK (kG b 1) λc=>jiL c (vi 0) (kF2 80 [jjI a,kG b 0] λa c=>jbJ 2 a λa=>kbr c (kF 81 [jfC a] λa=>jbJ 2 a λa=>jb4 (jfC a)) (jwf b)) (jhK (kG b 1) λc=>kMk 40 c c λc=>brn (ZO (kG b 0)) (brn (ZO (kG b 0)) (jhK (kG b 1) λd=>jua (kG b 1) d (vi 0) (kG a 0) (sv []) (kG b 0) (jb9 c [sv [],A.sl 2 []]) []) none) none):=gq Tryz.func50
theorem jzH:jua a b c d e f p q=jwp c b a d p e f q:=hq Tryz.func50
theorem jxC:jub a b c d e f p q=jwp c b a d q e f p:=hq Tryz.func50
theorem g51:G 51 [a,b,c]=jbJ 2 a λa=>jbJ 2 c λc=>jhK b λd=>jiL d (vi 0) ((jr0 (kG c 0) (kG c 1)).bind λa=>jwg a) ((jr0 (kG a 0) (kG a 1)).bind λd=>kHD d 0 λe=>kHR 2 d 1 λd=>brn (ZO e) (kIP 1 b (vi 0) λf=>kIP 1 b (vi 0) λg=>kIN 2 2 (kG a 1) g λa=>kSl 1 b (some (vi 1)) none λb=>kF 51 [a,b,jfC c] λa=>jwh d f a e) none):=gq Tryz.func51
theorem g52:G 52 [a]=jbJ 2 a λa=>kF 82 [jfC a] λb=>joQ b (vi 30) λb=>jcK b true λ_=>jiN b 83 [jfC a] λa=>kGT b (jgm .leq false a (vi 8)) λa=>jgU b a (vb false) λa=>jb4 a:=gq Tryz.func52
theorem g53:G 53 [a,b]=jhK a λc=>jsi a b c (vi 0):=gq Tryz.func53
theorem jxD:jsi a b c d=jf1 d c (kIN 2 2 a d λe=>(DX.run K (MM K) (.callc b [e] false)).bind λe=>kbr e (jb4 d) (jeV d (vi 1) λd=>jsi a b c d)) (jb4 (vi (- 1))):=hq Tryz.func53
theorem g54:G 54 [a,b,c]=jhK a λd=>jhK b λe=>jjO d e (jb4 (vb false)) (jhK a λd=>jsj b c a d (vi 0)):=gq Tryz.func54
theorem jxE:jsj a b c d e=jf1 e d (kIN 2 2 c e λf=>jbJ 2 f λf=>kIN 2 2 a e λg=>jbJ 2 g λg=>(DX.run K (MM K) (.callc b [jfC f,jfC g] false)).bind λf=>kbN f (jb4 (vb false)) (jeV e (vi 1) λe=>jsj a b c d e)) (jb4 (vb true)):=hq Tryz.func54
theorem g55:G 55 [a]=jbJ 2 a λa=>kF 84 [jfC a,vi 30] λb=>joQ b (vi 30) λb=>jcK b true λ_=>jiN b 85 [jfC a] λa=>kGT b (jgm .leq false a (vi 8)) λa=>jgU b a (vb false) λa=>jb4 a:=gq Tryz.func55
theorem g56:G 56 [a]=jbJ 2 a λa=>kF 31 [kG a 0] λb=>kbr b (jhK (kG a 1) λa=>jjg a (vi 0) λa=>jb4 a) (kFN 57 [kG a 0] λb=>jcK b false λ_=>jhm b (kG a 1) λc=>kGF b (jfQ c) λc=>kGF b (jgm .gtr false c (vi 4)) λc=>kbP b (vb true) c (jb4 (vb false)) (jsk (vi 0) (kG a 0) (kG a 1))):=gq Tryz.func56
theorem jxF:jsk a b c=kLb a c (kIN 2 2 c a λd=>kF 56 [d] λd=>kbN d (jb4 (vb false)) (jeV a (vi 1) λa=>jsk a b c)) (jb4 (vb true)):=hq Tryz.func56
theorem g57:G 57 [a]=kLS a λb=>kFN 61 [b,vi 1,vi 6] λb=>jhm b a λc=>kGF b (jaj c (vi 0)) λc=>kGF b (jgm .lss false c (vy 97)) λc=>jgU b (vb true) c λb=>jhm b a λc=>kGF b (jaj c (vi 0)) λc=>kGF b (jgm .gtr false c (vy 122)) λc=>kbP b (vb true) c (jb4 (vb false)) (jjg a (sv [116,114,117,101]) λb=>kbr b (kbr b (jb4 (vb false)) (jkn a (vi 1))) (jjg a (sv [102,97,108,115,101]) λb=>kbr b (kbr b (jb4 (vb false)) (jkn a (vi 1))) (jjg a (sv [116,114,117,116,104]) λb=>kbr b (kbr b (jb4 (vb false)) (jkn a (vi 1))) (jjg a (sv [98,111,116,104]) λb=>kbr b (kbr b (jb4 (vb false)) (jkn a (vi 1))) (jjg a (sv [101,105,116,104,101,114]) λb=>kbr b (kbr b (jb4 (vb false)) (jkn a (vi 1))) (jjg a (sv [105,102]) λb=>kbr b (kbr b (jb4 (vb false)) (jkn a (vi 1))) (jjg a (sv [97,108,108]) λb=>kbr b (kbr b (jb4 (vb false)) (jkn a (vi 1))) (jiL a (sv [115,111,109,101]) (jb4 (vb false)) (jkn a (vi 1)))))))))):=gq Tryz.func57
theorem jxG:jkn a b=kLS a λc=>jf1 b c (kIS a b λc=>kFN 62 [c] λc=>jg2 c a λd=>jg2 c b λe=>kGT c (jaj d e) λd=>kGT c (jgm .neq false d (vy 95)) λd=>kbP c d (vb false) (jb4 (vb false)) (jeV b (vi 1) λb=>jkn a b)) (jb4 (vb true)):=hq Tryz.func57
theorem g58:G 58 [a]=jbJ 2 a λa=>kF 55 [jfC a] λb=>jcK b true λ_=>jiN b 56 [jfC a] λa=>jgU b a (vb false) λa=>jb4 a:=gq Tryz.func58
theorem g59:G 59 [a,b]=jbJ 2 b λb=>kF 31 [kG b 0] λc=>kbN c (kF 86 [a,kG b 0] λa=>jp6 a (vi 0) (kG b 0) (kG b 1)) (jp6 a (vi 0) (kG b 0) (kG b 1)):=gq Tryz.func59
theorem jxH:jp6 a b c d=kLb b d (kIN 2 2 d b λe=>kF 59 [a,e] λa=>jeV b (vi 1) λb=>jp6 a b c d) (jb4 a):=hq Tryz.func59
theorem g60:G 60 [a,b,c]=jbJ 3 a λa=>jbJ 2 b λb=>jbJ 2 c λc=>kFN 87 [jlB a] λd=>jcK d false λ_=>jcK d false λ_=>jjf d 88 [jlB a,jfC b] λe=>kGF d (pUn .not e) λe=>jgU d (vb true) e λd=>jcK d false λ_=>jcK d false λ_=>jjf d 88 [jlB a,jfC c] λe=>kGF d (pUn .not e) λe=>kbP d (vb true) e (jb4 (A.tup [vi 0,vb false])) (kF 19 [jfC b,jfC c] λd=>kF 90 [jlB a,jfC b,jfC c] λe=>kF 90 [jlB a,jfC c,jfC b] λa=>kF 89 [d,e,a] λa=>jb4 (A.tup [a,vb true])):=gq Tryz.func60
theorem g61:G 61 [a,b,c]=jwq a b c:=gq Tryz.func61
theorem g62:G 62 [a]=jlF a (vy 97) λb=>jg2 b a λc=>kGT b (jgm .leq false c (vy 122)) λc=>jgU b c (vb false) λb=>jhm b a λc=>kGF b (jgm .geq false c (vy 48)) λc=>jhm b c λc=>jg2 c a λa=>kGT c (jgm .leq false a (vy 57)) λa=>kGF b (jfS c a (vb false)) λa=>jgU b (vb true) a λa=>jb4 a:=gq Tryz.func62
theorem g63:G 63 [a]=jbJ 2 a λa=>brn (ZO (kG a 0)) (brn (ZO (kG a 0)) (jsl (vi 0) (kG a 0) (kG a 1) (sv []) (kG a 0) [] []) none) none:=gq Tryz.func63
theorem jxI:jsl a b c d e p q=kLb a c (kIN 2 2 c a λf=>(G 63 [f]).bind λf=>jiD f λf=>jbJ 2 f λf=>brn (jbb ((JL q)+(JL [[kG f 0,kG f 1]])) 40) (jeV a (vi 1) λa=>jsl a b c d e p (jgs q [[kG f 0,kG f 1]])) none) (brn (ZO e) (jb4 (A.agg [e,A.sl 2 q])) none):=hq Tryz.func63
theorem jze:jrZ a b=brn (ZO a) (brn (ZO b) (brn (ZO a) (brn (ZO a) (jne (vi 0) a b (sv []) a [] []) none) none) none) none:=vq Tryz.func63
theorem jsH:jne a b c d e p q=kLb a c (kIN 2 2 c a λf=>(G 63 [f]).bind λf=>jiD f λf=>jbJ 2 f λf=>brn (jbb ((JL q)+(JL [[kG f 0,kG f 1]])) 40) (jeV a (vi 1) λa=>jne a b c d e p (jgs q [[kG f 0,kG f 1]])) none) (brn (ZO e) (some (A.top,[e,A.sl 2 q])) none):=hq Tryz.func63
theorem g64:G 64 [a,b]=jbJ 1 a λa=>jbJ 2 b λb=>kFN 91 [jjI a] λc=>jcK c false λ_=>jjf c 92 [jfC b] λd=>kGF c (pUn .not d) λd=>kbP c (vb true) d (jb4 (A.tup [A.agg [sv [],A.sl 2 []],vb false])) ((G 37 [jjI a,jfC b]).bind λa=>jiD a λa=>jbJ 2 a λa=>kF 92 [jfC a] λb=>jwr b a):=gq Tryz.func64
theorem g65:G 65 [a,b,c]=jbJ 1 a λa=>jbJ 2 c λc=>kF 93 [jfC c] λd=>kF 33 [d,b] λd=>kbr d (brn (ZO (kG a 0)) (jb4 (A.tup [jjI a,vb false])) none) ((jt0 b (kG c 0) (kG c 1) []).bind λb=>kHR 3 b 0 λb=>(G 94 [jjI a,A.agg [A.sl 3 b]]).bind λa=>jiD a λa=>jie a 0 λb=>jie a 1 λa=>jbJ 1 b λb=>jb4 (A.tup [jjI b,a])):=gq Tryz.func65
theorem g66:G 66 [a,b]=jbJ 1 a λa=>jp8 b (vi 0) (kG a 0):=gq Tryz.func66
theorem jxJ:jp8 a b c=kLb b c (jqx 3 c b 0 λd=>jiL d a (jb4 b) (jeV b (vi 1) λb=>jp8 a b c)) (jb4 (vi (- 1))):=hq Tryz.func66
theorem g67:G 67 [a]=jbJ 2 a λa=>kF 96 [kG a 0] λb=>kbr b (jhK (kG a 1) λa=>jjg a (vi 0) λa=>jb4 a) (kF 68 [kG a 0] λb=>jcK b true λ_=>jg2 b (kG a 1) λc=>kGT b (jfQ c) λc=>kGT b (jgm .leq false c (vi 4)) λc=>jgU b c (vb false) λb=>jcK b true λ_=>jg2 b (kG a 1) λa=>jiN b 25 [a,A.fn 97 []] λa=>kGT b (pUn .not a) λa=>jgU b a (vb false) λa=>jb4 a):=gq Tryz.func67
theorem g68:G 68 [a]=kLS a λb=>jp9 a b (vi 0):=gq Tryz.func68
theorem jsI:jp9 a b c=jf1 c b (jjg c (vi 0) λd=>jg2 d a λe=>jg2 d c λf=>kGT d (jaj e f) λe=>jiN d 98 [e] λe=>kGT d (pUn .not e) λe=>jgU d e (vb false) λd=>jhm d a λe=>jhm d c λf=>kGF d (jaj e f) λe=>jjf d 98 [e] λe=>kGF d (pUn .not e) λe=>jhm d e λe=>jg2 e a λf=>jg2 e c λg=>kGT e (jaj f g) λf=>jiN e 99 [f] λf=>kGT e (pUn .not f) λf=>kGF d (jfS e f (vb false)) λe=>jhm d e λe=>jg2 e a λf=>jg2 e c λg=>kGT e (jaj f g) λf=>kGT e (jgm .neq false f (vy 95)) λf=>kGF d (jfS e f (vb false)) λe=>kbP d (vb true) e (jb4 (vb false)) (jeV c (vi 1) λc=>jp9 a b c)) (kLS a λb=>kF 76 [b,vi 1,vi 6] λb=>jiN b 100 [] λc=>jg2 b a λa=>jiN b 75 [c,a] λa=>kGT b (pUn .not a) λa=>jgU b a (vb false) λa=>jb4 a):=hq Tryz.func68
theorem g69:G 69 [a]=jbJ 2 a λa=>kF 52 [jfC a] λb=>jcK b true λ_=>jiN b 67 [jfC a] λa=>jgU b a (vb false) λa=>jb4 a:=gq Tryz.func69
theorem jAp:jot a b=brn (ZO a) (brn (ZO b) (brn (ZO a) ((jnt b).bind λb=>kHR 66 b 0 λb=>brn (ZO a) (some (A.top,[a,A.sl 66 b])) none) none) none) none:=vq Tryz.func6
theorem jAq:jv2 a=jbJ 2 a λa=>brn (ZO (kG a 0)) ((jnt (kG a 1)).bind λb=>kHR 66 b 0 λb=>brn (ZO (kG a 0)) (some (A.top,[kG a 0,A.sl 66 b])) none) none:=vq Tryz.func6
theorem jzf:jlX a b p=brn (ZO a) (brn (ZO b) (kF 68 [a] λc=>jcK c true λ_=>jcK c true λ_=>jg2 c a λd=>kGT c ((G 75 [A.sl 1 p,d]).bind (fin true)) λd=>kGT c (pUn .not d) λd=>kbP c d (vb false) (brn (ZO a) (brn (jbb ((JL p)+(JL [[a]])) 16) (jhK b λc=>jnf b c (vi 0) (jgs p [[a]])) none) none) (jhK b λa=>jps b a (vi 0) p)) none) none:=vq Tryz.func70
theorem jsJ:jnf a b c p=jws c b a p:=hq Tryz.func70
theorem jwJ:jps a b c p=jws c b a p:=hq Tryz.func70
theorem jzg:jtZ a p=jf1 a (vi 0) none ((jep .u64 (jdt p)).bind λb=>(jep .u64 a).bind λa=>kF2 103 [b,a] λa b=>jnU a (A.val (.int .u64 0)) λa=>jhm a b λc=>kGF a (jgm .gtr false c (A.val (.int .u64 9223372036854775807))) λc=>kbP a (vb true) c none ((jep .i64 b).bind λa=>kMk 8 a a λa=>jng (jhV p (jds (jb9 a [vi 0]))) (qJ (jb9 a [vi 0]) 0 (jg8 p (jds (jb9 a [vi 0])))) p)):=vq Tryz.func72
theorem jnn:jng a p q=jf1 a (jdt p) (kB (jds p) (jg7 p 0) none λb=>kB 0 b (some a) λc=>kB (jds p) (jg7 p 0) (some a) λd=>jeV a (jhV (jhW p 0 (jhR d 0)) (jhR b c)) λa=>jng a (qJ p (0+c) (jg8 (jhW p 0 (jhR d 0)) (jhR b c))) q) (some (A.top,[A.sl 1 p])):=hq Tryz.func72
theorem g73:G 73 [a,b,c]=jbJ 3 a λa=>jbJ 2 b λb=>jbJ 2 c λc=>kF 27 [jfC b,jfC c] λd=>kfn true (G 104 [d,A.fn 105 [A.elt [kG a 0,kG a 1,kG a 2] 0,A.elt [kG b 0,kG b 1] 0,A.elt [kG c 0,kG c 1] 0],A.fn 107 [A.elt [kG a 0,kG a 1,kG a 2] 0,A.elt [kG c 0,kG c 1] 0,A.elt [kG b 0,kG b 1] 0]]) λa=>jb4 a:=gq Tryz.func73
theorem g75:G 75 [a,b]=kF 109 [a,b] λa=>jlF a (vi 0) λa=>jb4 a:=gq Tryz.func75
theorem g76:G 76 [a,b,c]=jwq a b c:=gq Tryz.func76
theorem g77:G 77 [a,b]=jbJ 1 a λa=>jbJ 2 b λb=>kF 50 [jjI a,jfC b] λa=>jbJ 2 a λa=>kF 52 [jfC a] λb=>jwr b a:=gq Tryz.func77
theorem g78:G 78 [a]=jbJ 4 a λa=>brn (ZO (kG a 0)) (brn (ZO (kG a 1)) (brn (ZO (kG a 2)) (brn (ZO (kG a 3)) (kFN 48 [jfC a] λb=>jcK b false λ_=>jjf b 48 [A.agg [kG a 2,kG a 3]] λc=>jhm b c λc=>jcK c true λ_=>jg2 c (kG a 2) λd=>jcK c true λ_=>jg2 c (kG a 0) λe=>kGT c (jgm .gtr false d e) λd=>kGF b (jfS c d (vb false)) λc=>kbP b (vb true) c (brn (ZO (kG a 2)) (brn (ZO (kG a 3)) (brn (ZO (kG a 0)) (brn (ZO (kG a 1)) (brn (ZO (kG a 2)) (brn (ZO (kG a 0)) (brn (ZO (kG a 1)) (brn (ZO (kG a 2)) (brn (ZO (kG a 0)) (brn (ZO (kG a 1)) (kFN 110 [kG a 2,jfC a] λb=>jcK b true λ_=>kGT b ((G 111 [A.agg [A.sl 3 [[kG a 2,kG a 0,kG a 1]]]]).bind (fin true)) λc=>jgU b c (vb false) λb=>jb4 (A.tup [A.agg [A.sl 3 [[kG a 2,kG a 0,kG a 1]]],b])) none) none) none) none) none) none) none) none) none) none) (brn (ZO (kG a 0)) (brn (ZO (kG a 2)) (brn (ZO (kG a 3)) (brn (ZO (kG a 0)) (brn (ZO (kG a 2)) (brn (ZO (kG a 3)) (kFN 110 [kG a 0,A.agg [kG a 2,kG a 3]] λb=>jcK b true λ_=>kGT b ((G 111 [A.agg [A.sl 3 [[kG a 0,kG a 2,kG a 3]]]]).bind (fin true)) λc=>jgU b c (vb false) λb=>jb4 (A.tup [A.agg [A.sl 3 [[kG a 0,kG a 2,kG a 3]]],b])) none) none) none) none) none) none)) none) none) none) none:=gq Tryz.func78
theorem g79:G 79 [a,b]=jbJ 1 a λa=>jbJ 1 b λb=>jhK (kG a 0) λc=>jqa (kG a 0) c (vi 0) (kG a 0) (kG b 0) [] []:=gq Tryz.func79
theorem jxK:jqa a b c d e p q=jf1 c b (kIN 3 3 a c λf=>jbJ 3 f λf=>kF 50 [A.agg [e],A.agg [kG f 1,kG f 2]] λg=>jbJ 2 g λg=>jjO (kG g 0) (kG f 0) (brn (ZO (kG f 0)) (brn (ZO (kG g 0)) (brn (ZO (kG g 1)) (brn (ZO (kG f 0)) (brn (ZO (kG g 0)) (brn (ZO (kG g 1)) (brn (jbb ((JL q)+(JL [[kG f 0,kG g 0,kG g 1]])) 56) (jeV c (vi 1) λc=>jqa a b c d e p (jgs q [[kG f 0,kG g 0,kG g 1]])) none) none) none) none) none) none) none) (jeV c (vi 1) λc=>jqa a b c d e p q)) (jhK e λa=>joK e a (vi 0) d p q):=hq Tryz.func79
theorem jxL:joK a b c d p q=jf1 c b (kIN 3 3 a c λe=>jbJ 3 e λe=>kF2 80 [A.agg [d],kG e 0] λf g=>jbJ 2 f λ_=>kbN g (kF 81 [A.agg [kG e 1,kG e 2]] λf=>(K1 (kD (K.at 79) 85) [sv [],sv [],A.sl 2 []] [(0,kG e 0),(1,f)]).bind λe=>jbJ 3 e λe=>brn (jbb ((JL q)+(JL [[kG e 0,kG e 1,kG e 2]])) 56) (jeV c (vi 1) λc=>joK a b c d p (jgs q [[kG e 0,kG e 1,kG e 2]])) none) (jeV c (vi 1) λc=>joK a b c d p q)) ((jro q).bind λa=>kHR 3 a 0 λa=>kfn true (G 111 [A.agg [A.sl 3 a]]) λb=>kbN b (jb4 (A.tup [A.agg [A.sl 3 []],vb false])) (jb4 (A.tup [A.agg [A.sl 3 a],vb true]))):=hq Tryz.func79
theorem jye:jv3 a b=jbJ 2 a λa=>jbJ 2 b λb=>kFN 21 [jfC a] λc=>jcK c false λ_=>jjf c 21 [jfC b] λd=>kGF c (pUn .not d) λd=>kbP c (vb true) d (some (A.top,[vb false,A.sl 66 []])) (kF2 22 [jfC a,sv [65]] λa _=>jbJ 2 a λa=>kF2 22 [jfC b,sv [66]] λb _=>jbJ 2 b λb=>kIN 2 2 (kG b 1) (vi 0) λc=>kF 23 [c] λc=>jhK c λd=>jmx c d (vi 0) (kG a 0) (kG a 1) (kG b 0) (kG b 1) []):=vq Tryz.func7
theorem ju0:jmx a b c d e f g p=jf1 c b (kIP 1 a c λh=>(jpZ (A.agg [d,e]) (A.agg [f,g]) h).bind λh=>kHD h 0 λi=>kHD h 1 λj=>kHR 66 h 2 λh=>brn (z6 i) (brn (z6 j) (brn (ZO i) (jcK j true λ_=>jcK j true λ_=>kGT j ((G 25 [A.sl 2 p,A.fn 26 [A.elt [i,A.sl 2 h] 0]]).bind (fin true)) λk=>kGT j (pUn .not k) λk=>kbP j k (vb false) (brn (ZO i) (brn (jir i) (brn (jbb ((JL p)+(JL [[i,A.sl 2 h]])) 40) (jeV c (vi 1) λc=>jmx a b c d e f g (jgs p [[i,A.sl 2 h]])) none) none) none) (jeV c (vi 1) λc=>jmx a b c d e f g p)) none) none) none) (some (A.top,[vb true,A.sl 66 p])):=hq Tryz.func7
theorem g8:G 8 [a,b]=jhK a λc=>jhK b λd=>jjO c d (jb4 (vb false)) (jv4 a b (vi 0)):=gq Tryz.func8
theorem jzI:jv4 a b c=kLb c a (kIN 2 2 a c λd=>kIN 2 2 b c λe=>kF 9 [d,e] λd=>kbN d (jb4 (vb false)) (jeV c (vi 1) λc=>jv4 a b c)) (jb4 (vb true)):=hq Tryz.func8
theorem g80:G 80 [a,b]=jbJ 1 a λa=>kF2 115 [kG a 0,b,A.fn 116 []] λb c=>kbN c (jb4 (A.tup [A.agg [sv [],A.sl 2 []],vb false])) (jte 2 3 (kG a 0) b 1 λa=>jbJ 2 a λa=>jb4 (A.tup [jfC a,vb true])):=gq Tryz.func80
theorem g81:G 81 [a]=jbJ 2 a λa=>(jpf (kG a 1)).bind λb=>kHR 2 b 0 λb=>brn (ZO (kG a 0)) (brn (ZO (kG a 0)) (jb4 (A.agg [kG a 0,A.sl 2 b])) none) none:=gq Tryz.func81
theorem jzh:jr0 a b=brn (ZO a) (brn (ZO b) ((jpf b).bind λb=>kHR 2 b 0 λb=>brn (ZO a) (brn (ZO a) (some (A.top,[a,A.sl 2 b])) none) none) none) none:=vq Tryz.func81
theorem g82:G 82 [a]=jbJ 2 a λa=>jhK (kG a 1) λb=>jsm (vi 1) (kG a 1) b (vi 0):=gq Tryz.func82
theorem ju1:jsm a b c d=jf1 d c (kIN 2 2 b d λe=>jbJ 2 e λe=>jiR a (vi 30) (jb4 a) (kF 82 [jfC e] λe=>jeV a e λa=>jeV d (vi 1) λd=>jsm a b c d)) (jb4 a):=hq Tryz.func82
theorem g83:G 83 [a]=jbJ 2 a λa=>jhK (kG a 1) λb=>jsn (vi 0) (kG a 1) b (vi 0):=gq Tryz.func83
theorem jxM:jsn a b c d=jf1 d c (kIN 2 2 b d λe=>jbJ 2 e λe=>kF 83 [jfC e] λe=>(jgo a e).bind λa=>jeV d (vi 1) λd=>jsn a b c d) (jeV a (vi 1) λa=>jb4 a):=hq Tryz.func83
theorem g84:G 84 [a,b]=jbJ 2 a λa=>jso b (vi 1) (vi 0) (kG a 0) (kG a 1):=gq Tryz.func84
theorem ju2:jso a b c d e=jhK e λf=>jk8 c f λf=>jg2 f b λg=>jg2 f a λh=>kGT f (jgm .leq false g h) λg=>kbP f g (vb false) (kIN 2 2 e c λf=>jnW a b λg=>kF 84 [f,g] λf=>jeV b f λb=>jeV c (vi 1) λc=>jso a b c d e) (jb4 b):=hq Tryz.func84
theorem g85:G 85 [a]=jbJ 2 a λa=>jsp (vi 0) (vi 0) (kG a 0) (kG a 1):=gq Tryz.func85
theorem jxN:jsp a b c d=kLb b d (kIN 2 2 d b λe=>kF 85 [e] λe=>kF 118 [a,e] λa=>jeV b (vi 1) λb=>jsp a b c d) (jeV a (vi 1) λa=>jb4 a):=hq Tryz.func85
theorem g86:G 86 [a,b]=jqb a b (vi 0):=gq Tryz.func86
theorem jsK:jqb a b c=jhK a λd=>jk8 c d λd=>jg2 d a λe=>jg2 d c λf=>kGT d (zP 1 e f) λe=>kGT d (jb7 e) λe=>jg2 d b λf=>kGT d (jgm .lss false e f) λe=>kbP d e (vb false) (jeV c (vi 1) λc=>jqb a b c) (jhK a λd=>jk8 c d λd=>jg2 d a λe=>jg2 d c λf=>kGT d (zP 1 e f) λe=>kGT d (jb7 e) λe=>jg2 d b λf=>kGT d (jgm .eql false e f) λe=>kbP d e (vb false) (jb4 a) (kSl 1 a none (some c) λd=>kRs 1 d λd=>brn (jbb (JL d) 16) (brn (ZO b) (brn (jbb ((JL d)+(JL [[b]])) 16) (kSl 1 a (some c) none λa=>kRs 1 a λa=>brn (jbb ((JL (jgs d [[b]]))+(JL a)) 16) (jb4 (A.sl 1 (jgs (jgs d [[b]]) a))) none) none) none) none)):=hq Tryz.func86
theorem g87:G 87 [a]=jbJ 3 a λa=>jhK (kG a 0) λb=>kFN 61 [b,vi 1,vi 12] λb=>jcK b false λ_=>jhm b (kG a 1) λc=>kGF b (jfQ c) λc=>jcK b false λ_=>jhm b (kG a 0) λd=>kGF b (jfQ d) λd=>kGF b (jgm .neq false c d) λc=>jgU b (vb true) c λb=>jcK b false λ_=>jhm b (kG a 2) λc=>jjf b 61 [c,vi 1,vi 100] λc=>kGF b (pUn .not c) λc=>kbP b (vb true) c (jb4 (vb false)) (jsq (vi 0) (kG a 0) (kG a 1) (kG a 2)):=gq Tryz.func87
theorem jxO:jsq a b c d=kLb a b (kIP 1 b a λe=>kFN 57 [e] λe=>jcK e false λ_=>jhm e b λf=>jhm e a λg=>kGF e (K4 1 f none (some g)) λf=>jcK e false λ_=>jhm e b λg=>jhm e a λh=>kGF e (zP 1 g h) λg=>kGF e (jb7 g) λg=>jjf e 33 [f,g] λf=>jgU e (vb true) f λe=>jcK e false λ_=>jhm e c λf=>jhm e a λg=>kGF e (zP 1 f g) λf=>kGF e (jb7 f) λf=>jcK e false λ_=>jhm e d λg=>jjf e 61 [f,g,vi 100] λf=>kGF e (pUn .not f) λf=>kbP e (vb true) f (jb4 (vb false)) (jeV a (vi 1) λa=>jsq a b c d)) (jb4 (vb true)):=hq Tryz.func87
theorem g88:G 88 [a,b]=jbJ 3 a λa=>jbJ 2 b λb=>kF 58 [jfC b] λc=>jcK c true λ_=>jcK c true λ_=>jiN c 119 [jlB a,jfC b] λa=>jgU c a (vb false) λa=>jb4 a:=gq Tryz.func88
theorem g89:G 89 [a,b,c]=kbr a (jb4 (vi 1)) (kbr b (jb4 (vi 2)) (kbr c (jb4 (vi 3)) (jb4 (vi 0)))):=gq Tryz.func89
theorem g9:G 9 [a,b]=jbJ 2 a λa=>jbJ 2 b λb=>jjO (kG a 0) (kG b 0) (jb4 (vb false)) (kF 8 [kG a 1,kG b 1] λa=>kbN a (jb4 (vb false)) (jb4 (vb true))):=gq Tryz.func9
theorem g90:G 90 [a,b,c]=jbJ 3 a λa=>jbJ 2 b λb=>jbJ 2 c λc=>kF 120 [jfC b,jfC c] λd=>kbN d (jb4 (vb false)) (kF 121 [jlB a,jfC b] λd=>kF 121 [jlB a,jfC c] λe=>jjO d e (jnU d e λa=>jb4 a) (kF 31 [kG b 0] λd=>jcK d false λ_=>jhm d (kG c 0) λe=>jjf d 31 [e] λe=>kbP d (vb true) e (jb4 (vb false)) (kF 122 [jlB a,jfC b,jfC c] λd=>jjO d (vi 0) (jnU d (vi 0) λa=>jb4 a) (kF 123 [jfC b,jfC c] λd=>jlF d (vi 0) λe=>jcK e true λ_=>jcK e true λ_=>jg2 e (kG b 1) λb=>jg2 e d λf=>kGT e (zP 2 b f) λb=>kGT e (jb6 2 b) λb=>jcK e true λ_=>jg2 e (kG c 1) λc=>jg2 e d λd=>kGT e (zP 2 c d) λc=>kGT e (jb6 2 c) λc=>jiN e 90 [jlB a,b,c] λa=>jgU e a (vb false) λa=>jb4 a)))):=gq Tryz.func90
theorem g91:G 91 [a]=jbJ 1 a λa=>jsr (vi 0) (kG a 0):=gq Tryz.func91
theorem jxP:jsr a b=kLb a b (kIN 3 3 b a λc=>jbJ 3 c λc=>kFN 31 [kG c 0] λd=>jcK d false λ_=>jcK d false λ_=>jjf d 58 [A.agg [kG c 1,kG c 2]] λe=>kGF d (pUn .not e) λe=>jgU d (vb true) e λd=>jcK d false λ_=>jcK d false λ_=>jhm d (kG c 1) λe=>jcK d false λ_=>jhm d (kG c 0) λf=>kGF d (jgm .eql false e f) λe=>jgU d (vb true) e λd=>jhm d a λe=>kGF d (jgm .gtr false e (vi 0)) λe=>jhm d e λe=>jcK e true λ_=>jg2 e b λf=>jg2 e a λg=>kGT e (jgm .sub false g (vi 1)) λg=>kGT e (zP 3 f g) λf=>kGT e (jgl f 0) λf=>kGT e (jb7 f) λf=>jcK e true λ_=>jg2 e (kG c 0) λc=>kGT e (jgm .geq false f c) λc=>kGF d (jfS e c (vb false)) λc=>kbP d (vb true) c (jb4 (vb false)) (jeV a (vi 1) λa=>jsr a b)) (jhK b λa=>joQ a (vi 12) λa=>jb4 a):=hq Tryz.func91
theorem g92:G 92 [a]=jbJ 2 a λa=>kF 58 [jfC a] λb=>jcK b false λ_=>jjf b 29 [jfC a] λa=>jgU b (vb true) a λa=>jb4 a:=gq Tryz.func92
theorem g93:G 93 [a]=jbJ 2 a λa=>kF 124 [A.sl 1 [],jfC a] λa=>jb4 a:=gq Tryz.func93
theorem g94:G 94 [a,b]=jbJ 1 a λa=>jbJ 1 b λb=>kFN 91 [jjI a] λc=>jcK c false λ_=>jjf c 91 [jjI b] λd=>kGF c (pUn .not d) λd=>kbP c (vb true) d (jb4 (A.tup [A.agg [A.sl 3 []],vb false])) (kF 125 [jjI a,jjI b] λa=>jbJ 1 a λa=>kF 91 [jjI a] λb=>kbN b (jb4 (A.tup [A.agg [A.sl 3 []],vb false])) (brn (ZO (kG a 0)) (jb4 (A.tup [jjI a,vb true])) none)):=gq Tryz.func94
theorem jzi:jt0 a b c p=brn (ZO b) (brn (ZO c) (jiL b a (some (A.top,[A.sl 3 p])) (jpt a (vi 0) b c p [])) none) none:=vq Tryz.func95
theorem jwK:jpt a b c d p q=jk8 b (jdt p) λe=>jcK e true λ_=>jcK e true λ_=>jg2 e b λf=>jcK e true λg=>brn g (kIx (JL p) f λf=>jcK e true λ_=>kGT e (jfV p f 0) λf=>jwt e a f b c d p q) (kGT e (jgl (A.val undef) 0) λf=>kGT e (jb7 f) λf=>jwt e a f b c d p q):=hq Tryz.func95
theorem jzj:jr1 a b p=jbJ 2 b λb=>jiL (kG b 0) a (some (A.top,[A.sl 3 p])) (jl5 a (vi 0) (kG b 0) (kG b 1) p []):=vq Tryz.func95
theorem jpH:jl5 a b c d p q=jk8 b (jdt p) λe=>jcK e true λ_=>jcK e true λ_=>jg2 e b λf=>jcK e true λg=>brn g (kIx (JL p) f λf=>jcK e true λ_=>kGT e (jfV p f 0) λf=>jwv e a f b c d p q) (kGT e (jgl (A.val undef) 0) λf=>kGT e (jb7 f) λf=>jwv e a f b c d p q):=hq Tryz.func95
theorem g96:G 96 [a]=kLS a λb=>jqc a b (vi 0):=gq Tryz.func96
theorem jsL:jqc a b c=jf1 c b (jjg c (vi 0) λd=>jg2 d a λe=>jg2 d c λf=>kGT d (jaj e f) λe=>jiN d 43 [e] λe=>kGT d (pUn .not e) λe=>jgU d e (vb false) λd=>jhm d c λe=>kGF d (jgm .gtr false e (vi 0)) λe=>jhm d e λe=>jg2 e a λf=>jg2 e c λg=>kGT e (jaj f g) λf=>jiN e 98 [f] λf=>kGT e (pUn .not f) λf=>kGF d (jfS e f (vb false)) λe=>jhm d e λe=>jg2 e a λf=>jg2 e c λg=>kGT e (jaj f g) λf=>jiN e 99 [f] λf=>kGT e (pUn .not f) λf=>kGF d (jfS e f (vb false)) λe=>kbP d (vb true) e (jb4 (vb false)) (jeV c (vi 1) λc=>jqc a b c)) (kLS a λa=>kF 76 [a,vi 1,vi 4] λa=>jb4 a):=hq Tryz.func96
theorem g97:G 97 [a]=jbJ 2 a λa=>kFN 67 [jfC a] λa=>jb4 a:=gq Tryz.func97
theorem g98:G 98 [a]=jlF a (vy 97) λb=>jg2 b a λa=>kGT b (jgm .leq false a (vy 122)) λa=>jgU b a (vb false) λa=>jb4 a:=gq Tryz.func98
theorem g99:G 99 [a]=jlF a (vy 48) λb=>jg2 b a λa=>kGT b (jgm .leq false a (vy 57)) λa=>jgU b a (vb false) λa=>jb4 a:=gq Tryz.func99
end
end
end Go.Proofs.YtocncngbocomhaaGreatDoor
