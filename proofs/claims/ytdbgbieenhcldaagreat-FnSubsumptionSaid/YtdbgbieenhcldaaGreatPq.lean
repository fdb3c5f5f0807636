/- Pq -/
import Derived.Test.YtdbgbieenhcldaaGreatKt
import Derived.KernelRfl
set_option linter.unusedVariables false
namespace Go.Proofs.YtdbgbieenhcldaaGreat
open Go Go.RowKit Go.Proofs.YtdbgbieenhcldaaGreat.Abs
set_option linter.unusedSimpArgs false
set_option linter.unusedVariables false
noncomputable section
def vT:V:=V.top
def vD (a:A):V:=V.d a
def vP (i:Nat):V:=V.ptr i 0
def vR (i:Nat):V:=V.row i
def tp (n:Nat):List V:=List.replicate n vT
def pth:Nat->Nat->List Nat
 | 0,_=>[]
 | k+1,n=>if Nat.ble n 1 then [] else pth k (n/10)++[n%10]
def hs (sh:Option (List Nat)) (f p:Nat) (l:List V) (n:Nat) (ob:List Abs.Obj):Option Out:=MM K (.head f (pth 60 p) (l++tp n) ob sh)
def hd (f p:Nat) (l:List V) (n:Nat) (ob:List Abs.Obj):Option Out:=hs none f p l n ob
theorem gq {f:FuncId} {fn:Func} {l:List A} {r:Option Out} (h3:Tryz.prog.funcs[f]? = some fn) (h2:K.pureF f=true:=by exact rfl) (h4:fn.body.isSome=true:=by exact rfl) (h5:Nat.ble l.length fn.ntmps=true:=by exact rfl) (h1:K.ext f=none:=by exact rfl) (e:evC K (MM K) f (codeOf fn) [] (Kv fn l) (qB K f fn)=r:=by kernel_rfl):G f l=r:=(jvs h2 h3 h4 h5 h1).trans e
theorem vq {f:FuncId} {fn:Func} {l:List V} {ob:List Abs.Obj} {r:Option Out} (h3:Tryz.prog.funcs[f]? = some fn) (h1:K.extv f=none:=by exact rfl) (h4:fn.body.isSome=true:=by exact rfl) (h5:Nat.ble l.length fn.ntmps=true:=by exact rfl) (e:evC K (MM K) f (codeOf fn) [] (Yp fn l ob) (qB K f fn)=r:=by kernel_rfl):MM K (.callv f l ob)=r:=(jvw h1 h3 h4 h5).trans e
theorem hq {f:FuncId} {fn:Func} {p:List Nat} {l:List V} {ob:List Abs.Obj} {sh:Option (List Nat)} {r:Option Out} (h3:Tryz.prog.funcs[f]? = some fn) (h4:fn.body.isSome=true:=by exact rfl) (e:evAt K (MM K) f (codeOf fn) p [] (St.of fn.ntmps l ob sh) (qB K f fn)=r:=by kernel_rfl):MM K (.head f p l ob sh)=r:=(jvu h3 h4).trans e
section
variable {B:Type}
def jd (n:Nat) (a:A) (k0:List A->Option B):Option B:=(K1 n a).bind k0
def Jl (t:A) (n:Nat) (k0:A->Option B):Option B:=(Km t n).bind k0
def jT (t x y:A) (k0:A->Option B):Option B:=(yr t x y).bind k0
def jp (t:A) (w:Bool) (k0:Bool->Option B):Option B:=(yF t w).bind k0
def ky (l:A) (k0:A->Option B):Option B:=(yq l).bind k0
def jG (t x:A) (k0:A->Option B):Option B:=(pG t true (some x)).bind k0
def kM (t x:A) (k0:A->Option B):Option B:=(pG t false (some x)).bind k0
def ke (t:A) (x:Option A) (k0:A->Option B):Option B:=(pG t true x).bind k0
def zI (t:A) (x:Option A) (k0:A->Option B):Option B:=(pG t false x).bind k0
def zh (t:A) (n:Nat) (l:List A) (k0:A->Option B):Option B:=(pG t true ((G n l).bind (fin false))).bind k0
def jaF (t:A) (n:Nat) (l:List A) (k0:A->Option B):Option B:=(pG t false ((G n l).bind (fin false))).bind k0
def kF (n:Nat) (l:List A) (k0:A->Option B):Option B:=((G n l).bind (fin false)).bind k0
def JD (o:Out) (k0:A->Option B):Option B:=(fin false o).bind k0
def kfn (b:Bool) (x:Option Out) (k0:A->Option B):Option B:=(x.bind (fin b)).bind k0
def jgu (x:A) (k0:A->Option B):Option B:=(K6 .not x).bind k0
def jD (o:Out) (i:Nat) (k0:A->Option B):Option B:=(hD o i).bind k0
def Ju (k:Nat) (o:Out) (i:Nat) (k0:List (List A)->Option B):Option B:=(hR k o i).bind k0
def KD (n:Nat) (i:A) (k0:Nat->Option B):Option B:=(KE n i).bind k0
def kB (d t:Nat) (x:Option A) (k0:Nat->Option B):Option B:=(pB d t x).bind k0
def kRN (l:List (List A)) (i j n:Nat) (k0:A->Option B):Option B:=(zB l i j n).bind k0
def kRG (l:List (List A)) (i:Nat) (k0:List A->Option B):Option B:=(jc9 l i).bind k0
def kIS (a i:A) (k0:A->Option B):Option B:=(j8 a i).bind k0
def kSl (k:Nat) (a:A) (x y:Option A) (k0:A->Option B):Option B:=(JH k a x y).bind k0
def kRP (l:List (List A)) (i j:Nat) (k0:A->Option B):Option B:=(yE l i j).bind k0
def kMk (n:Nat) (a b:A) (k0:Nat->Option B):Option B:=(jdM n a b).bind k0
def kRs (k:Nat) (a:A) (k0:List (List A)->Option B):Option B:=(K5 k a).bind k0
def kLS (a:A) (k0:A->Option B):Option B:=(K2 a).bind k0
def jv (x y:A) (k0:A->Option B):Option B:=(js .add false x y).bind k0
def kT (x y:A) (k0:A->Option B):Option B:=(js .eql false x y).bind k0
def Y2 (x y:A) (k0:A->Option B):Option B:=(js .geq false x y).bind k0
def jka (x y:A) (k0:A->Option B):Option B:=(js .gtr false x y).bind k0
def jad (x y:A) (k0:A->Option B):Option B:=(js .leq false x y).bind k0
def JW (x y:A) (k0:A->Option B):Option B:=(js .lss false x y).bind k0
def ZX (x y:A) (k0:A->Option B):Option B:=(js .mul false x y).bind k0
def Y3 (x y:A) (k0:A->Option B):Option B:=(js .neq false x y).bind k0
def jgv (x y:A) (k0:A->Option B):Option B:=(js .quo false x y).bind k0
def jkb (x y:A) (k0:A->Option B):Option B:=(js .shr false x y).bind k0
def JX (x y:A) (k0:A->Option B):Option B:=(js .sub false x y).bind k0
def JL (t:A) (X Y:Option B):Option B:=(zi t).bind λu=>brn u X Y
def qf (c x y:A) (X Y:Option B):Option B:=(yr c x y).bind λt=>(zi t).bind λu=>brn u X Y
def kbN (x:A) (X Y:Option B):Option B:=(K6 .not x).bind λt=>(zi t).bind λu=>brn u X Y
def Y1 (i l:A) (X Y:Option B):Option B:=(yq l).bind λn=>(js .lss false i n).bind λt=>(zi t).bind λu=>brn u X Y
def kF2 (n:Nat) (l:List A) (k:A->A->Option B):Option B:=((G n l).bind (fin false)).bind λt=>(Km t 0).bind λa=>(Km t 1).bind λb=>k a b
def kFN (n:Nat) (l:List A) (k:A->Option B):Option B:=((G n l).bind (fin false)).bind λt=>(K6 .not t).bind k
def J6 (n m:Nat) (x i:A) (k:A->Option B):Option B:=(jh m x i).bind λt=>(jF n t).bind k
def kIP (m:Nat) (x i:A) (k:A->Option B):Option B:=(jh m x i).bind λt=>(kZ t).bind k
def QC (n m:Nat) (x i:A) (o:Nat) (k:A->Option B):Option B:=(jh m x i).bind λt=>(zU t o).bind λt=>(jF n t).bind k
def jc4 (m:Nat) (x i:A) (o:Nat) (k:A->Option B):Option B:=(jh m x i).bind λt=>(zU t o).bind λt=>(kZ t).bind k
def jL (x y:A) (X Y:Option B):Option B:=(js .lss false x y).bind λt=>(zi t).bind λu=>brn u X Y
def jbU (x y:A) (X Y:Option B):Option B:=(js .leq false x y).bind λt=>(zi t).bind λu=>brn u X Y
def yC (x y:A) (X Y:Option B):Option B:=(js .gtr false x y).bind λt=>(zi t).bind λu=>brn u X Y
def jbT (x y:A) (X Y:Option B):Option B:=(js .geq false x y).bind λt=>(zi t).bind λu=>brn u X Y
def kq (x y:A) (X Y:Option B):Option B:=(js .eql false x y).bind λt=>(zi t).bind λu=>brn u X Y
def Kh (x y:A) (X Y:Option B):Option B:=(js .neq false x y).bind λt=>(zi t).bind λu=>brn u X Y
def jm (x:A):Option Out:=some (x,[])
def kP (t:List A):A:=A.agg [jc t 0]
def zd (t:List A):A:=A.agg [jc t 0,jc t 1]
def jln (t:List A):A:=A.agg [jc t 0,jc t 1,jc t 2]
end
section
variable (a b c d e f g h i j k l m n o aa ab ac ad ae af ag ah ai aj ak al am:A) (p q r s t u v w x y z:List (List A))
def Yu:=hd 10 11010 [vD a,vD b,vT,vT,vT,vP 0,vT,vD c] 38 [.box [vD d]]
def jjn:=hd 10 1101001001010 [vD a,vD b,vT,vT,vT,vP 0,vT,vD c,vD d,vD e] 36 [.box [vD f]]
def jbh:=hd 101 11010 ([vD a]++tp 4++[vD b,vD c]) 41 []
def jel:=hd 103 11010 ([vD a,vD b,vD c]++tp 8++[vD d,vD e,vD f]) 25 []
def jh1:=MM K (.callv 105 [vD a] [])
def Yt:=hs (some []) 105 1111010 ([vT,vT,vT,vR 0]++tp 8++[vD a,vD b,vD c]) 11 [.row 2 p]
def jem:=hd 109 111010 [vT,vT,vP 0,vP 1,vT,vD a] 33 [.box [vD b,vD c],.box [vD d,vD e]]
def jen:=hd 110 11010 [vT,vD a,vP 0,vT,vT,vD b] 20 [.box [vD c,vD d]]
def jeo:=hd 112 111010 [vT,vT,vT,vD a,vT,vT,vT,vD b,vD c,vD d] 12 []
def jep:=hd 113 111010 [vT,vT,vT,vD a,vT,vT,vT,vD b,vD c,vD d] 10 []
def jjo:=hd 12 111010 [vT,vT,vP 0,vP 1,vT,vD a] 33 [.box [vD b,vD c],.box [vD d,vD e]]
def jeq:=hd 131 11010 ([vD a,vD b]++tp 5++[vD c,vD d]) 10 []
def jbi:=hd 132 111100 ([vD a,vD b,vD c]++tp 5++[vD d,vD e,vD f]) 38 []
def jfA:=MM K (.callv 13 [vP 0] [.box [vD a,vD b,vD c]])
def Zq:=hs (some [0]) 13 1110101111101010 [vP 0,vT,vP 1,vT,vT,vR 2,vD a] 79 [.box [vD b,vD c,vD d],.box [vR 3],.row 3 p,.row 3 q]
def jer:=hd 142 11010 ([vD a,vD b]++tp 5++[vD c,vD d]) 10 []
def KF:=MM K (.callv 14 [vP 0,vD a] [.box [vD b,vD c,vD d]])
def jjp:=hd 15 111010 [vT,vP 0,vT,vD a] 38 [.box [vD b]]
def jjq:=hd 16 111010 [vT,vD a,vP 0,vT,vP 1,vT,vR 2,vD b] 37 [.box [vD c],.box [vR 3],.row 3 p,.row 3 q]
def jmE:=MM K (.callv 17 [vP 0] [.box [vD a,vD b,vD c]])
def Yv:=hs (some [0]) 17 111010 [vP 0,vT,vP 1,vP 2,vT,vT,vT,vR 3,vD a,vD b] 12 [.box [vD c,vD d,vD e],.box [vR 4],.box [vR 5],.row 1 p,.row 3 q,.row 3 r]
def jdc:=MM K (.callv 18 [vP 0,vD a] [.box [vD b,vD c,vD d]])
def Zr:=hs (some [0]) 18 111010 ([vP 0]++tp 4++[vR 1,vD a]) 40 [.box [vD b,vD c,vD d],.row 3 p]
def jjh:=MM K (.callv 19 [vP 0] [.box [vD a,vD b,vD c]])
def jjr:=hd 20 11010 ([vT,vP 0]++tp 4++[vD a,vD b,vD c]) 27 [.box [vD d]]
def jjs:=hd 23 111010 [vD a,vT,vP 0,vP 1,vD b] 20 [.box [vR 2],.box [vR 3],.row 3 p,.row 3 q]
def jjt:=hd 24 11010 [vT,vP 0,vT,vD a] 51 [.box [vD b]]
def jfD:=hd 25 11010 ([vT,vP 0]++tp 4++[vD a,vD b,vD c]) 41 [.box [vD d]]
def jju:=hd 26 111010 [vD a,vT,vT,vP 0,vT,vR 1,vD b] 23 [.box [vD c],.row 1 p]
def jjv:=hd 27 111010 [vD a,vD b,vT,vT,vT,vP 0,vT,vR 1,vD c] 92 [.box [vD d],.row 1 p]
def jfE:=hd 27 11111010 [vD a,vD b,vT,vT,vT,vP 0,vT,vR 1,vT,vD c,vD d] 90 [.box [vD e],.row 1 p]
def jbj:=hd 27 111111010 [vD a,vD b,vT,vT,vT,vP 0,vT,vR 1,vT,vD c,vT,vD d] 89 [.box [vD e],.row 1 p]
def jjw:=hd 27 111111010010011010 [vD a,vD b,vT,vT,vT,vP 0,vT,vR 1,vT,vD c,vT,vD d,vP 2,vD e,vD f] 86 [.box [vD g],.row 1 p,.box [vR 3,vR 4],.row 1 q,.row 1 r]
def jfF:=hd 27 11111101001001111010 [vD a,vD b,vT,vT,vT,vP 0,vT,vR 1,vT,vD c,vT,vD d,vP 2,vT,vT,vD e,vD f] 84 [.box [vD g],.row 1 p,.box [vR 3,vR 4],.row 1 q,.row 1 r]
def jjx:=hd 28 11010 ([vT,vP 0]++tp 4++[vD a,vD b,vD c]) 43 [.box [vD d]]
def jjy:=hd 29 111010 ([vT,vT,vP 0,vT,vP 1,vT,vR 2]++tp 5++[vD a,vD b,vD c]) 26 [.box [vD d],.box [vR 3],.row 3 p,.row 3 q]
def jmR:=hd 3 1111111111010 ([vD a,vT,vT,vP 0,vP 1]++tp 6++[vP 2,vD b,vD c]) 109 [.box [vD d],.box [vD e],.box [vD f]]
def jkY:=hd 3 111111111101001001010 ([vD a,vT,vT,vP 0,vP 1]++tp 6++[vP 2,vD b,vD c,vD d,vD e]) 107 [.box [vD f],.box [vD g],.box [vD h]]
def JM:=MM K (.callv 30 [vP 0,vD a] [.box [vD b,vD c,vD d]])
def jji:=MM K (.callv 31 [vP 0] [.box [vD a,vD b,vD c]])
def qT:=MM K (.callv 33 [vP 0,vR 1] [.box [vD a,vD b,vD c],.row 1 p])
def jjz:=hd 36 1111010 [vT,vT,vP 0,vP 1,vP 2,vT,vP 3,vD a] 42 [.box [vD b],.box [vD c,vD d],.box [vD e,vR 4],.box [vD f,vR 5],.row 2 p,.row 2 q]
def jde:=hd 37 111010 [vD a,vT,vP 0,vR 1,vD b] 69 [.box [vR 2],.row 3 p,.row 3 q]
def jjA:=hd 37 1110100100100 [vD a,vT,vP 0,vR 1,vD b,vD c] 68 [.box [vR 2],.row 3 p,.row 3 q]
def jmF:=MM K (.callv 37 [vR 0] [.row 3 p])
def Zs:=hs (some [0]) 37 111010 [vR 0,vT,vP 1,vR 2,vD a] 69 [.row 3 p,.box [vR 3],.row 3 q,.row 3 r]
def jaN:=hs (some [0]) 37 1110100100100 [vR 0,vT,vP 1,vR 2,vD a,vD b] 68 [.row 3 p,.box [vR 3],.row 3 q,.row 3 r]
def jmG:=MM K (.callv 38 [V.agg [V.row 0],vD a,vD b] [.row 3 p])
def Yw:=hs (some [3]) 38 111100 [vT,vD a,vT,vP 0,vT,vP 1,vP 2,vD b] 43 [.box [vR 3],.box [vD c,vD d],.box [vR 4],.row 3 p,.row 3 q]
def jmH:=MM K (.callv 38 [V.agg [V.row 0],vD a,V.agg [V.d b,V.row 1]] [.row 3 p,.row 2 q])
def Yx:=hs (some [3,4]) 38 111100 [vT,vD a,vT,vP 0,vT,vP 1,vP 2,vD b] 43 [.box [vR 3],.box [vD c,vR 4],.box [vR 5],.row 3 p,.row 2 q,.row 3 r]
def KG:=MM K (.callv 39 [vP 0] [.box [vD a,vD b,vD c]])
def jjj:=MM K (.callv 40 [vP 0] [.box [vD a,vD b,vD c]])
def jjB:=hd 41 111010 [vT,vP 0,vP 1,vP 2,vD a] 22 [.box [vD b,vD c],.box [vD d,vR 3],.box [vD e,vR 4],.row 2 p,.row 2 q]
def jfG:=hd 44 111010 ([vD a,vD b,vT,vT,vT,vP 0]++tp 12++[vD c,vD d,vD e]) 34 [.box [vD f]]
def jdf (r0 r1 r2:List (List A)):Option Out:=MM K (.rhead 45 [1,1,0,1,0] [V.top,V.top,V.ptr 0 0,V.top,V.ptr 1 0,V.top,V.top,V.top,V.top,V.ptr 2 0,V.top,V.top,V.top,V.top,V.top,V.top,V.top,V.top,V.top,V.top,V.top,V.top,V.top,V.top,V.top,V.top,V.top,V.top,V.top,V.top,V.top,V.top,V.top,V.top,V.top,V.top] [.box [V.row 3],.box [V.row 4],.gone,.row 3 r0,.row 3 r1] none r2)
def jbk:=hd 46 111010 [vT,vD a,vT,vD b,vP 0,vT,vP 1,vT,vT,vT,vD c] 63 [.box [vD d],.box [vD e]]
def jdg:=hd 47 111010 [vD a,vT,vT,vD b] 25 []
def jfB:=MM K (.callv 51 [vR 0,vD a] [.row 1 p])
def Zt:=hs (some [0]) 51 11010010 [vR 0,vT,vT,vP 1,vT,vD a] 57 [.row 1 p,.box [vD b,vD c]]
def jaO:=hs (some [0]) 51 111010 [vR 0,vT,vT,vP 1,vT,vT,vD a] 56 [.row 1 p,.box [vD b,vD c]]
def jaP:=hs (some [2]) 51 111010 [vR 0,vT,vT,vP 1,vT,vT,vD a] 56 [.row 1 p,.box [vD b,vD c],.gone]
def jmI:=MM K (.callv 52 [V.agg [V.row 0,V.row 1],vD a,vD b] [.row 1 p,.row 1 q])
def jfH:=hd 53 111010 ([vD a,vD b]++tp 4++[vP 0,vP 1,vT,vR 2,vD c]) 43 [.box [vD d,vD e],.box [vD f,vD g],.row 1 p]
def jfI:=hd 54 11010 ([vD a]++tp 4++[vD b,vD c]) 33 []
def jjC:=hd 58 111010 [vT,vT,vP 0,vP 1,vT,vT,vT,vD a,vD b,vD c] 19 [.box [vR 2],.box [vR 3],.row 3 p,.row 3 q]
def jjk:=MM K (.callv 59 [vP 0] [.box [vD a,vD b,vD c]])
def jmJ:=MM K (.callv 60 [vP 0] [.box [vD a,vD b,vD c]])
def jjD:=hd 62 1111010 [vT,vP 0,vT,vD a] 31 [.box [vD b,vD c]]
def JN:=hd 63 1111010 [vD a,vT,vT,vD b] 41 []
def jfJ:=hd 64 1111010 [vT,vT,vP 0,vP 1,vT,vT,vT,vD a] 67 [.box [vD b,vD c],.box [vD d,vD e]]
def jfK:=hd 65 11010 [vT,vD a,vP 0,vT,vT,vD b] 16 [.box [vD c]]
def qw:=MM K (.callv 66 [vP 0,vD a] [.box [vD b,vD c,vD d]])
def jmK:=MM K (.callv 67 [vP 0] [.box [vD a,vD b,vD c]])
def jfL:=hd 69 111010 [vT,vT,vT,vD a,vT,vT,vD b,vD c,vD d] 9 []
def jmL:=MM K (.callv 73 [vD a] [])
def jaQ (r0 r1:List (List A)):Option Out:=MM K (.rhead 73 [1,1,0,1,0] [V.top,V.top,V.top,V.row 0,V.top,V.top,V.top,V.top,V.ptr 1 0,V.top,V.top,V.top,V.top,V.top,V.top,V.top,V.top,V.top] [.map r0,.gone] (some []) r1)
def jfC:=MM K (.callv 74 [vR 0,vD a,V.agg [V.d b,V.d c]] [.map p])
def Yy:=hs (some [0]) 74 1111010 ([vR 0]++tp 4++[vP 1]++tp 46++[vD a,vD b,vD c]) 14 [.map p,.box [vD d,vD e]]
def KH:=MM K (.callv 74 [vR 0,V.agg [V.d a,V.d b],vD c] [.map p])
def Yz:=hs (some [0]) 74 1111010 ([vR 0]++tp 4++[vP 1]++tp 46++[vD a,vD b,vD c]) 14 [.map p,.box [vD d,vD e]]
def jjl:=MM K (.callv 76 [vR 0,V.fn 77 []] [.row 3 p])
def jbf:=MM K (.callv 79 [vD a,vD b,vR 0] [.row 3 p])
def YA:=hs (some [0]) 79 11010010 [vT,vT,vR 0,vP 1,vP 2,vT,vT,vT,vD a] 77 [.row 3 p,.box [vD b,vD c],.box [vD d,vD e]]
def jaR:=hs (some [0]) 79 1111010 ([vT,vT,vR 0,vP 1,vP 2]++tp 4++[vD a]) 76 [.row 3 p,.box [vD b,vD c],.box [vD d,vD e]]
def jaS:=hs (some [3]) 79 1111010 ([vT,vT,vR 0,vP 1,vP 2]++tp 4++[vD a]) 76 [.row 3 p,.box [vD b,vD c],.box [vD d,vD e],.gone]
def jpa:=hs (some [3]) 79 1111010 ([vT,vT,vR 0,vP 1,vP 2]++tp 4++[vD a]) 76 [.gone,.box [vD b,vD c],.box [vD d,vD e],.gone]
def jjE:=hd 82 111010 ([vT,vD a,vD b]++tp 12++[vD c,vD d,vD e]) 14 []
def jdh:=hd 83 1111010 ([vD a,vD b]++tp 4++[vP 0,vP 1,vT,vR 2,vD c]) 53 [.box [vD d,vD e],.box [vD f,vD g],.row 1 p]
def jjF:=hd 84 111010 ([vD a,vD b,vD c]++tp 4++[vD d,vD e]) 43 []
def jjG:=hd 84 1111010 ([vD a,vT,vD b]++tp 4++[vD c,vT,vD d]) 42 []
def jmS:=hd 91 1111010 ([vT,vT,vP 0,vT,vP 1,vT,vT,vP 2]++tp 27++[vD a,vD b,vD c]) 13 [.box [vD d],.box [vD e,vR 4],.box [vD f,vR 3],.row 2 p,.row 2 q]
def jmT:=hd 91 1111010 ([vT,vT,vP 0,vT,vP 1,vT,vT,vP 2]++tp 27++[vD a,vD b,vD c]) 13 [.box [vD d],.box [vD e,vR 3],.box [vD f,vR 4],.row 2 p,.row 2 q]
def jmM:=MM K (.callv 93 [vR 0,V.fn 43 []] [.row 3 p])
def jmN:=MM K (.callv 94 [vR 0,V.fn 95 []] [.row 3 p])
def jaT:=hs (some [0]) 94 111010 [vR 0,V.fn 95 [],vT,vT,vT,vD a] 60 [.row 3 p]
def YB:=hs (some [0]) 94 1110100100101010 [vR 0,V.fn 95 [],vT,vT,vT,vD a,V.win 0 3 (nOf b) (nOf c),vD d] 58 [.row 3 p]
def jmO:=MM K (.callv 96 [vP 0,vD a] [.box [vD b,vD c,vD d]])
def Zu:=hs (some [2]) 96 11100 [vT,vD a,vT,vT,vP 0,vP 1] 12 [.box [vD b,vR 3],.box [vD c,vR 4],.box [vD d,vD e,vD f],.row 2 p,.row 2 q]
def jjm:=MM K (.callv 97 [vP 0] [.box [vD a,vD b,vD c]])
def YC:=hs (some [0]) 97 111010 [vP 0,vT,vP 1,vP 2,vD a] 49 [.box [vD b,vD c,vD d],.box [vD e,vR 3],.box [vD f,vR 4],.row 2 p,.row 2 q]
def jaU:=hs (some [0]) 97 11101001001010 [vP 0,vT,vP 1,vP 2,vD a,vP 3,vD b] 47 [.box [vD c,vD d,vD e],.box [vD f,vR 4],.box [vD g,vR 5],.box [vD h,vR 6],.row 2 p,.row 2 q,.row 2 r]
def jjH:=hd 98 111010 [vT,vD a,vP 0,vT,vT,vD b,vD c] 24 [.box [vD d,vD e]]
def jjI:=hd 99 111010 [vT,vP 0,vT,vD a,vD b] 17 [.box [vD c,vD d]]
def e_0 (a:A) (p:List (List A)) (b:A) (c:A) (d:A):Option Out:=jd 3 a λa=>brn (jJ ((jw p)+(jw [[jc a 0,jc a 1,jc a 2]])) 48) (some (A.top,[b,c,d,A.agg [A.sl 3 (km p [[jc a 0,jc a 1,jc a 2]])]])) none
def e_1 (a:A) (b:List A):Option Out:=kbN a (jm (A.tup [A.agg [A.sl 3 []],vb false])) (brn (jP (jc b 0)) (jm (A.tup [kP b,vb true])) none)
def e_2 (p:List (List A)) (a:A) (b:A) (c:A):Option Out:=(JM (zW p) a b c).bind λa=>jD a 0 λb=>jD a 1 λc=>jD a 2 λd=>jD a 3 λa=>KD (jw p) a λa=>kRN p a 0 3 λa=>jd 3 a λa=>jgu (jc a 0) λe=>(G 41 [A.agg [jc a 1,jc a 2]]).bind λa=>JD a λa=>(kJ (kx (K.at 18) 44) [vb false,sv [],A.sl 2 []] [(0,e),(1,a)]).bind λa=>jd 3 a λa=>brn (jJ ((jw p)+(jw [[jc a 0,jc a 1,jc a 2]])) 48) (some (A.top,[b,c,d,A.sl 3 (km p [[jc a 0,jc a 1,jc a 2]])])) none
def e_3 (a:A) (b:A) (c:A) (d:A) (e:A):Option Out:=(js .rem false a b).bind λa=>some (A.top,[c,d,e,a])
def e_4 (a:List A):Option Out:=brn (jP (jc a 0)) (brn (jP (jc a 0)) (jm (A.agg [jc a 0,A.sl 2 []])) none) none
def e_6 (a:A) (b:A) (c:A) (d:A) (p:List (List A)) (q:List (List A)) (e:A):Option Out:=jG a b λf=>jG a c λg=>ke a (jh 3 f g) λf=>ke a (jF 3 f) λf=>zh a 35 [d,f] λd=>ke a (js .eql false d (vi 0)) λd=>qf a d (vb false) (jv c (vi 1) λa=>jde b a p q) (jc4 3 b c 0 λa=>QC 2 3 b c 1 λd=>(G 41 [d]).bind λd=>JD d λd=>(kJ (kx (K.at 37) 44) [vb false,sv [],A.sl 2 []] [(0,a),(1,d)]).bind λa=>jd 3 a λa=>kB (yV p) (qi p 0) (some e) λd=>brn (jJ (jw (yl p 0 (zo d 0))) 48) (brn (jP (jc a 0)) (brn (jP (jc a 1)) (brn (jP (jc a 2)) (brn (jJ ((jw (yl p 0 (zo d 0)))+(jw [[jc a 0,jc a 1,jc a 2]])) 48) (kB (yV p) (qi p 0) none λf=>kB 0 f (some e) λe=>brn (jJ ((jw (km (yl p 0 (zo d 0)) [[jc a 0,jc a 1,jc a 2]]))+(jw (yl p (0+e) (zo f e)))) 48) (jv c (vi 1) λc=>jde b c (km (km (yl p 0 (zo d 0)) [[jc a 0,jc a 1,jc a 2]]) (yl p (0+e) (zo f e))) q) none) none) none) none) none) none)
def e_5 (a:A) (b:A) (c:A) (d:A) (e:A) (p:List (List A)) (q:List (List A)):Option Out:=jG a b λf=>jG a c λg=>ke a (jh 3 f g) λf=>ke a (jF 3 f) λf=>zh a 35 [d,f] λd=>ke a (js .lss false d (vi 0)) λd=>qf a d (vb false) (jv e (vi 1) λa=>jjA b c a p q) (JW e (zW p) λa=>jp a true λ_=>jG a e λd=>jp a true λf=>brn f (KD (jw p) d λd=>ke a (zB p d 0 3) λd=>e_6 a b c d p q e) (ke a (jF 3 (A.val undef)) λd=>e_6 a b c d p q e))
def jpy (a:A) (b:A) (c:A) (d:A) (p:List (List A)) (q:List (List A)) (r:List (List A)) (e:A):Option Out:=zh a 35 [b,c] λb=>ke a (js .eql false b (vi 0)) λb=>qf a b (vb false) (jv d (vi 1) λa=>Zs a p q r) (KD (jw p) d λa=>kRP p a 0 λa=>KD (jw p) d λb=>kRN p b 1 2 λb=>(G 41 [b]).bind λb=>JD b λb=>(kJ (kx (K.at 37) 44) [vb false,sv [],A.sl 2 []] [(0,a),(1,b)]).bind λa=>jd 3 a λa=>kB (yV q) (qi q 0) (some e) λb=>brn (jJ (jw (yl q 0 (zo b 0))) 48) (brn (jP (jc a 0)) (brn (jP (jc a 1)) (brn (jP (jc a 2)) (brn (jJ ((jw (yl q 0 (zo b 0)))+(jw [[jc a 0,jc a 1,jc a 2]])) 48) (kB (yV q) (qi q 0) none λc=>kB 0 c (some e) λe=>brn (jJ ((jw (km (yl q 0 (zo b 0)) [[jc a 0,jc a 1,jc a 2]]))+(jw (yl q (0+e) (zo c e)))) 48) (jv d (vi 1) λd=>Zs d p (km (km (yl q 0 (zo b 0)) [[jc a 0,jc a 1,jc a 2]]) (yl q (0+e) (zo c e))) r) none) none) none) none) none) none)
def e_9 (a:A) (b:A) (p:List (List A)) (c:A) (q:List (List A)) (r:List (List A)) (d:A):Option Out:=jp a true λ_=>jG a b λe=>jp a true λf=>brn f (KD (jw p) e λe=>ke a (zB p e 0 3) λe=>jpy a c e b p q r d) (ke a (jF 3 (A.val undef)) λe=>jpy a c e b p q r d)
def e_8 (a:A) (b:A) (c:A) (d:A) (e:A) (p:List (List A)) (q:List (List A)) (r:List (List A)):Option Out:=zh a 35 [b,c] λb=>ke a (js .lss false b (vi 0)) λb=>qf a b (vb false) (jv d (vi 1) λa=>jaN e a p q r) (JW d (zW q) λa=>jp a true λ_=>jG a d λb=>jp a true λc=>brn c (KD (jw q) b λb=>ke a (zB q b 0 3) λb=>e_9 a e p b q r d) (ke a (jF 3 (A.val undef)) λb=>e_9 a e p b q r d))
def e_7 (a:A) (b:A) (p:List (List A)) (c:A) (d:A) (q:List (List A)) (r:List (List A)):Option Out:=jp a true λ_=>jG a b λe=>jp a true λf=>brn f (KD (jw p) e λe=>ke a (zB p e 0 3) λe=>e_8 a c e d b p q r) (ke a (jF 3 (A.val undef)) λe=>e_8 a c e d b p q r)
def jpA (c:Out) (a:A) (p:List (List A)) (d:Nat) (b:A):Option Out:=JD c λc=>(kJ (kx (K.at 38) 86) [sv [],sv [],A.sl 2 []] [(0,a),(1,c)]).bind λa=>jd 3 a λa=>brn (jJ ((jw (yl p 0 (zo d 0)))+(jw [[jc a 0,jc a 1,jc a 2]])) 56) (kB (yV p) (qi p 0) none λc=>kB 0 c (some b) λb=>brn (jJ ((jw (km (yl p 0 (zo d 0)) [[jc a 0,jc a 1,jc a 2]]))+(jw (yl p (0+b) (zo c b)))) 56) (some (A.top,[A.sl 3 (km (km (yl p 0 (zo d 0)) [[jc a 0,jc a 1,jc a 2]]) (yl p (0+b) (zo c b)))])) none) none
def jpz (a:A) (b:A) (c:A) (d:A) (e:A) (f:A) (p:List (List A)) (q:List (List A)):Option Out:=jG a b λg=>ke a (js .lss false c g) λc=>qf a c (vb false) (jv d (vi 1) λa=>Yw b a e f p q) (kB (yV p) (qi p 0) (some d) λa=>brn (jJ (jw (yl p 0 (zo a 0))) 56) ((G 41 [A.agg [e,f]]).bind λc=>jpA c b p a d) none)
def jpB (a:A) (b:A) (c:A) (d:A) (e:A) (p:List (List A)) (q:List (List A)) (r:List (List A)):Option Out:=jG a b λf=>ke a (js .lss false c f) λc=>qf a c (vb false) (jv d (vi 1) λa=>Yx b a e p q r) (kB (yV p) (qi p 0) (some d) λa=>brn (jJ (jw (yl p 0 (zo a 0))) 56) ((G 41 [A.agg [e,A.sl 2 q]]).bind λc=>jpA c b p a d) none)
def jpC (a:A) (b:A) (c:A) (d:A) (p:List (List A)):Option Out:=brn (jP a) (some (A.top,[b,c,d,a,A.sl 2 p])) none
def jpD (a:A) (b:A) (c:A) (d:A) (e:A) (f:A) (g:A) (h:A) (p:List (List A)):Option Out:=qf a (vb true) b (jv c (vi 1) λa=>jfG d e f g a h) (kSl 3 e (some (vi 1)) none λa=>(G 44 [A.mp p,a,A.agg [h]]).bind λa=>JD a λa=>Jl a 0 λb=>Jl a 1 λa=>JL a (jm (A.tup [b,vb true])) (jv c (vi 1) λa=>jfG d e f g a h))
def jpE (a:A) (b:A) (p:List (List A)) (c:A):Option Out:=Y1 a b (J6 2 2 b a λd=>(jfB d p).bind λd=>Ju 1 d 0 λd=>jv a (vi 1) λa=>jaP a c b d) (some (A.top,[A.sl 1 p]))
def jpF (a:A) (b:A) (c:A):Option Out:=jkb a (A.val (.int .u64 40)) λd=>(js .and false d (A.val (.int .u64 255))).bind λd=>(qy .i64 d).bind λd=>some (A.top,[b,c,a,d])
def jil (a:A) (b:A) (c:A) (d:A) (p:List (List A)):Option Out:=brn (jP a) (some (A.top,[b,c,d,A.agg [a,A.sl 2 p]])) none
def jpG (a:A) (b:A) (c:A):Option Out:=(qT a b c [[sv [88]],[sv [89]],[sv [90]],[sv [97]],[sv [98]],[sv [88]],[sv [97]]]).bind λa=>jD a 0 λb=>jD a 1 λc=>jD a 2 λd=>jD a 3 λa=>brn (jP a) (brn (jP a) (some (A.top,[b,c,d,a,A.sl 2 []])) none) none
def jpH (a:A) (b:A) (c:A) (d:A):Option Out:=(KF (vi 2) a b c).bind λa=>jD a 0 λb=>jD a 1 λc=>jD a 2 λe=>jD a 3 λa=>JL a (JX d (vi 1) λa=>(qw a b c e).bind λa=>jD a 0 λb=>jD a 1 λc=>jD a 2 λd=>jD a 3 λe=>Ju 2 a 4 λa=>brn (jP e) (some (A.top,[b,c,d,sv [102],A.sl 2 [[e,A.sl 2 a]]])) none) (JX d (vi 1) λa=>(qw a b c e).bind λa=>jD a 0 λb=>jD a 1 λc=>jD a 2 λe=>jD a 3 λf=>Ju 2 a 4 λa=>JX d (vi 1) λd=>(qw d b c e).bind λb=>jD b 0 λc=>jD b 1 λd=>jD b 2 λe=>jD b 3 λg=>Ju 2 b 4 λb=>brn (jP f) (brn (jP g) (some (A.top,[c,d,e,sv [103],A.sl 2 [[f,A.sl 2 a],[g,A.sl 2 b]]])) none) none)
def jpI (a:A) (b:A) (c:A):Option Out:=(KG a b c).bind λa=>jD a 0 λb=>jD a 1 λc=>jD a 2 λd=>jD a 3 λe=>Ju 2 a 4 λa=>(KG b c d).bind λb=>jD b 0 λc=>jD b 1 λd=>jD b 2 λf=>jD b 3 λg=>Ju 2 b 4 λb=>brn (jP e) (brn (jP g) (some (A.top,[c,d,f,sv [61],A.sl 2 [[e,A.sl 2 a],[g,A.sl 2 b]]])) none) none
def jpK (a:A) (b:A) (c:A):Option Out:=(qw (vi 2) a b c).bind λa=>jD a 0 λb=>jD a 1 λc=>jD a 2 λd=>jD a 3 λe=>Ju 2 a 4 λa=>(qw (vi 2) b c d).bind λb=>jD b 0 λc=>jD b 1 λd=>jD b 2 λf=>jD b 3 λg=>Ju 2 b 4 λb=>brn (jP e) (brn (jP g) (some (A.top,[c,d,f,sv [113],A.sl 2 [[e,A.sl 2 a],[g,A.sl 2 b]]])) none) none
def jpL (a:A) (b:A) (c:A):Option Out:=(qw (vi 2) a b c).bind λa=>jD a 0 λb=>jD a 1 λc=>jD a 2 λd=>jD a 3 λe=>Ju 2 a 4 λa=>brn (jP e) (some (A.top,[b,c,d,sv [112],A.sl 2 [[e,A.sl 2 a]]])) none
def jpJ (a:A) (b:A) (c:A) (d:A):Option Out:=kq a (vi 2) (some (A.top,[b,c,d,sv [114],A.sl 2 []])) (kT a (vi 3) λe=>JL e (JL e (jpK b c d) (jpL b c d)) (kq a (vi 4) (jpK b c d) (jpL b c d)))
def jpM (a:A) (b:A) (c:A) (d:A):Option Out:=JL a (JL b (jm (vi 0)) (jm (vi (- 1)))) (JL b (jm (vi 1)) (jL c d (jm (vi (- 1))) (yC c d (jm (vi 1)) (jm (vi 0)))))
def jpO:Option Out:=((pNo (vb false)).bind λ_=>some [[]]).bind λa=>some (A.top,vb false::(slL [259] a))
def jpN (a:A) (b:A) (c:A) (p:List (List A)) (d:A) (e:A):Option Out:=Y1 a b (J6 2 2 b a λf=>J6 2 2 c a λg=>(jbf f g p).bind λf=>jD f 0 λg=>Ju 259 f 1 λf=>JL g (kbN g jpO (jv a (vi 1) λa=>jaS a d b e c f)) (kbN g jpO (jv a (vi 1) λa=>jpa a d b e c))) (some (A.top,[vb true,A.sl 259 p]))
def jpP (a:A) (b:A) (c:A):Option Out:=Y2 a b λb=>jG b a λa=>jG b c λc=>ke b (js .leq false a c) λa=>jT b a (vb false) λa=>jm a
def jpQ (a:A) (b:A) (c:A) (d:A) (p:List (List A)) (e:A) (f:A) (q:List (List A)):Option Out:=jL a b (J6 2 2 c a λg=>jd 2 g λg=>kF 91 [A.agg [d],zd g] λg=>KD (jw p) a λh=>jd 2 g λg=>kRG p h λi=>jv a (vi 1) λa=>jmT c b a d e f q (Jd p h (Jr i 0 [jc g 0,jc g 1]))) (brn (jP f) (jm (A.agg [f,A.sl 2 p])) none)
theorem cev:type_of% (And.intro @jd.eq_1 (And.intro @Jl.eq_1 (And.intro @jT.eq_1 (And.intro @jp.eq_1 (And.intro @ky.eq_1 (And.intro @jG.eq_1 (And.intro @kM.eq_1 (And.intro @ke.eq_1 (And.intro @zI.eq_1 (And.intro @zh.eq_1 (And.intro @jaF.eq_1 (And.intro @kF.eq_1 (And.intro @JD.eq_1 (And.intro @kfn.eq_1 (And.intro @jgu.eq_1 (And.intro @jD.eq_1 (And.intro @Ju.eq_1 (And.intro @KD.eq_1 (And.intro @kB.eq_1 (And.intro @kRN.eq_1 (And.intro @kRG.eq_1 (And.intro @kIS.eq_1 (And.intro @kSl.eq_1 (And.intro @kRP.eq_1 (And.intro @kMk.eq_1 (And.intro @kRs.eq_1 (And.intro @kLS.eq_1 (And.intro @jv.eq_1 (And.intro @kT.eq_1 (And.intro @Y2.eq_1 (And.intro @jka.eq_1 (And.intro @jad.eq_1 (And.intro @JW.eq_1 (And.intro @ZX.eq_1 (And.intro @Y3.eq_1 (And.intro @jgv.eq_1 (And.intro @jkb.eq_1 (And.intro @JX.eq_1 (And.intro @JL.eq_1 (And.intro @qf.eq_1 (And.intro @kbN.eq_1 (And.intro @Y1.eq_1 (And.intro @kF2.eq_1 (And.intro @kFN.eq_1 (And.intro @J6.eq_1 (And.intro @kIP.eq_1 (And.intro @QC.eq_1 (And.intro @jc4.eq_1 (And.intro @jL.eq_1 (And.intro @jbU.eq_1 (And.intro @yC.eq_1 (And.intro @jbT.eq_1 (And.intro @kq.eq_1 (And.intro @Kh.eq_1 (And.intro @jm.eq_1 (And.intro @kP.eq_1 (And.intro @zd.eq_1 (And.intro @jln.eq_1 (And.intro @e_0.eq_1 (And.intro @e_1.eq_1 (And.intro @e_2.eq_1 (And.intro @e_3.eq_1 (And.intro @e_4.eq_1 (And.intro @e_6.eq_1 (And.intro @e_5.eq_1 (And.intro @jpy.eq_1 (And.intro @e_9.eq_1 (And.intro @e_8.eq_1 (And.intro @e_7.eq_1 (And.intro @jpA.eq_1 (And.intro @jpz.eq_1 (And.intro @jpB.eq_1 (And.intro @jpC.eq_1 (And.intro @jpD.eq_1 (And.intro @jpE.eq_1 (And.intro @jpF.eq_1 (And.intro @jil.eq_1 (And.intro @jpG.eq_1 (And.intro @jpH.eq_1 (And.intro @jpI.eq_1 (And.intro @jpK.eq_1 (And.intro @jpL.eq_1 (And.intro @jpJ.eq_1 (And.intro @jpM.eq_1 (And.intro @jpO.eq_1 (And.intro @jpN.eq_1 (And.intro @jpP.eq_1 (@jpQ.eq_1)))))))))))))))))))))))))))))))))))))))))))))))))))))))))))))))))))))))))))))))))))))))):=And.intro @jd.eq_1 (And.intro @Jl.eq_1 (And.intro @jT.eq_1 (And.intro @jp.eq_1 (And.intro @ky.eq_1 (And.intro @jG.eq_1 (And.intro @kM.eq_1 (And.intro @ke.eq_1 (And.intro @zI.eq_1 (And.intro @zh.eq_1 (And.intro @jaF.eq_1 (And.intro @kF.eq_1 (And.intro @JD.eq_1 (And.intro @kfn.eq_1 (And.intro @jgu.eq_1 (And.intro @jD.eq_1 (And.intro @Ju.eq_1 (And.intro @KD.eq_1 (And.intro @kB.eq_1 (And.intro @kRN.eq_1 (And.intro @kRG.eq_1 (And.intro @kIS.eq_1 (And.intro @kSl.eq_1 (And.intro @kRP.eq_1 (And.intro @kMk.eq_1 (And.intro @kRs.eq_1 (And.intro @kLS.eq_1 (And.intro @jv.eq_1 (And.intro @kT.eq_1 (And.intro @Y2.eq_1 (And.intro @jka.eq_1 (And.intro @jad.eq_1 (And.intro @JW.eq_1 (And.intro @ZX.eq_1 (And.intro @Y3.eq_1 (And.intro @jgv.eq_1 (And.intro @jkb.eq_1 (And.intro @JX.eq_1 (And.intro @JL.eq_1 (And.intro @qf.eq_1 (And.intro @kbN.eq_1 (And.intro @Y1.eq_1 (And.intro @kF2.eq_1 (And.intro @kFN.eq_1 (And.intro @J6.eq_1 (And.intro @kIP.eq_1 (And.intro @QC.eq_1 (And.intro @jc4.eq_1 (And.intro @jL.eq_1 (And.intro @jbU.eq_1 (And.intro @yC.eq_1 (And.intro @jbT.eq_1 (And.intro @kq.eq_1 (And.intro @Kh.eq_1 (And.intro @jm.eq_1 (And.intro @kP.eq_1 (And.intro @zd.eq_1 (And.intro @jln.eq_1 (And.intro @e_0.eq_1 (And.intro @e_1.eq_1 (And.intro @e_2.eq_1 (And.intro @e_3.eq_1 (And.intro @e_4.eq_1 (And.intro @e_6.eq_1 (And.intro @e_5.eq_1 (And.intro @jpy.eq_1 (And.intro @e_9.eq_1 (And.intro @e_8.eq_1 (And.intro @e_7.eq_1 (And.intro @jpA.eq_1 (And.intro @jpz.eq_1 (And.intro @jpB.eq_1 (And.intro @jpC.eq_1 (And.intro @jpD.eq_1 (And.intro @jpE.eq_1 (And.intro @jpF.eq_1 (And.intro @jil.eq_1 (And.intro @jpG.eq_1 (And.intro @jpH.eq_1 (And.intro @jpI.eq_1 (And.intro @jpK.eq_1 (And.intro @jpL.eq_1 (And.intro @jpJ.eq_1 (And.intro @jpM.eq_1 (And.intro @jpO.eq_1 (And.intro @jpN.eq_1 (And.intro @jpP.eq_1 (@jpQ.eq_1)))))))))))))))))))))))))))))))))))))))))))))))))))))))))))))))))))))))))))))))))))))))
theorem jrw (r0 r1 r2:List (List A)):jdf r0 r1 r2=allR r2 ((jjl r1).bind λt1=>(hR 3 t1 0).bind λt2=>((G 28 [A.agg [A.sl 3 t2]]).bind (fin true)).bind λt3=>(K6 .not t3).bind λt4=>(zi t4).bind λt5=>brn t5 (some ((A.tup [A.agg [A.sl 3 []],vb false],[]))) (some ((A.tup [A.agg [A.sl 3 t2],vb true],[])))) (λt6 t7=>brn (jiv t6) ((Km (A.tup [jc t6 0,jc t6 1]) 0).bind λt8=>(Km (A.tup [jc t6 0,jc t6 1]) 1).bind λt9=>(K1 2 t9).bind λt10=>(js .neq false (jc t10 0) t8).bind λt11=>(zi t11).bind λt12=>brn t12 (((G 75 [A.agg [jc t10 0,jc t10 1]]).bind (fin false)).bind λt13=>(kJ (kx (K.at 45) 86) [sv [],sv [],A.sl 2 []] [(0,t8),(1,t13)]).bind λt14=>(K1 3 t14).bind λt15=>brn (jJ ((jw r1)+(jw [[jc t15 0,jc t15 1,jc t15 2]])) 56) (jdf r0 (km r1 [[jc t15 0,jc t15 1,jc t15 2]]) t7) (none)) (jdf r0 r1 t7)) (none)):=(jq1 Tryz.func45 rfl).trans (by kernel_rfl)
theorem jki (r0 r1:List (List A)):jaQ r0 r1=allR r1 (some ((A.top,[A.sl 128 r0]))) (λt1 t2=>brn (jiv t1) ((Km (A.tup [jc t1 0,jc t1 1]) 0).bind λt3=>(Km (A.tup [jc t1 0,jc t1 1]) 1).bind λt4=>(K1 2 t4).bind λt5=>(je9 none r0 t3 (A.agg [jc t5 0,jc t5 1])).bind λt6=>jaQ (jid t6) t2) (none)):=(jq1 Tryz.func73 rfl).trans (by kernel_rfl)
theorem jtU (r0:List (List A)):jjl r0=extRun K (MM K) (Go.Proofs.YtdbgbieenhcldaaGreat.Abs.sfE 3) [V.row 0,V.fn 77 []] [.row 3 r0]:=jtm rfl
theorem jtW (r0:List (List A)):jmM r0=extRun K (MM K) (Go.Proofs.YtdbgbieenhcldaaGreat.Abs.sfE 3) [V.row 0,V.fn 43 []] [.row 3 r0]:=jtm rfl
theorem g10:G 10 [a,b,c]=jd 1 c λc=>Yu a b (vi 1) (jc c 0):=gq Tryz.func10
theorem jrc:Yu a b c d=jL c (vi 4) (jjn a b c (vb true) (vi 0) d) (jm (vb true)):=hq Tryz.func10
theorem jrd:jjn a b c d e f=ky b λg=>JW e g λg=>jG g d λh=>qf g h (vb false) (J6 1 1 b e λd=>kF 26 [c,d] λd=>jG d a λg=>jG d c λh=>jG d b λi=>jG d e λj=>ke d (jh 1 i j) λi=>ke d (jF 1 i) λi=>zh d 27 [g,h,i] λg=>jT d g (vb false) λd=>jv e (vi 1) λe=>jjn a b c d e f) (jG d a λe=>jG d c λg=>jp d true λ_=>zh d 27 [e,g,A.agg [f]] λe=>ke d (K6 .not e) λe=>qf d e (vb false) (jm (vb false)) (jv c (vi 1) λc=>Yu a b c f)):=hq Tryz.func10
theorem jvP:G 100 [a,b]=jL a b (jm (vi (- 1))) (yC a b (jm (vi 1)) (jm (vi 0))):=gq Tryz.func100
theorem jvQ:G 101 [a]=kLS a λb=>jbh a b (vi 0):=gq Tryz.func101
theorem jeK:jbh a b c=jL c b (kT c (vi 0) λd=>jG d a λe=>jG d c λf=>ke d (j8 e f) λe=>zh d 86 [e] λe=>ke d (K6 .not e) λe=>jT d e (vb false) λd=>kM d a λe=>kM d c λf=>zI d (j8 e f) λe=>jaF d 86 [e] λe=>zI d (K6 .not e) λe=>kM d e λe=>jG e a λf=>jG e c λg=>ke e (j8 f g) λf=>zh e 87 [f] λf=>ke e (K6 .not f) λf=>zI d (yr e f (vb false)) λe=>kM d e λe=>jG e a λf=>jG e c λg=>ke e (j8 f g) λf=>ke e (js .neq false f (vy 95)) λf=>zI d (yr e f (vb false)) λe=>qf d (vb true) e (jm (vb false)) (jv c (vi 1) λc=>jbh a b c)) (kLS a λb=>kF 88 [b,vi 1,vi 6] λb=>zh b 120 [] λc=>jG b a λa=>zh b 119 [c,a] λa=>ke b (K6 .not a) λa=>jT b a (vb false) λa=>jm a):=hq Tryz.func101
theorem jsx:G 102 [a]=jd 2 a λa=>kIS (jc a 0) (vi 0) λa=>kF 85 [a] λa=>jm a:=gq Tryz.func102
theorem jvR:G 103 [a,b,c]=ky a λd=>jel a b c a d (vi 0):=gq Tryz.func103
theorem jnE:jel a b c d e f=jL f e (J6 2 2 d f λg=>jd 2 g λg=>ky b λh=>jbT f h (jm (vi 1)) (J6 2 2 b f λh=>jd 2 h λh=>(DX.run K (MM K) (.callc c [zd g,zd h] false)).bind λg=>Kh g (vi 0) (jm g) (jv f (vi 1) λf=>jel a b c d e f))) (ky a λa=>Y1 a b (jm (vi (- 1))) (jm (vi 0))):=hq Tryz.func103
theorem jua:G 104 [a]=Y3 a a λa=>jm a:=gq Tryz.func104
theorem jsh:jh1 a=ky a λb=>kq b (vi 0) (some (A.top,[A.sl 2 []])) (ky a λb=>kMk 40 b b λb=>ky a λc=>Yt a c (vi 0) (KA b [sv [],A.sl 2 []])):=vq Tryz.func105
theorem jgx:Yt a b c p=jL c b (J6 2 2 a c λd=>jd 2 d λd=>kF 75 [zd d] λd=>KD (jw p) c λe=>jd 2 d λd=>kRG p e λf=>jv c (vi 1) λc=>Yt a b c (Jd p e (Jr f 0 [jc d 0,jc d 1]))) (some (A.top,[A.sl 2 p])):=hq Tryz.func105
theorem jub:G 108 [a]=Y3 a a λa=>jm a:=gq Tryz.func108
theorem jvS:G 109 [a,b]=jd 2 a λa=>jd 2 b λb=>Y3 (jc a 0) (jc b 0) λc=>jp c false λ_=>kM c (jc a 1) λd=>zI c (yq d) λd=>jp c false λ_=>kM c (jc b 1) λe=>zI c (yq e) λe=>zI c (js .neq false d e) λd=>qf c (vb true) d (jm (vb false)) (jem (vi 0) (jc a 0) (jc a 1) (jc b 0) (jc b 1)):=gq Tryz.func109
theorem jnF:jem a b c d e=Y1 a c (J6 2 2 c a λf=>J6 2 2 e a λg=>kF 109 [f,g] λf=>kbN f (jm (vb false)) (jv a (vi 1) λa=>jem a b c d e)) (jm (vb true)):=hq Tryz.func109
theorem g11:G 11 [a,b]=jd 1 a λa=>jd 1 b λb=>kFN 28 [kP a] λc=>jp c false λ_=>jaF c 20 [kP b] λd=>zI c (K6 .not d) λd=>qf c (vb true) d (jm (A.tup [A.agg [A.sl 3 []],vb false])) ((G 29 [kP a,jc b 0]).bind λa=>JD a λa=>Jl a 0 λb=>Jl a 1 λa=>jd 1 b λb=>jm (A.tup [kP b,a])):=gq Tryz.func11
theorem jvT:G 110 [a,b]=jd 2 a λa=>ky (jc a 0) λc=>JX c (vi 1) λc=>jen b c (jc a 0) (jc a 1):=gq Tryz.func110
theorem jnG:jen a b c d=jbT b (vi 0) (kIP 1 c b λe=>kq e a (kIP 1 d b λa=>jm a) (JX b (vi 1) λb=>jen a b c d)) (jm (vi 0)):=hq Tryz.func110
theorem jvU:G 111 [a,b]=Y1 b a (kIP 1 a b λa=>(qy .i64 a).bind λa=>jm a) (ZX b (vi 7) λb=>ky a λa=>jv b a λa=>(js .rem false a (vi 256)).bind λa=>jm a):=gq Tryz.func111
theorem jvV:G 112 [a]=jd 2 a λa=>ky (jc a 1) λb=>jeo (vi 1) (jc a 1) b (vi 0):=gq Tryz.func112
theorem jix:jeo a b c d=jL d c (J6 2 2 b d λe=>jd 2 e λe=>yC a (vi 30) (jm a) (kF 112 [zd e] λe=>jv a e λa=>jv d (vi 1) λd=>jeo a b c d)) (jm a):=hq Tryz.func112
theorem jvW:G 113 [a]=jd 2 a λa=>ky (jc a 1) λb=>jep (vi 0) (jc a 1) b (vi 0):=gq Tryz.func113
theorem jnH:jep a b c d=jL d c (J6 2 2 b d λe=>jd 2 e λe=>kF 113 [zd e] λe=>(jiQ a e).bind λa=>jv d (vi 1) λd=>jep a b c d) (jv a (vi 1) λa=>jm a):=hq Tryz.func113
theorem jvX:G 114 [a,b]=kF 131 [a,b] λa=>Y2 a (vi 0) λa=>jm a:=gq Tryz.func114
theorem jvY:G 115 [a]=jd 2 a λa=>kFN 90 [zd a] λa=>jm a:=gq Tryz.func115
theorem jvZ:G 116 [a,b]=jd 1 a λa=>kF2 132 [jc a 0,b,A.fn 133 []] λb c=>kbN c (jm (A.tup [A.agg [sv [],A.sl 2 []],vb false])) (QC 2 3 (jc a 0) b 1 λa=>jd 2 a λa=>jm (A.tup [zd a,vb true])):=gq Tryz.func116
theorem jv0:G 118 [a,b]=yC a b (jm a) (jm b):=gq Tryz.func118
theorem jv1:G 119 [a,b]=kF 142 [a,b] λa=>Y2 a (vi 0) λa=>jm a:=gq Tryz.func119
theorem g12:G 12 [a,b]=jd 2 a λa=>jd 2 b λb=>Y3 (jc a 0) (jc b 0) λc=>jp c false λ_=>kM c (jc a 1) λd=>zI c (yq d) λd=>jp c false λ_=>kM c (jc b 1) λe=>zI c (yq e) λe=>zI c (js .neq false d e) λd=>qf c (vb true) d (jm (vb false)) (jjo (vi 0) (jc a 0) (jc a 1) (jc b 0) (jc b 1)):=gq Tryz.func12
theorem jre:jjo a b c d e=Y1 a c (J6 2 2 c a λf=>J6 2 2 e a λg=>kF 12 [f,g] λf=>kbN f (jm (vb false)) (jv a (vi 1) λa=>jjo a b c d e)) (jm (vb true)):=hq Tryz.func12
theorem jv2:G 120 []=jm (A.sl 1 [[sv [116,114,117,101]],[sv [102,97,108,115,101]],[sv [116,114,117,116,104]],[sv [98,111,116,104]],[sv [101,105,116,104,101,114]],[sv [105,102]],[sv [97,108,108]],[sv [115,111,109,101]]]):=gq Tryz.func120
theorem jv3:G 131 [a,b]=ky a λc=>jeq a b c (vi 0):=gq Tryz.func131
theorem jnI:jeq a b c d=jL d c (J6 2 2 a d λe=>(DX.run K (MM K) (.callc b [e] false)).bind λe=>JL e (jm d) (jv d (vi 1) λd=>jeq a b c d)) (jm (vi (- 1))):=hq Tryz.func131
theorem jv4:G 132 [a,b,c]=ky a λd=>jbi a b c d (vi 0) d:=gq Tryz.func132
theorem jnJ:jbi a b c d e f=jL e f (jv e f λg=>(qy .u64 g).bind λg=>jkb g (A.val (.int .u64 1)) λg=>(qy .i64 g).bind λg=>J6 3 3 a g λh=>(DX.run K (MM K) (.callc c [h,b] false)).bind λh=>jL h (vi 0) (jv g (vi 1) λe=>jbi a b c d e f) (jbi a b c d e g)) (JW e d λd=>jG d c λc=>jG d a λa=>jG d e λf=>ke d (jh 3 a f) λa=>ke d (jF 3 a) λa=>jG d b λb=>ke d (DX.run K (MM K) (.callc c [a,b] false)) λa=>ke d (js .eql false a (vi 0)) λa=>jT d a (vb false) λa=>jm (A.tup [e,a])):=hq Tryz.func132
theorem jv5:G 133 [a,b]=jd 3 a λa=>kF 78 [jc a 0,b] λa=>jm a:=gq Tryz.func133
theorem jtA:jfA a b c=(jjh a b c).bind λa=>jD a 0 λb=>jD a 1 λc=>jD a 2 λd=>Ju 3 a 3 λa=>(JM (vi 20) b c d).bind λb=>jD b 0 λc=>jD b 1 λd=>jD b 2 λe=>jD b 3 λb=>kq b (vi 0) ((jji c d e).bind λb=>jD b 0 λc=>jD b 1 λd=>jD b 2 λe=>jD b 3 λb=>e_0 b a c d e) (kq b (vi 1) (yC (zW a) (vi 1) (KD (jw a) (vi 0) λb=>kRN a b 0 3 λb=>jd 3 b λb=>KD (jw a) (vi 1) λf=>kRN a f 0 3 λf=>KD (jw a) (vi 0) λg=>jd 3 f λf=>kRG a g λh=>KD (jw (Jd a g (Jr h 0 [jc f 0,jc f 1,jc f 2]))) (vi 1) λi=>brn (jP (jc b 0)) (brn (jP (jc b 1)) (brn (jP (jc b 2)) (kRG (Jd a g (Jr h 0 [jc f 0,jc f 1,jc f 2])) i λj=>some (A.top,[c,d,e,A.agg [A.sl 3 (Jd (Jd a g (Jr h 0 [jc f 0,jc f 1,jc f 2])) i (Jr j 0 [jc b 0,jc b 1,jc b 2]))]])) none) none) none) (some (A.top,[c,d,e,A.agg [A.sl 3 a]]))) (kq b (vi 2) (Zq (vi 0) c d e [] []) (kq b (vi 3) (yC (zW a) (vi 0) (JX (zW a) (vi 1) λb=>KD (jw a) b λb=>kRN a b 0 3 λb=>e_0 b a c d e) (some (A.top,[c,d,e,A.agg [A.sl 3 a]]))) (some (A.top,[c,d,e,A.agg [A.sl 3 a]]))))):=vq Tryz.func13
theorem jeL:Zq a b c d p q=(JM (vi 2) b c d).bind λb=>jD b 0 λc=>jD b 1 λd=>jD b 2 λe=>jD b 3 λb=>jv (vi 8) b λb=>jL a b (kF 32 [a] λb=>jv (sv [112]) b λb=>(qT c d e [[sv [88]],[sv [89]]]).bind λc=>jD c 0 λd=>jD c 1 λe=>jD c 2 λf=>jD c 3 λc=>brn (jP c) (brn (jP c) (brn (jP b) (brn (jP b) (brn (jP b) (brn (jJ ((jw p)+(jw [[vb true,b,A.sl 2 [[c,A.sl 2 []]]]])) 48) (jv a (vi 1) λa=>Zq a d e f (km p [[vb true,b,A.sl 2 [[c,A.sl 2 []]]]]) q) none) none) none) none) none) none) (some (A.top,[c,d,e,A.agg [A.sl 3 p]])):=hq Tryz.func13
theorem jv6:G 142 [a,b]=ky a λc=>jer a b c (vi 0):=gq Tryz.func142
theorem jnK:jer a b c d=jL d c (kIP 1 a d λe=>kq b e (jm d) (jv d (vi 1) λd=>jer a b c d)) (jm (vi (- 1))):=hq Tryz.func142
theorem jtB:KF a b c d=(JM a b c d).bind λa=>jD a 0 λb=>jD a 1 λc=>jD a 2 λd=>jD a 3 λa=>kT a (vi 0) λa=>some (A.top,[b,c,d,a]):=vq Tryz.func14
theorem g15:G 15 [a]=jd 1 a λa=>ky (jc a 0) λb=>yC b (vi 8) (jm (vb false)) (jjp (vi 0) (jc a 0)):=gq Tryz.func15
theorem jrf:jjp a b=Y1 a b (QC 2 3 b a 1 λc=>kFN 34 [c] λc=>kM c a λd=>zI c (js .gtr false d (vi 0)) λd=>kM c d λd=>jp d true λ_=>jG d b λe=>jG d a λf=>ke d (js .sub false f (vi 1)) λf=>ke d (jh 3 e f) λe=>ke d (jF 3 e) λe=>jp d true λ_=>jG d b λf=>jG d a λg=>ke d (jh 3 f g) λf=>ke d (jF 3 f) λf=>zh d 35 [e,f] λe=>ke d (js .geq false e (vi 0)) λe=>zI c (yr d e (vb false)) λd=>qf c (vb true) d (jm (vb false)) (jv a (vi 1) λa=>jjp a b)) (jm (vb true)):=hq Tryz.func15
theorem g16:G 16 [a,b]=jd 1 a λa=>jjq b (vi 0) (jc a 0) [] []:=gq Tryz.func16
theorem jrg:jjq a b c p q=Y1 b a (QC 2 3 a b 1 λd=>(G 36 [A.agg [c],d]).bind λd=>JD d λd=>jd 2 d λd=>kF 34 [zd d] λe=>kbN e (jm (A.tup [A.agg [A.sl 3 []],vb false])) (jc4 3 a b 0 λe=>brn (jP e) (brn (jP (jc d 0)) (brn (jP (jc d 1)) (brn (jP e) (brn (jP (jc d 0)) (brn (jP (jc d 1)) (brn (jJ ((jw p)+(jw [[e,jc d 0,jc d 1]])) 48) (jv b (vi 1) λb=>jjq a b c (km p [[e,jc d 0,jc d 1]]) q) none) none) none) none) none) none) none)) ((G 37 [A.sl 3 p]).bind λa=>JD a λa=>jd 1 a λa=>kF 15 [kP a] λb=>e_1 b a):=hq Tryz.func16
theorem jtC:jmE a b c=Yv (zW [[sv [85]],[sv [88]],[sv [89]],[sv [90]]]) (vi 0) a b c [[sv [85]],[sv [88]],[sv [89]],[sv [90]]] [] []:=vq Tryz.func17
theorem jkd:Yv a b c d e p q r=jL b a (KD (jw p) b λf=>kRP p f 0 λf=>(KF (vi 2) c d e).bind λc=>jD c 0 λd=>jD c 1 λe=>jD c 2 λg=>jD c 3 λc=>JL c ((KG d e g).bind λc=>jD c 0 λd=>jD c 1 λe=>jD c 2 λg=>jD c 3 λh=>Ju 2 c 4 λc=>(jmH f h r c).bind λc=>Ju 3 c 0 λc=>jv b (vi 1) λb=>Yv a b d e g p q c) (jv b (vi 1) λb=>Yv a b d e g p q r)) (some (A.top,[c,d,e,A.agg [A.sl 3 r]])):=hq Tryz.func17
theorem jtD:jdc a b c d=jv a (vi 1) λa=>(JM a b c d).bind λa=>jD a 0 λb=>jD a 1 λc=>jD a 2 λd=>jD a 3 λa=>Zr a b c d []:=vq Tryz.func18
theorem jaY:Zr a b c d p=yC a (vi 0) ((jjj b c d).bind λb=>jD b 0 λc=>jD b 1 λd=>jD b 2 λe=>jD b 3 λf=>jD b 4 λg=>Ju 2 b 5 λb=>brn (jP f) (brn (jP g) (brn (jJ ((jw p)+(jw [[f,g,A.sl 2 b]])) 48) (JX a (vi 1) λa=>Zr a c d e (km p [[f,g,A.sl 2 b]])) none) none) none) (jka (zW p) (vi 0) λa=>jp a true λ_=>jp a true λe=>brn e ((KF (vi 8) b c d).bind λb=>jD b 0 λc=>jD b 1 λd=>jD b 2 λe=>jD b 3 λb=>qf a b (vb false) (e_2 p c d e) (some (A.top,[c,d,e,A.sl 3 p]))) (qf a (A.val undef) (vb false) (e_2 p b c d) (some (A.top,[b,c,d,A.sl 3 p])))):=hq Tryz.func18
theorem jtE:jjh a b c=(jdc (vi 4) a b c).bind λa=>jD a 0 λb=>jD a 1 λc=>jD a 2 λd=>Ju 3 a 3 λa=>(jmF a).bind λa=>Ju 3 a 0 λa=>some (A.top,[b,c,d,A.sl 3 a]):=vq Tryz.func19
theorem g20:G 20 [a]=jd 1 a λa=>ky (jc a 0) λb=>jjr (jc a 0) b (vi 0) (jc a 0):=gq Tryz.func20
theorem jrh:jjr a b c d=jL c b (J6 3 3 a c λe=>jd 3 e λe=>kFN 42 [jln e] λf=>kM f c λg=>zI f (js .gtr false g (vi 0)) λg=>kM f g λg=>jp g true λ_=>jG g d λh=>jG g c λi=>ke g (js .sub false i (vi 1)) λi=>ke g (jh 3 h i) λh=>ke g (jF 3 h) λh=>jp g true λ_=>zh g 43 [h,jln e] λe=>ke g (js .geq false e (vi 0)) λe=>zI f (yr g e (vb false)) λe=>qf f (vb true) e (jm (vb false)) (jv c (vi 1) λc=>jjr a b c d)) (ky d λa=>jad a (vi 8) λa=>jm a):=hq Tryz.func20
theorem g21:G 21 [a,b]=jd 1 a λa=>jd 1 b λb=>(G 44 [A.mp [],jc a 0,kP b]).bind λa=>JD a λa=>Jl a 0 λb=>Jl a 1 λa=>kbN a (jm (A.tup [A.agg [A.sl 3 []],vb false])) (kF2 45 [b] λa b=>jd 1 a λa=>jm (A.tup [kP a,b])):=gq Tryz.func21
theorem g22:G 22 [a,b]=jd 1 a λa=>jd 1 b λb=>(G 46 [kP a,vi 0,kP b,A.sl 3 []]).bind λa=>JD a λa=>Jl a 0 λb=>Jl a 1 λa=>jm (A.tup [b,a]):=gq Tryz.func22
theorem g23:G 23 [a]=jjs a (vi 0) [] []:=gq Tryz.func23
theorem jri:jjs a b p q=Y1 b a (jc4 3 a b 0 λc=>QC 2 3 a b 1 λd=>(jmG c d q).bind λc=>Ju 3 c 0 λc=>jv b (vi 1) λb=>jjs a b p c) (jm (A.agg [A.sl 3 q])):=hq Tryz.func23
theorem g24:G 24 [a]=jd 1 a λa=>jjt (vi 0) (jc a 0):=gq Tryz.func24
theorem jrj:jjt a b=Y1 a b (J6 3 3 b a λc=>jd 3 c λc=>kFN 47 [jc c 0] λd=>jp d false λ_=>jp d false λ_=>jaF d 48 [A.agg [jc c 1,jc c 2]] λe=>zI d (K6 .not e) λe=>jT d (vb true) e λd=>jp d false λ_=>jp d false λ_=>kM d (jc c 1) λe=>jp d false λ_=>kM d (jc c 0) λf=>zI d (js .eql false e f) λe=>jT d (vb true) e λd=>kM d a λe=>zI d (js .gtr false e (vi 0)) λe=>kM d e λe=>jp e true λ_=>jG e b λf=>jG e a λg=>ke e (js .sub false g (vi 1)) λg=>ke e (jh 3 f g) λf=>ke e (zU f 0) λf=>ke e (kZ f) λf=>jp e true λ_=>jG e (jc c 0) λc=>ke e (js .geq false f c) λc=>zI d (yr e c (vb false)) λc=>qf d (vb true) c (jm (vb false)) (jv a (vi 1) λa=>jjt a b)) (ky b λa=>jad a (vi 12) λa=>jm a):=hq Tryz.func24
theorem g25:G 25 [a]=jd 1 a λa=>ky (jc a 0) λb=>jfD (jc a 0) b (vi 0) (jc a 0):=gq Tryz.func25
theorem jrk:jfD a b c d=jL c b (J6 3 3 a c λe=>jd 3 e λe=>jp (jc e 0) true λ_=>jp (jc e 0) true λ_=>zh (jc e 0) 49 [A.agg [jc e 1,jc e 2]] λf=>jT (jc e 0) f (vb false) λf=>jp f true λ_=>jp f true λ_=>jG f (jc e 2) λg=>ke f (jh 2 g (vi 0)) λg=>ke f (jF 2 g) λg=>jp f true λ_=>jp f true λ_=>jG f (jc e 2) λh=>ke f (jh 2 h (vi 1)) λh=>ke f (jF 2 h) λh=>zh f 50 [g,h] λg=>jT f g (vb false) λf=>kM f c λg=>zI f (js .gtr false g (vi 0)) λg=>kM f g λg=>jp g true λ_=>jG g d λh=>jG g c λi=>ke g (js .sub false i (vi 1)) λi=>ke g (jh 3 h i) λh=>ke g (zU h 1) λh=>ke g (jF 2 h) λh=>jp g true λ_=>jp g true λ_=>zh g 50 [h,A.agg [jc e 1,jc e 2]] λe=>zI f (yr g e (vb false)) λe=>qf f (vb true) e (jm (vb true)) (jv c (vi 1) λc=>jfD a b c d)) (jm (vb false)):=hq Tryz.func25
theorem g26:G 26 [a,b]=jd 1 b λb=>jju a (vi 0) (jc b 0) []:=gq Tryz.func26
theorem jrl:jju a b c p=Y1 b c (QC 2 3 c b 1 λd=>(jfB d p).bind λd=>Ju 1 d 0 λd=>jv b (vi 1) λb=>jju a b c d) (kT a (vi 1) λa=>jp a false λ_=>kM a (zW p) λb=>zI a (js .leq false b (vi 4)) λb=>jT a (vb true) b λa=>jm a):=hq Tryz.func26
theorem g27:G 27 [a,b,c]=jd 1 c λc=>jjv a b (vi 0) (jc c 0) []:=gq Tryz.func27
theorem jrm:jjv a b c d p=Y1 c d (QC 2 3 d c 1 λe=>(jfB e p).bind λe=>Ju 1 e 0 λe=>jv c (vi 1) λc=>jjv a b c d e) (jfE a b (vi 1) (vi 0) d p):=hq Tryz.func27
theorem jnM:jfE a b c d e p=JW d (zW p) λf=>jG f c λg=>ke f (js .lss false g (vi 200)) λg=>qf f g (vb false) (ZX c b λc=>jv d (vi 1) λd=>jfE a b c d e p) (jbj a b c (vi 0) e p):=hq Tryz.func27
theorem jnN:jbj a b c d e p=jL d c (jjw a b c d d (vi 0) e p [] []) (jm (vb true)):=hq Tryz.func27
theorem jrn:jjw a b c d e f g p q r=jL f (zW p) (KD (jw p) f λh=>kRP p h 0 λh=>(js .rem false e b).bind λi=>(jmI h i q r).bind λh=>Ju 1 h 0 λ_=>Ju 1 h 1 λ_=>Ju 1 h 2 λi=>Ju 1 h 3 λh=>jgv e b λe=>jv f (vi 1) λf=>jjw a b c d e f g p i h) (jfF a b c d (vb false) (vi 0) g p q r):=hq Tryz.func27
theorem jro:jfF a b c d e f g p q r=ky g λh=>JW f h λh=>jG h e λi=>ke h (K6 .not i) λi=>qf h i (vb false) (QC 2 3 g f 1 λe=>kfn true (G 53 [a,b,A.agg [A.sl 1 q,A.sl 1 r],e]) λe=>jc4 3 g f 0 λh=>(js .eql true e h).bind λe=>jv f (vi 1) λf=>jfF a b c d e f g p q r) (kbN e (jm (vb false)) (jv d (vi 1) λd=>jbj a b c d g p)):=hq Tryz.func27
theorem g28:G 28 [a]=jd 1 a λa=>ky (jc a 0) λb=>jjx (jc a 0) b (vi 0) (jc a 0):=gq Tryz.func28
theorem jrp:jjx a b c d=jL c b (J6 3 3 a c λe=>jd 3 e λe=>kFN 54 [jc e 0] λf=>kM f c λg=>zI f (js .gtr false g (vi 0)) λg=>kM f g λg=>jp g true λ_=>jG g (jc e 0) λh=>jp g true λ_=>jG g d λi=>jG g c λj=>ke g (js .sub false j (vi 1)) λj=>ke g (jh 3 i j) λi=>ke g (zU i 0) λi=>ke g (kZ i) λi=>ke g (js .leq false h i) λh=>zI f (yr g h (vb false)) λg=>jT f (vb true) g λf=>jp f false λ_=>jp f false λ_=>jaF f 55 [A.agg [jc e 1,jc e 2]] λg=>zI f (K6 .not g) λg=>jT f (vb true) g λf=>jp f false λ_=>jp f false λ_=>kM f (jc e 1) λg=>jp f false λ_=>kM f (jc e 0) λe=>zI f (js .eql false g e) λe=>qf f (vb true) e (jm (vb false)) (jv c (vi 1) λc=>jjx a b c d)) (ky d λa=>jad a (vi 12) λa=>jm a):=hq Tryz.func28
theorem g29:G 29 [a,b]=jd 1 a λa=>ky b λc=>jjy b c (vi 0) (jc a 0) [] []:=gq Tryz.func29
theorem jrq:jjy a b c d p q=jL c b (J6 3 3 a c λe=>jd 3 e λe=>(G 56 [A.agg [d],A.agg [jc e 1,jc e 2]]).bind λf=>JD f λf=>Jl f 0 λg=>Jl f 1 λf=>jd 2 g λg=>kbN f (jm (A.tup [A.agg [A.sl 3 []],vb false])) (brn (jP (jc e 0)) (brn (jP (jc g 0)) (brn (jP (jc g 1)) (brn (jP (jc e 0)) (brn (jP (jc g 0)) (brn (jP (jc g 1)) (brn (jJ ((jw p)+(jw [[jc e 0,jc g 0,jc g 1]])) 48) (jv c (vi 1) λc=>jjy a b c d (km p [[jc e 0,jc g 0,jc g 1]]) q) none) none) none) none) none) none) none)) ((G 58 [A.sl 3 p]).bind λa=>JD a λa=>(G 57 [a]).bind λa=>JD a λa=>Jl a 0 λb=>Jl a 1 λa=>jd 1 b λb=>jm (A.tup [kP b,a])):=hq Tryz.func29
theorem g3:G 3 [a]=kF 4 [a] λb=>JL b (jm (vb true)) (kF2 5 [a] λb c=>jd 1 b λb=>jd 1 c λc=>kF2 6 [kP b,kP c] λd e=>jd 1 d λd=>kF2 7 [kP b,kP c] λf g=>jd 1 f λ_=>(js .neq true e g).bind λf=>JL f (jm (vb false)) (kF2 8 [kP c] λf g=>kF 9 [kP c] λh=>(js .neq true g h).bind λg=>kM g f λf=>kM g f λf=>jG f a λh=>jp f true λ_=>zh f 10 [h,A.sl 1 [],kP c] λh=>ke f (K6 .not h) λh=>zI g (yr f h (vb false)) λf=>qf g (vb true) f (jm (vb false)) (kbN e (ky (jc d 0) λa=>kT a (vi 0) λa=>jm a) (kF2 11 [kP d,kP b] λd e=>jd 1 d λd=>jmR a e (vi 0) (jc b 0) (jc c 0) (jc d 0))))):=gq Tryz.func3
theorem juj:jmR a b c d e f=Y1 c f (jkY a b c (vb false) (vi 0) d e f) (jG b a λa=>jp b true λ_=>jp b true λc=>brn c (brn (jP d) (jp b true λ_=>ke b ((G 10 [a,A.sl 1 [[d]],A.agg [e]]).bind (fin true)) λa=>jT b a (vb false) λa=>jm a) none) (jp b true λ_=>zh b 10 [a,A.val undef,A.agg [e]] λa=>jT b a (vb false) λa=>jm a)):=hq Tryz.func3
theorem juk:jkY a b c d e f g h=Y1 e g (jp d false λ_=>kM d h λi=>kM d c λj=>zI d (jh 3 i j) λi=>zI d (zU i 0) λi=>zI d (kZ i) λi=>jp d false λ_=>kM d g λj=>kM d e λk=>zI d (jh 3 j k) λj=>zI d (zU j 0) λj=>zI d (kZ j) λj=>zI d (js .eql true i j) λi=>kM d i λi=>jp i true λ_=>jG i h λj=>jG i c λk=>ke i (jh 3 j k) λj=>ke i (zU j 1) λj=>ke i (jF 2 j) λj=>jp i true λ_=>jG i g λk=>jG i e λl=>ke i (jh 3 k l) λk=>ke i (zU k 1) λk=>ke i (jF 2 k) λk=>zh i 12 [j,k] λj=>zI d (yr i j (vb false)) λi=>jT d (vb true) i λd=>jv e (vi 1) λe=>jkY a b c d e f g h) (kbN d (jm (vb false)) (jv c (vi 1) λc=>jmR a b c f g h)):=hq Tryz.func3
theorem jtF:JM a b c d=jbU a (vi 1) (some (A.top,[b,c,d,vi 0])) ((jjk b c d).bind λb=>jD b 0 λc=>jD b 1 λd=>jD b 2 λe=>jD b 3 λb=>yC a (vi 200) (ZX b (vi 256) λb=>(jjk c d e).bind λc=>jD c 0 λd=>jD c 1 λe=>jD c 2 λf=>jD c 3 λc=>jv b c λb=>e_3 b a d e f) (e_3 b a c d e)):=vq Tryz.func30
theorem jtG:jji a b c=(jjj a b c).bind λa=>jD a 0 λb=>jD a 1 λc=>jD a 2 λd=>jD a 3 λe=>jD a 4 λf=>Ju 2 a 5 λa=>brn (jP e) (brn (jP f) ((JM (vi 16) b c d).bind λb=>jD b 0 λc=>jD b 1 λd=>jD b 2 λg=>jD b 3 λb=>kq b (vi 0) ((jmJ c d g).bind λa=>jD a 0 λb=>jD a 1 λc=>jD a 2 λd=>jD a 3 λa=>jd 2 a λa=>brn (jP e) (brn (jP (jc a 0)) (brn (jP (jc a 1)) (some (A.top,[b,c,d,A.agg [e,jc a 0,jc a 1]])) none) none) none) (kq b (vi 1) ((KG c d g).bind λb=>jD b 0 λc=>jD b 1 λd=>jD b 2 λg=>jD b 3 λh=>Ju 2 b 4 λb=>brn (jP h) (brn (jJ ((jw a)+(jw [[h,A.sl 2 b]])) 40) (brn (jP e) (brn (jP f) (some (A.top,[c,d,g,A.agg [e,f,A.sl 2 (km a [[h,A.sl 2 b]])]])) none) none) none) none) (brn (jP e) (brn (jP f) (some (A.top,[c,d,g,A.agg [e,f,A.sl 2 a]])) none) none))) none) none:=vq Tryz.func31
theorem g32:G 32 [a]=jL a (vi 0) ((K6 .neg a).bind λa=>kF 32 [a] λa=>jv (sv [45]) a λa=>jm a) (jL a (vi 10) (jv a (vi 1) λb=>(Kl (sv [48,49,50,51,52,53,54,55,56,57]) (some a) (some b)).bind λa=>jm a) (jgv a (vi 10) λb=>kF 32 [b] λb=>(js .rem false a (vi 10)).bind λc=>(js .rem false a (vi 10)).bind λa=>jv a (vi 1) λa=>(Kl (sv [48,49,50,51,52,53,54,55,56,57]) (some c) (some a)).bind λa=>jv b a λa=>jm a)):=gq Tryz.func32
theorem jtH:qT a b c p=(JM (zW p) a b c).bind λa=>jD a 0 λb=>jD a 1 λc=>jD a 2 λd=>jD a 3 λa=>KD (jw p) a λa=>kRP p a 0 λa=>some (A.top,[b,c,d,a]):=vq Tryz.func33
theorem g34:G 34 [a]=jd 2 a λa=>kq (jc a 0) (sv [61]) (ky (jc a 1) λb=>kT b (vi 2) λb=>jp b true λ_=>zh b 61 [zd a] λc=>jT b c (vb false) λb=>jp b true λ_=>jG b (jc a 1) λc=>ke b (jh 2 c (vi 0)) λc=>ke b (jF 2 c) λc=>zh b 62 [c] λc=>jT b c (vb false) λb=>jp b true λ_=>jG b (jc a 1) λa=>ke b (jh 2 a (vi 1)) λa=>ke b (jF 2 a) λa=>zh b 62 [a] λa=>jT b a (vb false) λa=>jm a) (kF 63 [jc a 0] λb=>jp b true λ_=>zh b 48 [zd a] λa=>jT b a (vb false) λa=>jm a):=gq Tryz.func34
theorem g35:G 35 [a,b]=jd 3 a λa=>jd 3 b λb=>kF 64 [A.agg [jc a 1,jc a 2],A.agg [jc b 1,jc b 2]] λc=>Kh c (vi 0) (jm c) (jgu (jc a 0) λc=>jp c true λ_=>jG c (jc b 0) λd=>qf c d (vb false) (jm (vi (- 1))) (jp (jc a 0) true λ_=>jG (jc a 0) (jc b 0) λb=>ke (jc a 0) (K6 .not b) λb=>qf (jc a 0) b (vb false) (jm (vi 1)) (jm (vi 0)))):=gq Tryz.func35
theorem g36:G 36 [a,b]=jd 1 a λa=>jd 2 b λb=>kF 47 [jc b 0] λc=>JL c (kF 65 [kP a,jc b 0] λc=>jbT c (vi 0) (QC 2 3 (jc a 0) c 1 λa=>(G 41 [a]).bind λa=>JD a λa=>jd 2 a λa=>jm (zd a)) (e_4 b)) (brn (jP (jc b 0)) (brn (jP (jc b 0)) (jjz (vi 0) (jc a 0) (jc b 0) (jc b 1) (sv []) (jc b 0) [] []) none) none):=gq Tryz.func36
theorem jrr:jjz a b c d e f p q=Y1 a d (J6 2 2 d a λg=>(G 36 [A.agg [b],g]).bind λg=>JD g λg=>jd 2 g λg=>brn (jJ ((jw q)+(jw [[jc g 0,jc g 1]])) 40) (jv a (vi 1) λa=>jjz a b c d e f p (km q [[jc g 0,jc g 1]])) none) (brn (jP f) (jm (A.agg [f,A.sl 2 q])) none):=hq Tryz.func36
theorem g37:G 37 [a]=jde a (vi 0) [] []:=gq Tryz.func37
theorem jrs:jde a b p q=Y1 b a (jjA a b (vi 0) p q) (jm (A.agg [A.sl 3 p])):=hq Tryz.func37
theorem jrt:jjA a b c p q=JW c (zW p) λd=>jp d true λ_=>jG d c λe=>jp d true λf=>brn f (KD (jw p) e λe=>ke d (zB p e 0 3) λe=>e_5 d a b e c p q) (ke d (jF 3 (A.val undef)) λe=>e_5 d a b e c p q):=hq Tryz.func37
theorem jtI:jmF p=Zs (vi 0) p [] []:=vq Tryz.func37
theorem jke:Zs a p q r=jL a (zW p) (jaN a (vi 0) p q r) (some (A.top,[A.sl 3 q])):=hq Tryz.func37
theorem jkf:jaN a b p q r=JW b (zW q) λc=>jp c true λ_=>jG c b λd=>jp c true λe=>brn e (KD (jw q) d λd=>ke c (zB q d 0 3) λd=>e_7 c a p d b q r) (ke c (jF 3 (A.val undef)) λd=>e_7 c a p d b q r):=hq Tryz.func37
theorem jtJ:jmG a b p=jd 2 b λb=>kq (jc b 0) a (some (A.top,[A.sl 3 p])) (Yw a (vi 0) (jc b 0) (jc b 1) p []):=vq Tryz.func38
theorem jeO:Yw a b c d p q=JW b (zW p) λe=>jp e true λ_=>jp e true λ_=>jG e b λf=>jp e true λg=>brn g (KD (jw p) f λf=>jp e true λ_=>ke e (yE p f 0) λf=>jpz e a f b c d p q) (ke e (zU (A.val undef) 0) λf=>ke e (kZ f) λf=>jpz e a f b c d p q):=hq Tryz.func38
theorem jtK:jmH a b p q=brn (jP b) (kq b a (some (A.top,[A.sl 3 p])) (Yx a (vi 0) b p q [])) none:=vq Tryz.func38
theorem jeP:Yx a b c p q r=JW b (zW p) λd=>jp d true λ_=>jp d true λ_=>jG d b λe=>jp d true λf=>brn f (KD (jw p) e λe=>jp d true λ_=>ke d (yE p e 0) λe=>jpB d a e b c p q r) (ke d (zU (A.val undef) 0) λe=>ke d (kZ e) λe=>jpB d a e b c p q r):=hq Tryz.func38
theorem jq4:KG a b c=(JM (vi 3) a b c).bind λa=>jD a 0 λb=>jD a 1 λc=>jD a 2 λd=>jD a 3 λa=>jv (vi 1) a λa=>(qw a b c d).bind λa=>jD a 0 λb=>jD a 1 λc=>jD a 2 λd=>jD a 3 λe=>Ju 2 a 4 λa=>jpC e b c d a:=vq Tryz.func39
theorem g4:G 4 [a]=ky a λa=>jka a (vi 65536) λa=>jm a:=gq Tryz.func4
theorem jtL:jjj a b c=(KF (vi 2) a b c).bind λa=>jD a 0 λb=>jD a 1 λc=>jD a 2 λd=>jD a 3 λa=>(jmK b c d).bind λb=>jD b 0 λc=>jD b 1 λd=>jD b 2 λe=>jD b 3 λf=>Ju 2 b 4 λb=>brn (jP a) (brn (jP f) (brn (jP a) (brn (jP f) (some (A.top,[c,d,e,a,f,A.sl 2 b])) none) none) none) none:=vq Tryz.func40
theorem g41:G 41 [a]=jd 2 a λa=>brn (jP (jc a 0)) (brn (jP (jc a 0)) (jjB (vi 0) (jc a 0) (jc a 1) (sv []) (jc a 0) [] []) none) none:=gq Tryz.func41
theorem jru:jjB a b c d e p q=Y1 a c (J6 2 2 c a λf=>(G 41 [f]).bind λf=>JD f λf=>jd 2 f λf=>brn (jJ ((jw q)+(jw [[jc f 0,jc f 1]])) 40) (jv a (vi 1) λa=>jjB a b c d e p (km q [[jc f 0,jc f 1]])) none) (brn (jP e) (jm (A.agg [e,A.sl 2 q])) none):=hq Tryz.func41
theorem g42:G 42 [a]=jd 3 a λa=>kF 68 [A.agg [jc a 1,jc a 2]] λa=>jm a:=gq Tryz.func42
theorem g43:G 43 [a,b]=jd 3 a λa=>jd 3 b λb=>kF 70 [A.agg [jc a 1,jc a 2],A.agg [jc b 1,jc b 2]] λc=>kF 72 [jc a 0] λa=>kF 72 [jc b 0] λb=>kF 71 [a,b] λa=>brn (jP c) (brn (jP a) (kfn true (G 69 [A.sl 1 [[c],[a]]]) λa=>jm a) none) none:=gq Tryz.func43
theorem g44:G 44 [a,b,c]=jd 1 c λc=>ky b λd=>kq d (vi 0) (jm (A.tup [a,vb true])) (ky (jc c 0) λd=>jfG a b (jc c 0) d (vi 0) (jc c 0)):=gq Tryz.func44
theorem jrv:jfG a b c d e f=jL e d (J6 3 3 c e λg=>jd 3 g λg=>(jmL a).bind λh=>Ju 128 h 0 λh=>jc4 3 b (vi 0) 0 λi=>(js .neq true (jc g 0) i).bind λi=>jp i false λ_=>kM i b λj=>zI i (jh 3 j (vi 0)) λj=>zI i (zU j 1) λj=>zI i (jF 2 j) λj=>jp i false λ_=>jp i false λ_=>jp i false λk=>brn k ((jfC j (jc g 1) (jc g 2) h).bind λg=>jD g 0 λh=>Ju 128 g 1 λg=>zI i (K6 .not h) λh=>jpD i h e a b c d f g) (zI i (K6 .not (A.val undef)) λg=>jpD i g e a b c d f h)) (jm (A.tup [A.val (.map none),vb false])):=hq Tryz.func44
theorem g45:G 45 [a]=(jeX a).bind λa=>jdf [] [] a:=gq Tryz.func45
theorem g46:G 46 [a,b,c,d]=jd 1 a λa=>jd 1 c λc=>ky (jc a 0) λe=>kq b e (jm (A.tup [d,vb true])) (jbk b d (vi 0) (jc a 0) (jc c 0)):=gq Tryz.func46
theorem jrx:jbk a b c d e=Y1 c e (jc4 3 d a 0 λf=>jc4 3 e c 0 λg=>(js .neq true f g).bind λf=>JL f (jv c (vi 1) λc=>jbk a b c d e) (QC 2 3 d a 1 λf=>QC 2 3 e c 1 λg=>kRs 3 b λh=>brn (jJ (jw h) 56) ((jbf f g h).bind λf=>jD f 0 λg=>Ju 259 f 1 λf=>JL g (kbN g (jv c (vi 1) λc=>jbk a b c d e) (jv a (vi 1) λg=>(G 46 [A.agg [d],g,A.agg [e],A.sl 3 f]).bind λf=>JD f λf=>Jl f 0 λg=>Jl f 1 λf=>JL f (jm (A.tup [g,vb true])) (jv c (vi 1) λc=>jbk a b c d e))) (kbN g (jv c (vi 1) λc=>jbk a b c d e) (jv a (vi 1) λ_=>none))) none)) (jm (A.tup [b,vb false])):=hq Tryz.func46
theorem g47:G 47 [a]=kLS a λb=>kFN 80 [b,vi 1,vi 4] λb=>kM b a λc=>zI b (j8 c (vi 0)) λc=>zI b (js .lss false c (vy 65)) λc=>jT b (vb true) c λb=>kM b a λc=>zI b (j8 c (vi 0)) λc=>zI b (js .gtr false c (vy 90)) λc=>qf b (vb true) c (jm (vb false)) (jdg a (vi 1)):=gq Tryz.func47
theorem jry:jdg a b=kLS a λc=>jL b c (kIS a b λc=>kF 81 [c] λc=>kbN c (jm (vb false)) (jv b (vi 1) λb=>jdg a b)) (jm (vb true)):=hq Tryz.func47
theorem g48:G 48 [a]=jd 2 a λa=>kF 61 [zd a] λb=>jp b true λ_=>zh b 62 [zd a] λa=>jT b a (vb false) λa=>jm a:=gq Tryz.func48
theorem g49:G 49 [a]=jd 2 a λa=>kT (jc a 0) (sv [61]) λa=>jm a:=gq Tryz.func49
theorem g5:G 5 [a]=brn (jP a) (brn (jP a) ((jfA a (vi 0) (A.val (.int .u64 0))).bind λa=>jD a 0 λb=>jD a 1 λc=>jD a 2 λd=>jD a 3 λa=>jd 1 a λa=>(KF (vi 3) b c d).bind λb=>jD b 0 λc=>jD b 1 λd=>jD b 2 λe=>jD b 3 λb=>jp b false λ_=>jaF b 15 [kP a] λf=>zI b (K6 .not f) λf=>qf b (vb true) f ((jfA c d e).bind λb=>jD b 0 λ_=>jD b 1 λ_=>jD b 2 λ_=>jD b 3 λb=>brn (jP (jc a 0)) (jd 1 b λb=>jm (A.tup [kP a,kP b])) none) ((jmE c d e).bind λb=>jD b 0 λc=>jD b 1 λd=>jD b 2 λe=>jD b 3 λb=>kRs 3 (jc a 0) λf=>brn (jJ (jw f) 48) ((jdc (vi 2) c d e).bind λc=>jD c 0 λd=>jD c 1 λe=>jD c 2 λg=>Ju 3 c 3 λc=>brn (jJ ((jw f)+(jw c)) 48) ((G 16 [b,A.sl 3 (km f c)]).bind λb=>JD b λb=>Jl b 0 λc=>Jl b 1 λb=>jd 1 c λc=>kbN b ((jjh d e g).bind λb=>jD b 0 λ_=>jD b 1 λ_=>jD b 2 λ_=>Ju 3 b 3 λb=>brn (jP (jc a 0)) (jm (A.tup [kP a,A.agg [A.sl 3 b]])) none) (brn (jP (jc a 0)) (brn (jP (jc c 0)) (jm (A.tup [kP a,kP c])) none) none)) none) none)) none) none:=gq Tryz.func5
theorem g50:G 50 [a,b]=jd 2 a λa=>jd 2 b λb=>kT (jc a 0) (jc b 0) λc=>jp c true λ_=>jG c (jc a 1) λa=>jp c true λ_=>jG c (jc b 1) λb=>zh c 82 [a,b,A.fn 50 []] λa=>jT c a (vb false) λa=>jm a:=gq Tryz.func50
theorem jtM:jfB a p=jd 2 a λa=>ky (jc a 1) λb=>kT b (vi 0) λb=>jp b true λ_=>jG b (jc a 0) λc=>ke b (K2 c) λc=>ke b (js .gtr false c (vi 0)) λc=>jT b c (vb false) λb=>jp b true λ_=>jG b (jc a 0) λc=>ke b (j8 c (vi 0)) λc=>ke b (js .geq false c (vy 65)) λc=>jT b c (vb false) λb=>jp b true λ_=>jG b (jc a 0) λc=>ke b (j8 c (vi 0)) λc=>ke b (js .leq false c (vy 90)) λc=>qf b c (vb false) (Zt (vi 0) (jc a 0) (jc a 1) p) (jaO (vi 0) (jc a 0) (jc a 1) p):=vq Tryz.func51
theorem jkg:Zt a b c p=jL a (zW p) (KD (jw p) a λd=>kRP p d 0 λd=>kq d b (some (A.top,[A.sl 1 p])) (jv a (vi 1) λa=>Zt a b c p)) (brn (jP b) (brn (jJ ((jw p)+(jw [[b]])) 16) (some (A.top,[A.sl 1 (km p [[b]])])) none) none):=hq Tryz.func51
theorem jp4:jaO a b c p=jpE a c p b:=hq Tryz.func51
theorem jeQ:jaP a b c p=jpE a c p b:=hq Tryz.func51
theorem jtN:jmI a b p q=brn (jJ (jw p) 16) (brn (jP a) (brn (jJ ((jw p)+(jw [[a]])) 16) (brn (jJ (jw q) 8) (brn (jP b) (brn (jJ ((jw q)+(jw [[b]])) 8) (some (A.top,[A.sl 1 p,A.sl 1 q,A.sl 1 (km p [[a]]),A.sl 1 (km q [[b]])])) none) none) none) none) none) none:=vq Tryz.func52
theorem g53:G 53 [a,b,c,d]=jd 2 c λc=>jd 2 d λd=>jfH a b (vi 0) (jc c 0) (jc c 1) (jc d 0) (jc d 1) []:=gq Tryz.func53
theorem jrz:jfH a b c d e f g p=Y1 c g (J6 2 2 g c λh=>kF 83 [a,b,A.agg [d,e],h] λh=>brn (jP h) (brn (jJ ((jw p)+(jw [[h]])) 8) (jv c (vi 1) λc=>jfH a b c d e f g (km p [[h]])) none) none) (kT f (sv [61]) λb=>jp b true λ_=>jG b (zW p) λc=>ke b (js .eql false c (vi 2)) λc=>qf b c (vb false) (KD (jw p) (vi 0) λa=>kRP p a 0 λa=>KD (jw p) (vi 1) λb=>kRP p b 0 λb=>kT a b λa=>jm a) (jv (sv [126]) f λb=>kfn true (G 84 [a,b,A.sl 1 p]) λa=>(js .rem false a (vi 2)).bind λa=>kT a (vi 1) λa=>jm a)):=hq Tryz.func53
theorem g54:G 54 [a]=kLS a λb=>jfI a b (vi 0):=gq Tryz.func54
theorem jkh:jfI a b c=jL c b (kT c (vi 0) λd=>jG d a λe=>jG d c λf=>ke d (j8 e f) λe=>zh d 85 [e] λe=>ke d (K6 .not e) λe=>jT d e (vb false) λd=>kM d c λe=>zI d (js .gtr false e (vi 0)) λe=>kM d e λe=>jG e a λf=>jG e c λg=>ke e (j8 f g) λf=>zh e 86 [f] λf=>ke e (K6 .not f) λf=>zI d (yr e f (vb false)) λe=>kM d e λe=>jG e a λf=>jG e c λg=>ke e (j8 f g) λf=>zh e 87 [f] λf=>ke e (K6 .not f) λf=>zI d (yr e f (vb false)) λe=>qf d (vb true) e (jm (vb false)) (jv c (vi 1) λc=>jfI a b c)) (kLS a λa=>kF 88 [a,vi 1,vi 4] λa=>jm a):=hq Tryz.func54
theorem g55:G 55 [a]=jd 2 a λa=>kF 89 [zd a] λb=>jp b true λ_=>zh b 90 [zd a] λa=>jT b a (vb false) λa=>jm a:=gq Tryz.func55
theorem g56:G 56 [a,b]=jd 1 a λa=>jd 2 b λb=>kF 91 [kP a,zd b] λa=>jd 2 a λa=>kF 89 [zd a] λb=>kbN b (jm (A.tup [A.agg [sv [],A.sl 2 []],vb false])) (brn (jP (jc a 0)) (brn (jP (jc a 1)) (jm (A.tup [zd a,vb true])) none) none):=gq Tryz.func56
theorem g57:G 57 [a]=jd 1 a λa=>kF 20 [kP a] λb=>e_1 b a:=gq Tryz.func57
theorem g58:G 58 [a]=ky a λb=>jjC a b (vi 0) [] []:=gq Tryz.func58
theorem jrA:jjC a b c p q=jL c b (J6 3 3 a c λd=>jd 3 d λd=>kF 92 [jln d] λd=>jd 3 d λd=>brn (jJ ((jw q)+(jw [[jc d 0,jc d 1,jc d 2]])) 48) (jv c (vi 1) λc=>jjC a b c p (km q [[jc d 0,jc d 1,jc d 2]])) none) ((jmM q).bind λa=>Ju 3 a 0 λa=>(jmN a).bind λa=>Ju 3 a 0 λa=>jm (A.agg [A.sl 3 a])):=hq Tryz.func58
theorem jtO:jjk a b c=Y1 b a (kIP 1 a b λd=>(qy .i64 d).bind λd=>jv b (vi 1) λb=>brn (jP b) (ZX c (A.val (.int .u64 6364136223846793005)) λc=>(qy .u64 d).bind λe=>jv c e λc=>jv c (A.val (.int .u64 892892)) λc=>brn (jP c) (ky a λe=>jbU b e (some (A.top,[a,b,c,d])) (jpF c a b)) none) none) (jv b (vi 1) λb=>brn (jP b) (ZX c (A.val (.int .u64 6364136223846793005)) λc=>(qy .u64 (vi 0)).bind λd=>jv c d λc=>jv c (A.val (.int .u64 892892)) λc=>brn (jP c) (ky a λd=>jbU b d (some (A.top,[a,b,c,vi 0])) (jpF c a b)) none) none):=vq Tryz.func59
theorem g6:G 6 [a,b]=jd 1 a λa=>jd 1 b λb=>kFN 20 [kP a] λc=>jp c false λ_=>jaF c 20 [kP b] λd=>zI c (K6 .not d) λd=>qf c (vb true) d (jm (A.tup [A.agg [A.sl 3 []],vb false])) (kF2 21 [kP a,kP b] λa b=>jd 1 a λa=>jm (A.tup [kP a,b])):=gq Tryz.func6
theorem jtP:jmJ a b c=(KG a b c).bind λa=>jD a 0 λb=>jD a 1 λc=>jD a 2 λd=>jD a 3 λe=>Ju 2 a 4 λa=>brn (jP e) ((JM (vi 24) b c d).bind λb=>jD b 0 λc=>jD b 1 λd=>jD b 2 λf=>jD b 3 λb=>kq b (vi 0) ((qT c d f [[sv []],[sv [116,114,117,101]],[sv [116,114,117,116,104]],[sv [105,102]],[sv [88,121,122,57]],[sv [88,121,122,57,57]],[sv [120,65]],[sv [97,95,98]],[sv [97,98,99,100,101,102]],[sv [97,98,99,100,101,102,103]],[sv [95,97]],[sv [57]],[sv [88,95]],[sv [61]]]).bind λb=>jD b 0 λc=>jD b 1 λd=>jD b 2 λe=>jD b 3 λb=>brn (jP b) (jil b c d e a) none) (kq b (vi 1) ((JM (vi 3) c d f).bind λa=>jD a 0 λb=>jD a 1 λc=>jD a 2 λd=>jD a 3 λa=>jv (vi 7) a λa=>(jmO a b c d).bind λa=>jD a 0 λb=>jD a 1 λc=>jD a 2 λd=>jD a 3 λe=>Ju 2 a 4 λa=>jil e b c d a) (kq b (vi 2) ((jjm c d f).bind λa=>jD a 0 λb=>jD a 1 λc=>jD a 2 λd=>jD a 3 λa=>jd 2 a λa=>some (A.top,[b,c,d,zd a])) (kq b (vi 3) ((KG c d f).bind λb=>jD b 0 λc=>jD b 1 λd=>jD b 2 λf=>jD b 3 λg=>Ju 2 b 4 λb=>(KG c d f).bind λc=>jD c 0 λd=>jD c 1 λf=>jD c 2 λh=>jD c 3 λi=>Ju 2 c 4 λc=>(KG d f h).bind λd=>jD d 0 λf=>jD d 1 λh=>jD d 2 λj=>jD d 3 λk=>Ju 2 d 4 λd=>brn (jP g) (brn (jP i) (brn (jP k) (brn (jJ ((jw a)+(jw [[g,A.sl 2 b],[i,A.sl 2 c],[k,A.sl 2 d]])) 40) (brn (jP e) (some (A.top,[f,h,j,A.agg [e,A.sl 2 (km a [[g,A.sl 2 b],[i,A.sl 2 c],[k,A.sl 2 d]])]])) none) none) none) none) none) (kq b (vi 4) (yC (zW a) (vi 0) ((qT c d f [[sv [61]],[sv []],[sv [81,49]],[sv [98,50]]]).bind λb=>jD b 0 λc=>jD b 1 λd=>jD b 2 λf=>jD b 3 λb=>KD (jw a) (vi 0) λg=>kRP a g 1 λg=>(kJ (kx (K.at 60) 42) [sv [],A.sl 2 []] [(0,b),(1,g)]).bind λb=>KD (jw a) (vi 0) λg=>jd 2 b λb=>kRG a g λh=>brn (jP e) (some (A.top,[c,d,f,A.agg [e,A.sl 2 (Jd a g (Jr h 0 [jc b 0,jc b 1]))]])) none) (jil e c d f a)) (jil e c d f a)))))) none:=vq Tryz.func60
theorem g61:G 61 [a]=jd 2 a λa=>kF 98 [zd a,vi 30] λb=>jad b (vi 30) λb=>jp b true λ_=>zh b 99 [zd a] λa=>ke b (js .leq false a (vi 8)) λa=>jT b a (vb false) λa=>jm a:=gq Tryz.func61
theorem g62:G 62 [a]=jd 2 a λa=>kF 47 [jc a 0] λb=>JL b (ky (jc a 1) λa=>kT a (vi 0) λa=>jm a) (kFN 63 [jc a 0] λb=>jp b false λ_=>kM b (jc a 1) λc=>zI b (yq c) λc=>zI b (js .gtr false c (vi 4)) λc=>qf b (vb true) c (jm (vb false)) (jjD (vi 0) (jc a 0) (jc a 1))):=gq Tryz.func62
theorem jrB:jjD a b c=Y1 a c (J6 2 2 c a λd=>kF 62 [d] λd=>kbN d (jm (vb false)) (jv a (vi 1) λa=>jjD a b c)) (jm (vb true)):=hq Tryz.func62
theorem g63:G 63 [a]=kLS a λb=>kFN 80 [b,vi 1,vi 6] λb=>kM b a λc=>zI b (j8 c (vi 0)) λc=>zI b (js .lss false c (vy 97)) λc=>jT b (vb true) c λb=>kM b a λc=>zI b (j8 c (vi 0)) λc=>zI b (js .gtr false c (vy 122)) λc=>qf b (vb true) c (jm (vb false)) (kT a (sv [116,114,117,101]) λb=>JL b (JL b (jm (vb false)) (JN a (vi 1))) (kT a (sv [102,97,108,115,101]) λb=>JL b (JL b (jm (vb false)) (JN a (vi 1))) (kT a (sv [116,114,117,116,104]) λb=>JL b (JL b (jm (vb false)) (JN a (vi 1))) (kT a (sv [98,111,116,104]) λb=>JL b (JL b (jm (vb false)) (JN a (vi 1))) (kT a (sv [101,105,116,104,101,114]) λb=>JL b (JL b (jm (vb false)) (JN a (vi 1))) (kT a (sv [105,102]) λb=>JL b (JL b (jm (vb false)) (JN a (vi 1))) (kT a (sv [97,108,108]) λb=>JL b (JL b (jm (vb false)) (JN a (vi 1))) (kq a (sv [115,111,109,101]) (jm (vb false)) (JN a (vi 1)))))))))):=gq Tryz.func63
theorem jrC:JN a b=kLS a λc=>jL b c (kIS a b λc=>kFN 81 [c] λc=>jG c a λd=>jG c b λe=>ke c (j8 d e) λd=>ke c (js .neq false d (vy 95)) λd=>qf c d (vb false) (jm (vb false)) (jv b (vi 1) λb=>JN a b)) (jm (vb true)):=hq Tryz.func63
theorem g64:G 64 [a,b]=jd 2 a λa=>jd 2 b λb=>kF 47 [jc a 0] λc=>kF 47 [jc b 0] λd=>jG c d λe=>ke c (K6 .not e) λe=>qf c e (vb false) (jm (vi (- 1))) (jgu c λc=>jG c d λd=>qf c d (vb false) (jm (vi 1)) (Kh (jc a 0) (jc b 0) (kF 100 [jc a 0,jc b 0] λa=>jm a) (ky (jc a 1) λc=>Y1 c (jc b 1) (jm (vi (- 1))) (ky (jc a 1) λc=>ky (jc b 1) λd=>yC c d (jm (vi 1)) (jfJ (vi 0) (jc a 0) (jc a 1) (jc b 0) (jc b 1)))))):=gq Tryz.func64
theorem jrD:jfJ a b c d e=Y1 a c (J6 2 2 c a λf=>J6 2 2 e a λg=>kF 64 [f,g] λf=>Kh f (vi 0) (jm f) (jv a (vi 1) λa=>jfJ a b c d e)) (jm (vi 0)):=hq Tryz.func64
theorem g65:G 65 [a,b]=jd 1 a λa=>jfK b (vi 0) (jc a 0):=gq Tryz.func65
theorem jrE:jfK a b c=Y1 b c (jc4 3 c b 0 λd=>kq d a (jm b) (jv b (vi 1) λb=>jfK a b c)) (jm (vi (- 1))):=hq Tryz.func65
theorem KN:qw a b c d=jad a (vi 1) λe=>jp e false λ_=>jp e false λf=>brn f ((KF (vi 3) b c d).bind λb=>jD b 0 λc=>jD b 1 λd=>jD b 2 λf=>jD b 3 λb=>qf e (vb true) b (jpG c d f) (jpH c d f a)) (qf e (vb true) (A.val undef) (jpG b c d) (jpH b c d a)):=vq Tryz.func66
theorem jtQ:jmK a b c=(JM (vi 8) a b c).bind λa=>jD a 0 λb=>jD a 1 λc=>jD a 2 λd=>jD a 3 λa=>kT a (vi 0) λe=>JL e (JL e (jpI b c d) (jpJ a b c d)) (kq a (vi 1) (jpI b c d) (jpJ a b c d)):=vq Tryz.func67
theorem g68:G 68 [a]=jd 2 a λa=>kF 49 [zd a] λb=>JL b (ky (jc a 1) λb=>kT b (vi 2) λb=>jp b true λ_=>zh b 89 [zd a] λc=>jT b c (vb false) λb=>jp b true λ_=>jG b (jc a 1) λc=>ke b (jh 2 c (vi 0)) λc=>ke b (jF 2 c) λc=>zh b 90 [c] λc=>jT b c (vb false) λb=>jp b true λ_=>jG b (jc a 1) λa=>ke b (jh 2 a (vi 1)) λa=>ke b (jF 2 a) λa=>zh b 90 [a] λa=>jT b a (vb false) λa=>jm a) (kF 101 [jc a 0] λb=>jp b true λ_=>zh b 55 [zd a] λa=>jT b a (vb false) λa=>jm a):=gq Tryz.func68
theorem g69:G 69 [a]=ky a λb=>jfL (vi 0) a b (vi 0):=gq Tryz.func69
theorem jnO:jfL a b c d=jL d c (kIP 1 b d λe=>Kh e a (jm e) (jv d (vi 1) λd=>jfL a b c d)) (jm a):=hq Tryz.func69
theorem g7:G 7 [a,b]=jd 1 a λa=>jd 1 b λb=>kFN 15 [kP a] λc=>jp c false λ_=>jaF c 15 [kP b] λd=>zI c (K6 .not d) λd=>qf c (vb true) d (jm (A.tup [A.agg [A.sl 3 []],vb false])) (kF2 22 [kP a,kP b] λa b=>(G 23 [a]).bind λa=>JD a λa=>jd 1 a λa=>jgu b λb=>jp b false λ_=>jaF b 24 [kP a] λc=>zI b (K6 .not c) λc=>qf b (vb true) c (jm (A.tup [A.agg [A.sl 3 []],vb false])) (brn (jP (jc a 0)) (jm (A.tup [kP a,vb true])) none)):=gq Tryz.func7
theorem g70:G 70 [a,b]=jd 2 a λa=>jd 2 b λb=>kF 102 [zd a] λc=>kF 102 [zd b] λd=>jG c d λe=>ke c (K6 .not e) λe=>qf c e (vb false) (jm (vi (- 1))) (jG d c λc=>ke d (K6 .not c) λc=>qf d c (vb false) (jm (vi 1)) (kF 78 [jc a 0,jc b 0] λc=>ky (jc a 1) λd=>ky (jc b 1) λe=>kF 71 [d,e] λd=>brn (jP c) (brn (jP d) (kfn true (G 69 [A.sl 1 [[c],[d]]]) λc=>Kh c (vi 0) (jm c) (kF 103 [jc a 1,jc b 1,A.fn 70 []] λa=>jm a)) none) none)):=gq Tryz.func70
theorem g71:G 71 [a,b]=kF 104 [a] λc=>kF 104 [b] λd=>jpM c d a b:=gq Tryz.func71
theorem g72:G 72 [a]=JL a (jm (vi 1)) (jm (vi 0)):=gq Tryz.func72
theorem jtR:jmL a=(jeX a).bind λa=>jaQ (jid []) a:=vq Tryz.func73
theorem jtS:jfC a b c p=jd 2 a λa=>brn (jP b) (brn (jP c) (ky (jc a 1) λd=>kT d (vi 0) λd=>jp d true λ_=>zh d 102 [zd a] λe=>qf d e (vb false) ((K4 none true false [sv [],A.sl 2 []] (A.mp p) (jc a 0)).bind λd=>Jl d 0 λe=>Jl d 1 λd=>jd 2 e λe=>(je9 none p (jc a 0) (A.agg [b,c])).bind λa=>jgu d λd=>jp d false λ_=>jp d false λ_=>jaF d 50 [zd e,A.agg [b,c]] λb=>jT d (vb true) b λb=>some (A.top,[b,A.sl 128 a])) (Y3 (jc a 0) b λd=>jp d false λ_=>kM d (jc a 1) λe=>zI d (yq e) λe=>jp d false λ_=>kM d c λf=>zI d (yq f) λf=>zI d (js .neq false e f) λe=>qf d (vb true) e (some (A.top,[vb false,A.sl 128 p])) (ky (jc a 1) λd=>Yy (jc a 1) d (vi 0) b c p))) none) none:=vq Tryz.func74
theorem jkj:Yy a b c d e p=jL c b (J6 2 2 a c λf=>jd 2 f λf=>J6 2 2 e c λg=>(KH (jc f 0) (jc f 1) g p).bind λf=>jD f 0 λg=>Ju 128 f 1 λf=>kbN g (some (A.top,[vb false,A.sl 128 f])) (jv c (vi 1) λc=>Yy a b c d e f)) (some (A.top,[vb true,A.sl 128 p])):=hq Tryz.func74
theorem jtT:KH a b c p=brn (jP a) (brn (jP b) (jd 2 c λc=>ky b λd=>kT d (vi 0) λd=>jp d true λ_=>zh d 102 [A.agg [a,b]] λe=>qf d e (vb false) ((K4 none true false [sv [],A.sl 2 []] (A.mp p) a).bind λb=>Jl b 0 λd=>Jl b 1 λb=>jd 2 d λd=>(je9 none p a (zd c)).bind λa=>jgu b λb=>jp b false λ_=>jp b false λ_=>jaF b 50 [zd d,zd c] λc=>jT b (vb true) c λb=>some (A.top,[b,A.sl 128 a])) (Y3 a (jc c 0) λa=>jp a false λ_=>kM a b λd=>zI a (yq d) λd=>jp a false λ_=>kM a (jc c 1) λe=>zI a (yq e) λe=>zI a (js .neq false d e) λd=>qf a (vb true) d (some (A.top,[vb false,A.sl 128 p])) (ky b λa=>Yz b a (vi 0) (jc c 0) (jc c 1) p))) none) none:=vq Tryz.func74
theorem jkk:Yz a b c d e p=jL c b (J6 2 2 a c λf=>jd 2 f λf=>J6 2 2 e c λg=>(KH (jc f 0) (jc f 1) g p).bind λf=>jD f 0 λg=>Ju 128 f 1 λf=>kbN g (some (A.top,[vb false,A.sl 128 f])) (jv c (vi 1) λc=>Yz a b c d e f)) (some (A.top,[vb true,A.sl 128 p])):=hq Tryz.func74
theorem g75:G 75 [a]=jd 2 a λa=>(jh1 (jc a 1)).bind λb=>Ju 2 b 0 λb=>brn (jP (jc a 0)) (brn (jP (jc a 0)) (jm (A.agg [jc a 0,A.sl 2 b])) none) none:=gq Tryz.func75
theorem g77:G 77 [a,b]=jd 3 a λa=>jd 3 b λb=>kF 78 [jc a 0,jc b 0] λa=>jm a:=gq Tryz.func77
theorem g78:G 78 [a,b]=kF 108 [a] λc=>kF 108 [b] λd=>jpM c d a b:=gq Tryz.func78
theorem jtV:jbf a b p=jd 2 a λa=>jd 2 b λb=>kF 47 [jc a 0] λc=>JL c (YA (vi 0) (jc a 0) (jc a 1) (jc b 0) (jc b 1) p) (Y3 (jc a 0) (jc b 0) λc=>jp c false λ_=>kM c (jc a 1) λd=>zI c (yq d) λd=>jp c false λ_=>kM c (jc b 1) λe=>zI c (yq e) λe=>zI c (js .neq false d e) λd=>qf c (vb true) d (some (A.top,[vb false,A.sl 259 p])) (jaR (vi 0) (jc a 0) (jc a 1) (jc b 0) (jc b 1) p)):=vq Tryz.func79
theorem jkl:YA a b c d e p=jL a (zW p) (KD (jw p) a λf=>kRP p f 0 λf=>kq f b (KD (jw p) a λa=>kRN p a 1 2 λa=>kF 109 [a,A.agg [d,e]] λa=>some (A.top,[a,A.sl 259 p])) (jv a (vi 1) λa=>YA a b c d e p)) (brn (jP b) (brn (jP d) (brn (jP e) (brn (jP b) (brn (jP d) (brn (jP e) (brn (jJ ((jw p)+(jw [[b,d,e]])) 56) (some (A.top,[vb true,A.sl 259 (km p [[b,d,e]])])) none) none) none) none) none) none) none):=hq Tryz.func79
theorem jp5:jaR a b c d e p=jpN a c e p b d:=hq Tryz.func79
theorem jeR:jaS a b c d e p=jpN a c e p b d:=hq Tryz.func79
theorem g8:G 8 [a]=jd 1 a λa=>kF 20 [kP a] λb=>kbN b (jm (A.tup [vb false,vb false])) (kF 25 [kP a] λa=>jm (A.tup [a,vb true])):=gq Tryz.func8
theorem g80:G 80 [a,b,c]=jpP a b c:=gq Tryz.func80
theorem g81:G 81 [a]=Y2 a (vy 97) λb=>jG b a λc=>ke b (js .leq false c (vy 122)) λc=>jT b c (vb false) λb=>kM b a λc=>zI b (js .geq false c (vy 48)) λc=>kM b c λc=>jG c a λa=>ke c (js .leq false a (vy 57)) λa=>zI b (yr c a (vb false)) λa=>jT b (vb true) a λa=>jm a:=gq Tryz.func81
theorem g82:G 82 [a,b,c]=ky a λd=>ky b λe=>Kh d e (jm (vb false)) (ky a λd=>jjE b c a d (vi 0)):=gq Tryz.func82
theorem jrF:jjE a b c d e=jL e d (J6 2 2 c e λf=>jd 2 f λf=>J6 2 2 a e λg=>jd 2 g λg=>(DX.run K (MM K) (.callc b [zd f,zd g] false)).bind λf=>kbN f (jm (vb false)) (jv e (vi 1) λe=>jjE a b c d e)) (jm (vb true)):=hq Tryz.func82
theorem g83:G 83 [a,b,c,d]=jd 2 c λc=>jd 2 d λd=>ky (jc d 1) λe=>kT e (vi 0) λe=>jp e true λ_=>jG e (jc d 0) λf=>ke e (K2 f) λf=>ke e (js .gtr false f (vi 0)) λf=>jT e f (vb false) λe=>jp e true λ_=>jG e (jc d 0) λf=>ke e (j8 f (vi 0)) λf=>ke e (js .geq false f (vy 65)) λf=>jT e f (vb false) λe=>jp e true λ_=>jG e (jc d 0) λf=>ke e (j8 f (vi 0)) λf=>ke e (js .leq false f (vy 90)) λf=>qf e f (vb false) (kF 110 [zd c,jc d 0] λa=>jm a) (jdh a b (vi 0) (jc c 0) (jc c 1) (jc d 0) (jc d 1) []):=gq Tryz.func83
theorem jrG:jdh a b c d e f g p=Y1 c g (J6 2 2 g c λh=>kF 83 [a,b,A.agg [d,e],h] λh=>brn (jP h) (brn (jJ ((jw p)+(jw [[h]])) 8) (jv c (vi 1) λc=>jdh a b c d e f g (km p [[h]])) none) none) (kfn true (G 84 [a,f,A.sl 1 p]) λa=>(js .rem false a b).bind λa=>jm a):=hq Tryz.func83
theorem g84:G 84 [a,b,c]=jjF a b c (vi 17) (vi 0):=gq Tryz.func84
theorem jrH:jjF a b c d e=kLS b λf=>jL e f (ZX (vi 31) d λd=>kIS b e λf=>(qy .i64 f).bind λf=>jv d f λd=>(js .rem false d (vi 65521)).bind λd=>jv e (vi 1) λe=>jjF a b c d e) (jjG a c d (vi 0)):=hq Tryz.func84
theorem jrI:jjG a b c d=Y1 d b (ZX (vi 37) c λc=>kIP 1 b d λe=>jv c e λc=>jv c (vi 1) λc=>(js .rem false c (vi 65521)).bind λc=>jv d (vi 1) λd=>jjG a b c d) ((js .rem false c (vi 53)).bind λb=>kF 111 [a,b] λb=>ZX (vi 13) b λb=>jv c b λb=>(js .rem false c (vi 89)).bind λc=>kF 111 [a,c] λa=>jv b a λa=>jgv a (vi 3) λa=>jm a):=hq Tryz.func84
theorem g85:G 85 [a]=Y2 a (vy 65) λb=>jG b a λa=>ke b (js .leq false a (vy 90)) λa=>jT b a (vb false) λa=>jm a:=gq Tryz.func85
theorem g86:G 86 [a]=Y2 a (vy 97) λb=>jG b a λa=>ke b (js .leq false a (vy 122)) λa=>jT b a (vb false) λa=>jm a:=gq Tryz.func86
theorem g87:G 87 [a]=Y2 a (vy 48) λb=>jG b a λa=>ke b (js .leq false a (vy 57)) λa=>jT b a (vb false) λa=>jm a:=gq Tryz.func87
theorem g88:G 88 [a,b,c]=jpP a b c:=gq Tryz.func88
theorem g89:G 89 [a]=jd 2 a λa=>kF 112 [zd a] λb=>jad b (vi 30) λb=>jp b true λ_=>zh b 113 [zd a] λa=>ke b (js .leq false a (vi 8)) λa=>jT b a (vb false) λa=>jm a:=gq Tryz.func89
theorem g9:G 9 [a]=jd 1 a λa=>kF 15 [kP a] λa=>jm a:=gq Tryz.func9
theorem g90:G 90 [a]=jd 2 a λa=>kF 54 [jc a 0] λb=>JL b (ky (jc a 1) λa=>kT a (vi 0) λa=>jm a) (kF 101 [jc a 0] λb=>jp b true λ_=>jG b (jc a 1) λc=>ke b (yq c) λc=>ke b (js .leq false c (vi 4)) λc=>jT b c (vb false) λb=>jp b true λ_=>jG b (jc a 1) λa=>zh b 114 [a,A.fn 115 []] λa=>ke b (K6 .not a) λa=>jT b a (vb false) λa=>jm a):=gq Tryz.func90
theorem g91:G 91 [a,b]=jd 1 a λa=>jd 2 b λb=>ky (jc b 1) λc=>kq c (vi 0) (kF2 116 [kP a,jc b 0] λa c=>jd 2 a λa=>JL c (kF 75 [zd a] λa=>jd 2 a λa=>jm (zd a)) (e_4 b)) (ky (jc b 1) λc=>kMk 40 c c λc=>brn (jP (jc b 0)) (brn (jP (jc b 0)) (ky (jc b 1) λd=>jmS (jc b 1) d (vi 0) (jc a 0) (sv []) (jc b 0) (KA c [sv [],A.sl 2 []]) []) none) none):=gq Tryz.func91
theorem jul:jmS a b c d e f p q=jpQ c b a d p e f q:=hq Tryz.func91
theorem jrJ:jmT a b c d e f p q=jpQ c b a d q e f p:=hq Tryz.func91
theorem g92:G 92 [a]=jd 3 a λa=>kF 75 [A.agg [jc a 1,jc a 2]] λb=>(kJ (kx (K.at 92) 44) [vb false,sv [],A.sl 2 []] [(0,jc a 0),(1,b)]).bind λa=>jd 3 a λa=>jm (jln a):=gq Tryz.func92
theorem jtX:jmN p=jL (zW p) (vi 2) (some (A.top,[A.sl 3 p])) (jaT (vi 1) p):=vq Tryz.func94
theorem jkm:jaT a p=jL a (zW p) (KD (jw p) a λb=>kRN p b 0 3 λb=>JX a (vi 1) λc=>KD (jw p) c λc=>kRN p c 0 3 λc=>kF 95 [b,c] λb=>JL b (kB (yV p) (qi p 0) none λb=>kB 0 b (some a) λc=>YB a (nA (0+c)) (nA (zo b c)) (vi 1) p) (jv a (vi 1) λa=>jaT a p)) (some (A.top,[A.sl 3 p])):=hq Tryz.func94
theorem jkn:YB a b c d p=jL d (nA (nOf c)) (KD (nOf c) d λe=>kRN p ((nOf b)+e) 0 3 λe=>JX d (vi 1) λf=>KD (nOf c) f λf=>kRN p ((nOf b)+f) 0 3 λf=>kF 95 [e,f] λe=>kbN e (KD (nOf c) d λe=>kRN p ((nOf b)+e) 0 3 λe=>KD (jw p) a λf=>jd 3 e λe=>kRG p f λg=>jv a (vi 1) λa=>jv d (vi 1) λd=>YB a (nA (nOf b)) (nA (nOf c)) d (Jd p f (Jr g 0 [jc e 0,jc e 1,jc e 2]))) (jv d (vi 1) λd=>YB a (nA (nOf b)) (nA (nOf c)) d p)) (kB (yV p) (qi p 0) none λb=>kB 0 b (some a) λc=>kB (yV (yc p (0+c) (KA (zo b c) [vb false,sv [],A.sl 2 []]))) (qi (yc p (0+c) (KA (zo b c) [vb false,sv [],A.sl 2 []])) 0) (some a) λa=>some (A.top,[A.sl 3 (List.take (zo a 0) (yc p (0+c) (KA (zo b c) [vb false,sv [],A.sl 2 []])))])):=hq Tryz.func94
theorem g95:G 95 [a,b]=jd 3 a λa=>jd 3 b λb=>(js .eql true (jc a 0) (jc b 0)).bind λc=>jp c true λ_=>jp c true λ_=>jp c true λ_=>jp c true λ_=>zh c 50 [A.agg [jc a 1,jc a 2],A.agg [jc b 1,jc b 2]] λa=>jT c a (vb false) λa=>jm a:=gq Tryz.func95
theorem jtY:jmO a b c d=(qT b c d [[sv [88]],[sv [97]]]).bind λb=>jD b 0 λc=>jD b 1 λd=>jD b 2 λe=>jD b 3 λb=>brn (jP b) (brn (jP b) (Zu a (sv []) b c d e [] []) none) none:=vq Tryz.func96
theorem jeT:Zu a b c d e f p q=yC a (vi 1) (brn (jP c) (JX a (vi 1) λa=>Zu a b (sv [102]) d e f p [[c,A.sl 2 q]]) none) (jpC c d e f q):=hq Tryz.func96
theorem jtZ:jjm a b c=YC (vi 0) a b c (sv []) (sv [103]) [] []:=vq Tryz.func97
theorem Y6:YC a b c d e f p q=jL a (vi 4) (jaU a (vi 0) b c d e f (sv [104]) p q []) ((KF (vi 2) b c d).bind λa=>jD a 0 λb=>jD a 1 λc=>jD a 2 λd=>jD a 3 λa=>JL a (kB (yV q) (qi q 0) (some (vi 3)) λa=>(KF (vi 2) b c d).bind λb=>jD b 0 λc=>jD b 1 λd=>jD b 2 λe=>jD b 3 λb=>jp b true λ_=>jp b true λ_=>jG b (nA (zo a 0)) λg=>ke b (js .eql false g (vi 3)) λg=>qf b g (vb false) (brn (jon 0 (zo a 0) [[sv [102],A.sl 2 [[sv [98],A.sl 2 []]]]] q) (brn (jP f) (some (A.top,[c,d,e,A.agg [f,A.sl 2 (List.take ((zo a 0)+(yV [[sv [102],A.sl 2 [[sv [98],A.sl 2 []]]]])) (yc q (0+(zo a 0)) [[sv [102],A.sl 2 [[sv [98],A.sl 2 []]]]]))]])) none) none) (brn (jP f) (some (A.top,[c,d,e,A.agg [f,A.sl 2 (List.take (zo a 0) q)]])) none)) ((KF (vi 2) b c d).bind λa=>jD a 0 λb=>jD a 1 λc=>jD a 2 λd=>jD a 3 λa=>jp a true λ_=>jp a true λ_=>jG a (zW q) λe=>ke a (js .eql false e (vi 3)) λe=>qf a e (vb false) (brn (jJ ((jw q)+(jw [[sv [102],A.sl 2 [[sv [98],A.sl 2 []]]]])) 40) (brn (jP f) (some (A.top,[b,c,d,A.agg [f,A.sl 2 (km q [[sv [102],A.sl 2 [[sv [98],A.sl 2 []]]]])]])) none) none) (jil f b c d q))):=hq Tryz.func97
theorem Y7:jaU a b c d e f g h p q r=jL b (vi 4) (brn (jJ ((jw r)+(jw [[sv [102],A.sl 2 [[sv [97],A.sl 2 []]]]])) 40) (jv b (vi 1) λb=>jaU a b c d e f g h p q (km r [[sv [102],A.sl 2 [[sv [97],A.sl 2 []]]]])) none) (brn (jP h) (brn (jJ ((jw q)+(jw [[h,A.sl 2 r]])) 40) (jv a (vi 1) λa=>YC a c d e f g p (km q [[h,A.sl 2 r]])) none) none):=hq Tryz.func97
theorem g98:G 98 [a,b]=jd 2 a λa=>jjH b (vi 1) (vi 0) (jc a 0) (jc a 1):=gq Tryz.func98
theorem jnP:jjH a b c d e=ky e λf=>JW c f λf=>jG f b λg=>jG f a λh=>ke f (js .leq false g h) λg=>qf f g (vb false) (J6 2 2 e c λf=>JX a b λg=>kF 98 [f,g] λf=>jv b f λb=>jv c (vi 1) λc=>jjH a b c d e) (jm b):=hq Tryz.func98
theorem g99:G 99 [a]=jd 2 a λa=>jjI (vi 0) (vi 0) (jc a 0) (jc a 1):=gq Tryz.func99
theorem jrK:jjI a b c d=Y1 b d (J6 2 2 d b λe=>kF 99 [e] λe=>kF 118 [a,e] λa=>jv b (vi 1) λb=>jjI a b c d) (jv a (vi 1) λa=>jm a):=hq Tryz.func99
end
end
end Go.Proofs.YtdbgbieenhcldaaGreat
