/- Pq -/
import Derived.Test.YtdbgbieenhcldaaGreatDoorKt
import Derived.KernelRfl
set_option linter.unusedVariables false
namespace Go.Proofs.YtdbgbieenhcldaaGreatDoor
open Go Go.RowKit Go.Proofs.YtdbgbieenhcldaaGreatDoor.Abs
set_option linter.unusedSimpArgs false
set_option linter.unusedVariables false
noncomputable section
def vT:V:=V.top
def vD (a:A):V:=V.d a
def vP (i:Nat):V:=V.ptr i 0
def vR (i:Nat):V:=V.row i
def tp (n:Nat):List V:=List.replicate n vT
def pth:Nat->Nat->List Nat
 | 0,_=>[]
 | k+1,n=>if Nat.ble n 1 then [] else pth k (n/10)++[n%10]
def hs (sh:Option (List Nat)) (f p:Nat) (l:List V) (n:Nat) (ob:List Abs.Obj):Option Out:=MM K (.head f (pth 60 p) (l++tp n) ob sh)
def hd (f p:Nat) (l:List V) (n:Nat) (ob:List Abs.Obj):Option Out:=hs none f p l n ob
theorem gq {f:FuncId} {fn:Func} {l:List A} {r:Option Out} (h3:Tryz.prog.funcs[f]? = some fn) (h2:K.pureF f=true:=by exact rfl) (h4:fn.body.isSome=true:=by exact rfl) (h5:Nat.ble l.length fn.ntmps=true:=by exact rfl) (h1:K.ext f=none:=by exact rfl) (e:evC K (MM K) f (codeOf fn) [] (KB fn l) (qF K f fn)=r:=by kernel_rfl):G f l=r:=(jwO h2 h3 h4 h5 h1).trans e
theorem vq {f:FuncId} {fn:Func} {l:List V} {ob:List Abs.Obj} {r:Option Out} (h3:Tryz.prog.funcs[f]? = some fn) (h1:K.extv f=none:=by exact rfl) (h4:fn.body.isSome=true:=by exact rfl) (h5:Nat.ble l.length fn.ntmps=true:=by exact rfl) (e:evC K (MM K) f (codeOf fn) [] (Yz fn l ob) (qF K f fn)=r:=by kernel_rfl):MM K (.callv f l ob)=r:=(jwS h1 h3 h4 h5).trans e
theorem hq {f:FuncId} {fn:Func} {p:List Nat} {l:List V} {ob:List Abs.Obj} {sh:Option (List Nat)} {r:Option Out} (h3:Tryz.prog.funcs[f]? = some fn) (h4:fn.body.isSome=true:=by exact rfl) (e:evAt K (MM K) f (codeOf fn) p [] (St.of fn.ntmps l ob sh) (qF K f fn)=r:=by kernel_rfl):MM K (.head f p l ob sh)=r:=(jwQ h3 h4).trans e
section
variable {B:Type}
def jd (n:Nat) (a:A) (k0:List A->Option B):Option B:=(Kq n a).bind k0
def Kl (t:A) (n:Nat) (k0:A->Option B):Option B:=(Kr t n).bind k0
def j9 (t x y:A) (k0:A->Option B):Option B:=(Jz t x y).bind k0
def jx (t:A) (w:Bool) (k0:Bool->Option B):Option B:=(qC t w).bind k0
def ku (l:A) (k0:A->Option B):Option B:=(qB l).bind k0
def kLN (n:Nat) (a:A) (k0:A->Option B):Option B:=(jP n a).bind k0
def jR (t x:A) (k0:A->Option B):Option B:=(pG t true (some x)).bind k0
def zw (t x:A) (k0:A->Option B):Option B:=(pG t false (some x)).bind k0
def kR (t:A) (x:Option A) (k0:A->Option B):Option B:=(pG t true x).bind k0
def yQ (t:A) (x:Option A) (k0:A->Option B):Option B:=(pG t false x).bind k0
def zm (t:A) (n:Nat) (l:List A) (k0:A->Option B):Option B:=(pG t true ((G n l).bind (fin false))).bind k0
def jdT (t:A) (n:Nat) (l:List A) (k0:A->Option B):Option B:=(pG t false ((G n l).bind (fin false))).bind k0
def kF (n:Nat) (l:List A) (k0:A->Option B):Option B:=((G n l).bind (fin false)).bind k0
def K7 (o:Out) (k0:A->Option B):Option B:=(fin false o).bind k0
def kfn (b:Bool) (x:Option Out) (k0:A->Option B):Option B:=(x.bind (fin b)).bind k0
def jhv (x:A) (k0:A->Option B):Option B:=(KR .not x).bind k0
def jG (o:Out) (i:Nat) (k0:A->Option B):Option B:=(hD o i).bind k0
def JP (k:Nat) (o:Out) (i:Nat) (k0:List (List A)->Option B):Option B:=(hR k o i).bind k0
def Yl (n:Nat) (i:A) (k0:Nat->Option B):Option B:=(Z7 n i).bind k0
def kB (d t:Nat) (x:Option A) (k0:Nat->Option B):Option B:=(pB d t x).bind k0
def kRN (l:List (List A)) (i j n:Nat) (k0:A->Option B):Option B:=(yh l i j n).bind k0
def kRG (l:List (List A)) (i:Nat) (k0:List A->Option B):Option B:=(jgf l i).bind k0
def kIS (a i:A) (k0:A->Option B):Option B:=(j6 a i).bind k0
def kSl (k:Nat) (a:A) (x y:Option A) (k0:A->Option B):Option B:=(JL k a x y).bind k0
def kRP (l:List (List A)) (i j:Nat) (k0:A->Option B):Option B:=(KM l i j).bind k0
def kMk (n:Nat) (a b:A) (k0:Nat->Option B):Option B:=(jew n a b).bind k0
def kRs (k:Nat) (a:A) (k0:List (List A)->Option B):Option B:=(jdb k a).bind k0
def kLS (a:A) (k0:A->Option B):Option B:=(Ze a).bind k0
def jr (x y:A) (k0:A->Option B):Option B:=(js .add false x y).bind k0
def ze (x y:A) (k0:A->Option B):Option B:=(js .eql false x y).bind k0
def Qo (x y:A) (k0:A->Option B):Option B:=(js .geq false x y).bind k0
def jlr (x y:A) (k0:A->Option B):Option B:=(js .gtr false x y).bind k0
def jcz (x y:A) (k0:A->Option B):Option B:=(js .leq false x y).bind k0
def KI (x y:A) (k0:A->Option B):Option B:=(js .lss false x y).bind k0
def Z6 (x y:A) (k0:A->Option B):Option B:=(js .mul false x y).bind k0
def jcA (x y:A) (k0:A->Option B):Option B:=(js .neq false x y).bind k0
def jhw (x y:A) (k0:A->Option B):Option B:=(js .quo false x y).bind k0
def joQ (x y:A) (k0:A->Option B):Option B:=(js .shr false x y).bind k0
def J4 (x y:A) (k0:A->Option B):Option B:=(js .sub false x y).bind k0
def KJ (t:A) (X Y:Option B):Option B:=(zx t).bind λu=>brn u X Y
def qI (c x y:A) (X Y:Option B):Option B:=(Jz c x y).bind λt=>(zx t).bind λu=>brn u X Y
def kbN (x:A) (X Y:Option B):Option B:=(KR .not x).bind λt=>(zx t).bind λu=>brn u X Y
def YF (i l:A) (X Y:Option B):Option B:=(qB l).bind λn=>(js .lss false i n).bind λt=>(zx t).bind λu=>brn u X Y
def kF2 (n:Nat) (l:List A) (k:A->A->Option B):Option B:=((G n l).bind (fin false)).bind λt=>(Kr t 0).bind λa=>(Kr t 1).bind λb=>k a b
def kFN (n:Nat) (l:List A) (k:A->Option B):Option B:=((G n l).bind (fin false)).bind λt=>(KR .not t).bind k
def KH (n m:Nat) (x i:A) (k:A->Option B):Option B:=(ju m x i).bind λt=>(jP n t).bind k
def kIP (m:Nat) (x i:A) (k:A->Option B):Option B:=(ju m x i).bind λt=>(zn t).bind k
def jcy (n m:Nat) (x i:A) (o:Nat) (k:A->Option B):Option B:=(ju m x i).bind λt=>(qL t o).bind λt=>(jP n t).bind k
def jfH (m:Nat) (x i:A) (o:Nat) (k:A->Option B):Option B:=(ju m x i).bind λt=>(qL t o).bind λt=>(zn t).bind k
def jL (x y:A) (X Y:Option B):Option B:=(js .lss false x y).bind λt=>(zx t).bind λu=>brn u X Y
def jcC (x y:A) (X Y:Option B):Option B:=(js .leq false x y).bind λt=>(zx t).bind λu=>brn u X Y
def yM (x y:A) (X Y:Option B):Option B:=(js .gtr false x y).bind λt=>(zx t).bind λu=>brn u X Y
def jcB (x y:A) (X Y:Option B):Option B:=(js .geq false x y).bind λt=>(zx t).bind λu=>brn u X Y
def kL (x y:A) (X Y:Option B):Option B:=(js .eql false x y).bind λt=>(zx t).bind λu=>brn u X Y
def yZ (x y:A) (X Y:Option B):Option B:=(js .neq false x y).bind λt=>(zx t).bind λu=>brn u X Y
def jm (x:A):Option Out:=some (x,[])
def zc (t:List A):A:=A.agg [jc t 0]
def zR (t:List A):A:=A.agg [jc t 0,jc t 1]
def jjJ (t:List A):A:=A.agg [jc t 0,jc t 1,jc t 2]
end
section
variable (a b c d e f g h i j k l m n o aa ab ac ad ae af ag ah ai aj ak al am:A) (p q r s t u v w x y z:List (List A))
def jkH:=hd 11 111010 [vT,vT,vP 0,vP 1,vT,vD a] 43 [.box [vD b],.box [vD c]]
def ji7:=MM K (.callv 129 [vD a] [])
def YT (r0 r1:List (List A)):Option Out:=MM K (.rhead 129 [1,1,0,1,0] [V.top,V.top,V.top,V.row 0,V.top,V.top,V.top,V.top,V.ptr 1 0,V.top,V.top,V.top,V.top,V.top,V.top,V.top,V.top,V.top] [.map r0,.gone] (some []) r1)
def jbR:=MM K (.callv 130 [vR 0,vD a,V.agg [V.d b,V.d c]] [.map p])
def KS:=hs (some [0]) 130 1111010 ([vR 0]++tp 4++[vP 1]++tp 46++[vD a,vD b,vD c]) 14 [.map p,.box [vD d,vD e]]
def qW:=MM K (.callv 130 [vR 0,V.agg [V.d a,V.d b],vD c] [.map p])
def KT:=hs (some [0]) 130 1111010 ([vR 0]++tp 4++[vP 1]++tp 46++[vD a,vD b,vD c]) 14 [.map p,.box [vD d,vD e]]
def je3:=MM K (.callv 132 [vR 0,V.fn 133 []] [.row 3 p])
def jn1:=hd 3 1111111111111010 ([vD a,vT,vT,vP 0]++tp 10++[vP 1,vT,vD b]) 104 [.box [vD c],.box [vD d]]
def jn2:=hd 3 11111111111110100100110 ([vD a,vT,vT,vP 0]++tp 10++[vP 1,vT,vD b,vR 2,vD c]) 102 [.box [vD d],.box [vD e],.row 1 p]
def jkN:=hd 34 111010 [vT,vT,vP 0,vP 1,vT,vD a] 33 [.box [vD b,vD c],.box [vD d,vD e]]
def jgI:=hd 81 111010 ([vD a,vD b,vT,vT,vT,vP 0]++tp 12++[vD c,vD d,vD e]) 34 [.box [vD f]]
def jd2 (r0 r1 r2:List (List A)):Option Out:=MM K (.rhead 82 [1,1,0,1,0] [V.top,V.top,V.ptr 0 0,V.top,V.ptr 1 0,V.top,V.top,V.top,V.top,V.ptr 2 0,V.top,V.top,V.top,V.top,V.top,V.top,V.top,V.top,V.top,V.top,V.top,V.top,V.top,V.top,V.top,V.top,V.top,V.top,V.top,V.top,V.top,V.top,V.top,V.top,V.top,V.top] [.box [V.row 3],.box [V.row 4],.gone,.row 3 r0,.row 3 r1] none r2)
def QS:=hd 100 111010 [vD a,vT,vT,vD b] 25 []
def jbU:=hd 101 11010 [vT,vD a,vP 0,vT,vT,vD b] 16 [.box [vD c]]
def je6:=hd 102 111010 [vT,vP 0,vP 1,vP 2,vD a] 22 [.box [vD b,vD c],.box [vD d,vR 3],.box [vD e,vR 4],.row 2 p,.row 2 q]
def JD:=MM K (.callv 104 [vP 0] [.box [vD a,vD b,vD c]])
def z8:=MM K (.callv 105 [vP 0,vD a] [.box [vD b,vD c,vD d]])
def jeZ:=MM K (.callv 108 [vP 0] [.box [vD a,vD b,vD c]])
def ji6:=MM K (.callv 109 [vP 0] [.box [vD a,vD b,vD c]])
def je0:=MM K (.callv 110 [vP 0] [.box [vD a,vD b,vD c]])
def ym:=MM K (.callv 112 [vP 0,vR 1] [.box [vD a,vD b,vD c],.row 1 p])
def jbV:=hd 115 111010 [vT,vT,vT,vD a,vT,vT,vD b,vD c,vD d] 9 []
def QT:=hd 119 1111010 ([vT,vD a,vT,vT,vP 0,vP 1]++tp 24++[vD b,vD c,vD d]) 13 [.box [vD e,vR 2],.box [vD f,vR 3],.row 2 p,.row 2 q]
def je7:=hd 120 111010 [vT,vT,vP 0,vP 1,vT,vT,vT,vD a,vD b,vD c] 19 [.box [vR 2],.box [vR 3],.row 3 p,.row 3 q]
def je1:=MM K (.callv 121 [vR 0,V.agg [V.d a,V.d b]] [.row 1 p])
def YP:=hs (some [0]) 121 111010 ([vR 0]++tp 26++[vD a,vD b,vD c]) 8 [.row 1 p]
def YQ:=hs (some [1]) 121 111010 ([vR 0]++tp 26++[vD a,vD b,vD c]) 8 [.row 1 p,.gone]
def je8:=hd 123 1111010 [vT,vP 0,vT,vD a] 31 [.box [vD b,vD c]]
def yS:=hd 124 1111010 [vD a,vT,vT,vD b] 41 []
def jbW:=hd 126 1111010 [vT,vT,vP 0,vP 1,vT,vT,vT,vD a] 67 [.box [vD b,vD c],.box [vD d,vD e]]
def je9:=hd 127 11010010 [vT,vD a,vD b,vP 0,vT,vT,vP 1,vD c] 50 [.box [vD d,vD e],.box [vD f,vR 2],.row 2 p]
def jfa:=hd 127 1111010 [vT,vD a,vD b,vP 0,vT,vT,vP 1,vT,vP 2,vD c] 48 [.box [vD d,vD e],.box [vD f,vR 3],.box [vD g,vR 4],.row 2 p,.row 2 q]
def je2:=MM K (.callv 128 [vD a,vR 0] [.row 1 p])
def YR:=hs (some [0]) 128 111010 [vT,vR 0,vP 1,vT,vT,vD a] 28 [.row 1 p,.box [vD b,vD c]]
def YS:=hs (some [2]) 128 111010 [vT,vR 0,vP 1,vT,vT,vD a] 28 [.row 1 p,.box [vD b,vD c],.gone]
def jfb:=hd 135 11010 ([vT,vP 0]++tp 4++[vD a,vD b,vD c]) 43 [.box [vD d]]
def QU:=hd 136 1111010 ([vD a,vD b]++tp 4++[vP 0,vP 1,vT,vR 2,vD c]) 53 [.box [vD d,vD e],.box [vD f,vD g],.row 1 p]
def jfc:=hd 137 111010 ([vD a,vD b,vD c]++tp 4++[vD d,vD e]) 43 []
def jfd:=hd 137 1111010 ([vD a,vT,vD b]++tp 4++[vD c,vT,vD d]) 42 []
def jbS:=MM K (.callv 13 [vR 0,vD a] [.row 1 p])
def Zw:=hs (some [0]) 13 11010010 [vR 0,vT,vT,vP 1,vT,vD a] 57 [.row 1 p,.box [vD b,vD c]]
def jbs:=hs (some [0]) 13 111010 [vR 0,vT,vT,vP 1,vT,vT,vD a] 56 [.row 1 p,.box [vD b,vD c]]
def jbt:=hs (some [2]) 13 111010 [vR 0,vT,vT,vP 1,vT,vT,vD a] 56 [.row 1 p,.box [vD b,vD c],.gone]
def YU:=hd 14 11010 [vD a,vD b,vT,vT,vT,vP 0,vT,vD c] 38 [.box [vD d]]
def jkI:=hd 14 1101001001010 [vD a,vD b,vT,vT,vT,vP 0,vT,vD c,vD d,vD e] 36 [.box [vD f]]
def ji8:=MM K (.callv 155 [vP 0] [.box [vD a,vD b,vD c]])
def jbX:=hd 159 11010 ([vD a]++tp 4++[vD b,vD c]) 41 []
def jfe:=hd 161 11010 ([vD a,vD b,vD c]++tp 8++[vD d,vD e,vD f]) 25 []
def ji9:=MM K (.callv 164 [vR 0,V.fn 71 []] [.row 3 p])
def jja:=MM K (.callv 165 [vR 0,V.fn 149 []] [.row 3 p])
def YV:=hs (some [0]) 165 111010 [vR 0,V.fn 149 [],vT,vT,vT,vD a] 60 [.row 3 p]
def KU:=hs (some [0]) 165 1110100100101010 [vR 0,V.fn 149 [],vT,vT,vT,vD a,V.win 0 3 (nOf b) (nOf c),vD d] 58 [.row 3 p]
def jff:=hd 167 111010 [vT,vD a,vP 0,vT,vT,vD b,vD c] 24 [.box [vD d,vD e]]
def jfg:=hd 168 111010 [vT,vP 0,vT,vD a,vD b] 17 [.box [vD c,vD d]]
def jfh:=hd 170 11010 [vD a,vD b,vT,vT,vT,vD c] 12 []
def jjb:=MM K (.callv 171 [vD a] [])
def YW:=hs (some []) 171 1111010 ([vT,vT,vT,vR 0]++tp 8++[vD a,vD b,vD c]) 11 [.row 2 p]
def jbY:=hd 175 11010 ([vD a]++tp 4++[vD b,vD c]) 33 []
def jfi:=hd 176 11010 [vT,vD a,vP 0,vT,vT,vD b] 20 [.box [vD c,vD d]]
def jfj:=hd 179 111010 ([vT,vD a,vD b]++tp 12++[vD c,vD d,vD e]) 14 []
def jjc:=MM K (.callv 188 [vP 0,vD a] [.box [vD b,vD c,vD d]])
def JR:=hs (some [2]) 188 11100 [vT,vD a,vT,vT,vP 0,vP 1] 12 [.box [vD b,vR 3],.box [vD c,vR 4],.box [vD d,vD e,vD f],.row 2 p,.row 2 q]
def je4:=MM K (.callv 189 [vP 0] [.box [vD a,vD b,vD c]])
def KV:=hs (some [0]) 189 111010 [vP 0,vT,vP 1,vP 2,vD a] 49 [.box [vD b,vD c,vD d],.box [vD e,vR 3],.box [vD f,vR 4],.row 2 p,.row 2 q]
def YX:=hs (some [0]) 189 11101001001010 [vP 0,vT,vP 1,vP 2,vD a,vP 3,vD b] 47 [.box [vD c,vD d,vD e],.box [vD f,vR 4],.box [vD g,vR 5],.box [vD h,vR 6],.row 2 p,.row 2 q,.row 2 r]
def juV:=hd 19 1111010 ([vT,vP 0,vT,vT,vR 1]++tp 10++[vD a,vD b]) 29 [.box [vD c],.row 1 p]
def jfk:=hd 190 111010 [vT,vT,vT,vD a,vT,vT,vT,vD b,vD c,vD d] 12 []
def jfl:=hd 191 111010 [vT,vT,vT,vD a,vT,vT,vT,vD b,vD c,vD d] 10 []
def jfm:=hd 199 11010 ([vD a,vD b]++tp 5++[vD c,vD d]) 10 []
def jfn:=hd 215 11010 ([vD a,vD b]++tp 5++[vD c,vD d]) 10 []
def jkJ:=hd 28 11010 ([vT,vP 0]++tp 4++[vD a,vD b,vD c]) 27 [.box [vD d]]
def jkK:=hd 30 111010 [vT,vT,vP 0,vP 1,vD a] 17 [.box [vR 2],.box [vD b],.row 3 p]
def jkL:=hd 31 111010 [vT,vP 0,vT,vD a] 38 [.box [vD b]]
def jkM:=hd 32 111010 [vT,vT,vP 0,vT,vP 1,vD a] 19 [.box [vR 2],.box [vD b],.row 3 p]
def jkO:=hd 36 111010 ([vT,vP 0,vP 1,vR 2]++tp 4++[vD a,vD b,vD c]) 12 [.box [vD d],.box [vR 3],.map p,.row 3 q]
def jkP:=hd 37 111010 [vD a,vT,vT,vP 0,vT,vR 1,vD b] 23 [.box [vD c],.row 1 p]
def jkQ:=hd 38 111010 [vD a,vD b,vT,vT,vT,vP 0,vT,vR 1,vD c] 92 [.box [vD d],.row 1 p]
def jgE:=hd 38 11111010 [vD a,vD b,vT,vT,vT,vP 0,vT,vR 1,vT,vD c,vD d] 90 [.box [vD e],.row 1 p]
def jbZ:=hd 38 111111010 [vD a,vD b,vT,vT,vT,vP 0,vT,vR 1,vT,vD c,vT,vD d] 89 [.box [vD e],.row 1 p]
def jkR:=hd 38 111111010010011010 [vD a,vD b,vT,vT,vT,vP 0,vT,vR 1,vT,vD c,vT,vD d,vP 2,vD e,vD f] 86 [.box [vD g],.row 1 p,.box [vR 3,vR 4],.row 1 q,.row 1 r]
def jgF:=hd 38 11111101001001111010 [vD a,vD b,vT,vT,vT,vP 0,vT,vR 1,vT,vD c,vT,vD d,vP 2,vT,vT,vD e,vD f] 84 [.box [vD g],.row 1 p,.box [vR 3,vR 4],.row 1 q,.row 1 r]
def YI:=MM K (.callv 49 [vP 0,vD a] [.box [vD b,vD c,vD d]])
def jkS:=hd 50 1111010 [vT,vT,vP 0,vP 1,vP 2,vT,vP 3,vD a] 42 [.box [vD b],.box [vD c,vD d],.box [vD e,vR 4],.box [vD f,vR 5],.row 2 p,.row 2 q]
def jnW:=MM K (.callv 52 [vP 0] [.box [vD a,vD b,vD c]])
def jd1:=hd 53 111010 [vD a,vT,vP 0,vR 1,vD b] 69 [.box [vR 2],.row 3 p,.row 3 q]
def jkT:=hd 53 1110100100100 [vD a,vT,vP 0,vR 1,vD b,vD c] 68 [.box [vR 2],.row 3 p,.row 3 q]
def jnX:=MM K (.callv 53 [vR 0] [.row 3 p])
def Zx:=hs (some [0]) 53 111010 [vR 0,vT,vP 1,vR 2,vD a] 69 [.row 3 p,.box [vR 3],.row 3 q,.row 3 r]
def jbu:=hs (some [0]) 53 1110100100100 [vR 0,vT,vP 1,vR 2,vD a,vD b] 68 [.row 3 p,.box [vR 3],.row 3 q,.row 3 r]
def jkU:=hd 59 111010 ([vT,vT,vP 0,vP 1]++tp 4++[vD a,vD b,vD c]) 12 [.box [vR 2],.box [vR 3],.row 3 p,.row 3 q]
def JQ:=MM K (.callv 65 [vP 0,vD a] [.box [vD b,vD c,vD d]])
def jkF:=MM K (.callv 66 [vP 0] [.box [vD a,vD b,vD c]])
def jnY:=MM K (.callv 67 [vP 0] [.box [vD a,vD b,vD c]])
def Zy:=hs (some [0]) 67 1110101111101010 [vP 0,vT,vP 1,vT,vT,vR 2,vD a] 79 [.box [vD b,vD c,vD d],.box [vR 3],.row 3 p,.row 3 q]
def jkV:=hd 72 11010 (tp 6++[vD a,vD b,vD c]) 10 []
def jkW:=hd 73 111010 ([vT,vD a,vT,vT,vP 0,vR 1]++tp 4++[vD b,vD c,vD d]) 16 [.box [vR 2],.row 3 p,.row 3 q]
def jkX:=hd 74 111010 [vT,vD a,vT,vT,vT,vR 0,vT,vT,vT,vD b,vD c,vD d] 12 [.map p]
def jgG:=hd 75 111010 ([vT,vT,vT,vR 0]++tp 4++[vD a,vD b,vD c]) 9 [.row 1 p]
def jkY:=hd 78 111010 [vT,vT,vT,vD a,vD b] 16 []
def jkZ:=hd 79 111010 [vT,vD a,vD b,vP 0,vT,vT,vP 1,vR 2,vD c] 29 [.box [vD d],.box [vR 3],.row 3 p,.row 3 q]
def jgH:=hd 80 111010 [vT,vP 0,vT,vR 1,vD a] 17 [.box [vD b],.row 1 p]
def jnZ:=MM K (.callv 83 [V.agg [V.row 0,V.row 1],vD a,vD b] [.row 1 p,.row 1 q])
def jgJ:=hd 84 111010 ([vD a,vD b]++tp 4++[vP 0,vP 1,vT,vR 2,vD c]) 43 [.box [vD d,vD e],.box [vD f,vD g],.row 1 p]
def jkG:=MM K (.callv 86 [vP 0,vD a] [.box [vD b,vD c,vD d]])
def Zz:=hs (some [0]) 86 111010 ([vP 0]++tp 4++[vR 1,vD a]) 40 [.box [vD b,vD c,vD d],.row 3 p]
def juW:=hd 88 111100 (tp 4++[vP 0,vT,vP 1,V.win 2 4 (nOf a) (nOf b)]) 115 [.box [vR 3],.box [vR 4],.row 4 p,.row 3 q,.fro 3 r]
def juX:=hd 88 111100 (tp 4++[vP 0,vT,vP 1,V.win 2 4 (nOf a) (nOf b)]) 115 [.box [vR 3],.box [vD c],.row 4 p,.row 3 q]
def juY:=hd 88 111100 (tp 4++[vP 0,vT,vP 1,vR 2]) 115 [.box [vR 3],.box [vR 4],.row 4 p,.row 3 q,.fro 3 r]
def juZ:=hd 88 111100 (tp 4++[vP 0,vT,vP 1,vR 2]) 115 [.box [vR 3],.box [vD a],.row 4 p,.row 3 q]
def ju0:=hd 96 1111100 (tp 4++[vP 0,vT,vP 1,vP 2,V.win 3 4 (nOf a) (nOf b)]) 140 [.box [vR 4],.box [vR 5],.box [vR 6],.row 4 p,.row 3 q,.row 3 r,.fro 3 s]
def ju1:=hd 96 1111100 (tp 4++[vP 0,vT,vP 1,vP 2,V.win 3 4 (nOf a) (nOf b)]) 140 [.box [vR 4],.box [vR 5],.box [vD c],.row 4 p,.row 3 q,.row 3 r]
def ju2:=hd 96 1111100 (tp 4++[vP 0,vT,vP 1,vP 2,vR 3]) 140 [.box [vR 4],.box [vR 5],.box [vR 6],.row 4 p,.row 3 q,.row 3 r,.fro 3 s]
def ju3:=hd 96 1111100 (tp 4++[vP 0,vT,vP 1,vP 2,vR 3]) 140 [.box [vR 4],.box [vR 5],.box [vD a],.row 4 p,.row 3 q,.row 3 r]
def e_0 (a:A) (b:A) (c:A) (d:A) (e:A) (f:A) (g:A) (h:A) (p:List (List A)):Option Out:=qI a (vb true) b (jr c (vi 1) λa=>jgI d e f g a h) (kSl 3 e (some (vi 1)) none λa=>(G 81 [A.mp p,a,A.agg [h]]).bind λa=>K7 a λa=>Kl a 0 λb=>Kl a 1 λa=>KJ a (jm (A.tup [b,vb true])) (jr c (vi 1) λa=>jgI d e f g a h))
def e_1 (a:A) (b:List A):Option Out:=kbN a (jm (A.tup [A.agg [A.sl 3 []],vb false])) (brn (jX (jc b 0)) (jm (A.tup [zc b,vb true])) none)
def e_2 (a:A) (b:A) (c:A) (d:A) (p:List (List A)):Option Out:=brn (jX a) (some (A.top,[b,c,d,a,A.sl 2 p])) none
def e_3 (a:A) (b:A) (c:A):Option Out:=(ym a b c [[sv [88]],[sv [89]],[sv [90]],[sv [97]],[sv [98]],[sv [88]],[sv [97]]]).bind λa=>jG a 0 λb=>jG a 1 λc=>jG a 2 λd=>jG a 3 λa=>brn (jX a) (brn (jX a) (some (A.top,[b,c,d,a,A.sl 2 []])) none) none
def e_4 (a:A) (b:A) (c:A) (d:A):Option Out:=(YI (vi 2) a b c).bind λa=>jG a 0 λb=>jG a 1 λc=>jG a 2 λe=>jG a 3 λa=>KJ a (J4 d (vi 1) λa=>(z8 a b c e).bind λa=>jG a 0 λb=>jG a 1 λc=>jG a 2 λd=>jG a 3 λe=>JP 2 a 4 λa=>brn (jX e) (some (A.top,[b,c,d,sv [102],A.sl 2 [[e,A.sl 2 a]]])) none) (J4 d (vi 1) λa=>(z8 a b c e).bind λa=>jG a 0 λb=>jG a 1 λc=>jG a 2 λe=>jG a 3 λf=>JP 2 a 4 λa=>J4 d (vi 1) λd=>(z8 d b c e).bind λb=>jG b 0 λc=>jG b 1 λd=>jG b 2 λe=>jG b 3 λg=>JP 2 b 4 λb=>brn (jX f) (brn (jX g) (some (A.top,[c,d,e,sv [103],A.sl 2 [[f,A.sl 2 a],[g,A.sl 2 b]]])) none) none)
def e_5 (a:A) (b:A) (c:A):Option Out:=joQ a (A.val (.int .u64 40)) λd=>(js .and false d (A.val (.int .u64 255))).bind λd=>(KL .i64 d).bind λd=>some (A.top,[b,c,a,d])
def e_6 (a:A) (b:A) (c:A) (d:A):Option Out:=KJ a (KJ b (jm (vi 0)) (jm (vi (- 1)))) (KJ b (jm (vi 1)) (jL c d (jm (vi (- 1))) (yM c d (jm (vi 1)) (jm (vi 0)))))
def e_7 (a:A) (p:List (List A)):Option Out:=brn (jX a) (brn (jO ((jw p)+(jw [[a]])) 16) (some (A.top,[A.sl 1 (kM p [[a]])])) none) none
def e_8 (a:A) (b:A) (c:A) (p:List (List A)):Option Out:=jL a b (KH 2 2 c a λd=>jd 2 d λd=>(je1 (jc d 0) (jc d 1) p).bind λd=>JP 1 d 0 λd=>jr a (vi 1) λa=>YQ c b a d) (some (A.top,[A.sl 1 p]))
def e_9 (a:A):Option Out:=brn (jX a) (brn (jX a) (jm (A.agg [a,A.sl 2 []])) none) none
def jrd (a:A) (b:A) (p:List (List A)) (c:A):Option Out:=YF a b (KH 2 2 b a λd=>(je2 d p).bind λd=>JP 1 d 0 λd=>jr a (vi 1) λa=>YS a c b d) (some (A.top,[A.sl 1 p]))
def jre (a:A) (b:A) (c:A):Option Out:=Qo a b λb=>jR b a λa=>jR b c λc=>kR b (js .leq false a c) λa=>j9 b a (vb false) λa=>jm a
def jrf (a:A) (b:A) (p:List (List A)) (c:A):Option Out:=YF a b (KH 2 2 b a λd=>(jbS d p).bind λd=>JP 1 d 0 λd=>jr a (vi 1) λa=>jbt a c b d) (some (A.top,[A.sl 1 p]))
def jjy (a:A) (b:A) (c:A) (d:A) (p:List (List A)):Option Out:=brn (jX a) (some (A.top,[b,c,d,A.agg [a,A.sl 2 p]])) none
def jrg (a:A) (b:A) (c:A):Option Out:=(JD a b c).bind λa=>jG a 0 λb=>jG a 1 λc=>jG a 2 λd=>jG a 3 λe=>JP 2 a 4 λa=>(JD b c d).bind λb=>jG b 0 λc=>jG b 1 λd=>jG b 2 λf=>jG b 3 λg=>JP 2 b 4 λb=>brn (jX e) (brn (jX g) (some (A.top,[c,d,f,sv [61],A.sl 2 [[e,A.sl 2 a],[g,A.sl 2 b]]])) none) none
def jri (a:A) (b:A) (c:A):Option Out:=(z8 (vi 2) a b c).bind λa=>jG a 0 λb=>jG a 1 λc=>jG a 2 λd=>jG a 3 λe=>JP 2 a 4 λa=>(z8 (vi 2) b c d).bind λb=>jG b 0 λc=>jG b 1 λd=>jG b 2 λf=>jG b 3 λg=>JP 2 b 4 λb=>brn (jX e) (brn (jX g) (some (A.top,[c,d,f,sv [113],A.sl 2 [[e,A.sl 2 a],[g,A.sl 2 b]]])) none) none
def jrj (a:A) (b:A) (c:A):Option Out:=(z8 (vi 2) a b c).bind λa=>jG a 0 λb=>jG a 1 λc=>jG a 2 λd=>jG a 3 λe=>JP 2 a 4 λa=>brn (jX e) (some (A.top,[b,c,d,sv [112],A.sl 2 [[e,A.sl 2 a]]])) none
def jrh (a:A) (b:A) (c:A) (d:A):Option Out:=kL a (vi 2) (some (A.top,[b,c,d,sv [114],A.sl 2 []])) (ze a (vi 3) λe=>KJ e (KJ e (jri b c d) (jrj b c d)) (kL a (vi 4) (jri b c d) (jrj b c d)))
def jrl (a:A) (b:A) (c:A) (d:A) (p:List (List A)) (q:List (List A)) (e:A):Option Out:=jR a b λf=>jR a c λg=>kR a (ju 3 f g) λf=>kR a (jP 3 f) λf=>zm a 77 [d,f] λd=>kR a (js .eql false d (vi 0)) λd=>qI a d (vb false) (jr c (vi 1) λa=>jd1 b a p q) (jfH 3 b c 0 λa=>jcy 2 3 b c 1 λd=>(G 102 [d]).bind λd=>K7 d λd=>(kT (kz (K.at 53) 42) [vb false,sv [],A.sl 2 []] [(0,a),(1,d)]).bind λa=>jd 3 a λa=>kB (Ji p) (Ks p 0) (some e) λd=>brn (jO (jw (ZU p 0 (yq d 0))) 48) (brn (jX (jc a 0)) (brn (jX (jc a 1)) (brn (jX (jc a 2)) (brn (jO ((jw (ZU p 0 (yq d 0)))+(jw [[jc a 0,jc a 1,jc a 2]])) 48) (kB (Ji p) (Ks p 0) none λf=>kB 0 f (some e) λe=>brn (jO ((jw (kM (ZU p 0 (yq d 0)) [[jc a 0,jc a 1,jc a 2]]))+(jw (ZU p (0+e) (yq f e)))) 48) (jr c (vi 1) λc=>jd1 b c (kM (kM (ZU p 0 (yq d 0)) [[jc a 0,jc a 1,jc a 2]]) (ZU p (0+e) (yq f e))) q) none) none) none) none) none) none)
def jrk (a:A) (b:A) (c:A) (d:A) (e:A) (p:List (List A)) (q:List (List A)):Option Out:=jR a b λf=>jR a c λg=>kR a (ju 3 f g) λf=>kR a (jP 3 f) λf=>zm a 77 [d,f] λd=>kR a (js .lss false d (vi 0)) λd=>qI a d (vb false) (jr e (vi 1) λa=>jkT b c a p q) (KI e (yF p) λa=>jx a true λ_=>jR a e λd=>jx a true λf=>brn f (Yl (jw p) d λd=>kR a (yh p d 0 3) λd=>jrl a b c d p q e) (kR a (jP 3 (A.val undef)) λd=>jrl a b c d p q e))
def jrp (a:A) (b:A) (c:A) (d:A) (p:List (List A)) (q:List (List A)) (r:List (List A)) (e:A):Option Out:=zm a 77 [b,c] λb=>kR a (js .eql false b (vi 0)) λb=>qI a b (vb false) (jr d (vi 1) λa=>Zx a p q r) (Yl (jw p) d λa=>kRP p a 0 λa=>Yl (jw p) d λb=>kRN p b 1 2 λb=>(G 102 [b]).bind λb=>K7 b λb=>(kT (kz (K.at 53) 42) [vb false,sv [],A.sl 2 []] [(0,a),(1,b)]).bind λa=>jd 3 a λa=>kB (Ji q) (Ks q 0) (some e) λb=>brn (jO (jw (ZU q 0 (yq b 0))) 48) (brn (jX (jc a 0)) (brn (jX (jc a 1)) (brn (jX (jc a 2)) (brn (jO ((jw (ZU q 0 (yq b 0)))+(jw [[jc a 0,jc a 1,jc a 2]])) 48) (kB (Ji q) (Ks q 0) none λc=>kB 0 c (some e) λe=>brn (jO ((jw (kM (ZU q 0 (yq b 0)) [[jc a 0,jc a 1,jc a 2]]))+(jw (ZU q (0+e) (yq c e)))) 48) (jr d (vi 1) λd=>Zx d p (kM (kM (ZU q 0 (yq b 0)) [[jc a 0,jc a 1,jc a 2]]) (ZU q (0+e) (yq c e))) r) none) none) none) none) none) none)
def jro (a:A) (b:A) (p:List (List A)) (c:A) (q:List (List A)) (r:List (List A)) (d:A):Option Out:=jx a true λ_=>jR a b λe=>jx a true λf=>brn f (Yl (jw p) e λe=>kR a (yh p e 0 3) λe=>jrp a c e b p q r d) (kR a (jP 3 (A.val undef)) λe=>jrp a c e b p q r d)
def jrn (a:A) (b:A) (c:A) (d:A) (e:A) (p:List (List A)) (q:List (List A)) (r:List (List A)):Option Out:=zm a 77 [b,c] λb=>kR a (js .lss false b (vi 0)) λb=>qI a b (vb false) (jr d (vi 1) λa=>jbu e a p q r) (KI d (yF q) λa=>jx a true λ_=>jR a d λb=>jx a true λc=>brn c (Yl (jw q) b λb=>kR a (yh q b 0 3) λb=>jro a e p b q r d) (kR a (jP 3 (A.val undef)) λb=>jro a e p b q r d))
def jrm (a:A) (b:A) (p:List (List A)) (c:A) (d:A) (q:List (List A)) (r:List (List A)):Option Out:=jx a true λ_=>jR a b λe=>jx a true λf=>brn f (Yl (jw p) e λe=>kR a (yh p e 0 3) λe=>jrn a c e d b p q r) (kR a (jP 3 (A.val undef)) λe=>jrn a c e d b p q r)
def jrq (a:A) (b:A) (c:A) (d:A) (e:A):Option Out:=(js .rem false a b).bind λa=>some (A.top,[c,d,e,a])
def jrr (a:A) (p:List (List A)) (b:A) (c:A) (d:A):Option Out:=jd 3 a λa=>brn (jO ((jw p)+(jw [[jc a 0,jc a 1,jc a 2]])) 48) (some (A.top,[b,c,d,A.agg [A.sl 3 (kM p [[jc a 0,jc a 1,jc a 2]])]])) none
def jrs (p:List (List A)) (a:A) (b:A) (c:A):Option Out:=(JQ (yF p) a b c).bind λa=>jG a 0 λb=>jG a 1 λc=>jG a 2 λd=>jG a 3 λa=>Yl (jw p) a λa=>kRN p a 0 3 λa=>jd 3 a λa=>jhv (jc a 0) λe=>(G 102 [A.agg [jc a 1,jc a 2]]).bind λa=>K7 a λa=>(kT (kz (K.at 86) 42) [vb false,sv [],A.sl 2 []] [(0,e),(1,a)]).bind λa=>jd 3 a λa=>brn (jO ((jw p)+(jw [[jc a 0,jc a 1,jc a 2]])) 48) (some (A.top,[b,c,d,A.sl 3 (kM p [[jc a 0,jc a 1,jc a 2]])])) none
theorem cev:type_of% (And.intro @jd.eq_1 (And.intro @Kl.eq_1 (And.intro @j9.eq_1 (And.intro @jx.eq_1 (And.intro @ku.eq_1 (And.intro @kLN.eq_1 (And.intro @jR.eq_1 (And.intro @zw.eq_1 (And.intro @kR.eq_1 (And.intro @yQ.eq_1 (And.intro @zm.eq_1 (And.intro @jdT.eq_1 (And.intro @kF.eq_1 (And.intro @K7.eq_1 (And.intro @kfn.eq_1 (And.intro @jhv.eq_1 (And.intro @jG.eq_1 (And.intro @JP.eq_1 (And.intro @Yl.eq_1 (And.intro @kB.eq_1 (And.intro @kRN.eq_1 (And.intro @kRG.eq_1 (And.intro @kIS.eq_1 (And.intro @kSl.eq_1 (And.intro @kRP.eq_1 (And.intro @kMk.eq_1 (And.intro @kRs.eq_1 (And.intro @kLS.eq_1 (And.intro @jr.eq_1 (And.intro @ze.eq_1 (And.intro @Qo.eq_1 (And.intro @jlr.eq_1 (And.intro @jcz.eq_1 (And.intro @KI.eq_1 (And.intro @Z6.eq_1 (And.intro @jcA.eq_1 (And.intro @jhw.eq_1 (And.intro @joQ.eq_1 (And.intro @J4.eq_1 (And.intro @KJ.eq_1 (And.intro @qI.eq_1 (And.intro @kbN.eq_1 (And.intro @YF.eq_1 (And.intro @kF2.eq_1 (And.intro @kFN.eq_1 (And.intro @KH.eq_1 (And.intro @kIP.eq_1 (And.intro @jcy.eq_1 (And.intro @jfH.eq_1 (And.intro @jL.eq_1 (And.intro @jcC.eq_1 (And.intro @yM.eq_1 (And.intro @jcB.eq_1 (And.intro @kL.eq_1 (And.intro @yZ.eq_1 (And.intro @jm.eq_1 (And.intro @zc.eq_1 (And.intro @zR.eq_1 (And.intro @jjJ.eq_1 (And.intro @e_0.eq_1 (And.intro @e_1.eq_1 (And.intro @e_2.eq_1 (And.intro @e_3.eq_1 (And.intro @e_4.eq_1 (And.intro @e_5.eq_1 (And.intro @e_6.eq_1 (And.intro @e_7.eq_1 (And.intro @e_8.eq_1 (And.intro @e_9.eq_1 (And.intro @jrd.eq_1 (And.intro @jre.eq_1 (And.intro @jrf.eq_1 (And.intro @jjy.eq_1 (And.intro @jrg.eq_1 (And.intro @jri.eq_1 (And.intro @jrj.eq_1 (And.intro @jrh.eq_1 (And.intro @jrl.eq_1 (And.intro @jrk.eq_1 (And.intro @jrp.eq_1 (And.intro @jro.eq_1 (And.intro @jrn.eq_1 (And.intro @jrm.eq_1 (And.intro @jrq.eq_1 (And.intro @jrr.eq_1 (@jrs.eq_1)))))))))))))))))))))))))))))))))))))))))))))))))))))))))))))))))))))))))))))))))))))):=And.intro @jd.eq_1 (And.intro @Kl.eq_1 (And.intro @j9.eq_1 (And.intro @jx.eq_1 (And.intro @ku.eq_1 (And.intro @kLN.eq_1 (And.intro @jR.eq_1 (And.intro @zw.eq_1 (And.intro @kR.eq_1 (And.intro @yQ.eq_1 (And.intro @zm.eq_1 (And.intro @jdT.eq_1 (And.intro @kF.eq_1 (And.intro @K7.eq_1 (And.intro @kfn.eq_1 (And.intro @jhv.eq_1 (And.intro @jG.eq_1 (And.intro @JP.eq_1 (And.intro @Yl.eq_1 (And.intro @kB.eq_1 (And.intro @kRN.eq_1 (And.intro @kRG.eq_1 (And.intro @kIS.eq_1 (And.intro @kSl.eq_1 (And.intro @kRP.eq_1 (And.intro @kMk.eq_1 (And.intro @kRs.eq_1 (And.intro @kLS.eq_1 (And.intro @jr.eq_1 (And.intro @ze.eq_1 (And.intro @Qo.eq_1 (And.intro @jlr.eq_1 (And.intro @jcz.eq_1 (And.intro @KI.eq_1 (And.intro @Z6.eq_1 (And.intro @jcA.eq_1 (And.intro @jhw.eq_1 (And.intro @joQ.eq_1 (And.intro @J4.eq_1 (And.intro @KJ.eq_1 (And.intro @qI.eq_1 (And.intro @kbN.eq_1 (And.intro @YF.eq_1 (And.intro @kF2.eq_1 (And.intro @kFN.eq_1 (And.intro @KH.eq_1 (And.intro @kIP.eq_1 (And.intro @jcy.eq_1 (And.intro @jfH.eq_1 (And.intro @jL.eq_1 (And.intro @jcC.eq_1 (And.intro @yM.eq_1 (And.intro @jcB.eq_1 (And.intro @kL.eq_1 (And.intro @yZ.eq_1 (And.intro @jm.eq_1 (And.intro @zc.eq_1 (And.intro @zR.eq_1 (And.intro @jjJ.eq_1 (And.intro @e_0.eq_1 (And.intro @e_1.eq_1 (And.intro @e_2.eq_1 (And.intro @e_3.eq_1 (And.intro @e_4.eq_1 (And.intro @e_5.eq_1 (And.intro @e_6.eq_1 (And.intro @e_7.eq_1 (And.intro @e_8.eq_1 (And.intro @e_9.eq_1 (And.intro @jrd.eq_1 (And.intro @jre.eq_1 (And.intro @jrf.eq_1 (And.intro @jjy.eq_1 (And.intro @jrg.eq_1 (And.intro @jri.eq_1 (And.intro @jrj.eq_1 (And.intro @jrh.eq_1 (And.intro @jrl.eq_1 (And.intro @jrk.eq_1 (And.intro @jrp.eq_1 (And.intro @jro.eq_1 (And.intro @jrn.eq_1 (And.intro @jrm.eq_1 (And.intro @jrq.eq_1 (And.intro @jrr.eq_1 (@jrs.eq_1)))))))))))))))))))))))))))))))))))))))))))))))))))))))))))))))))))))))))))))))))))))
theorem jhy (r0 r1:List (List A)):YT r0 r1=allR r1 (some ((A.top,[A.sl 128 r0]))) (λt1 t2=>brn (jjH t1) ((Kr (A.tup [jc t1 0,jc t1 1]) 0).bind λt3=>(Kr (A.tup [jc t1 0,jc t1 1]) 1).bind λt4=>(Kq 2 t4).bind λt5=>(jbm none r0 t3 (A.agg [jc t5 0,jc t5 1])).bind λt6=>YT (jjq t6) t2) (none)):=(jsu Tryz.func129 rfl).trans (by kernel_rfl)
theorem jtL (r0:List (List A)):je3 r0=extRun K (MM K) (Go.Proofs.YtdbgbieenhcldaaGreatDoor.Abs.sfE 3) [V.row 0,V.fn 133 []] [.row 3 r0]:=ju6 rfl
theorem js2 (r0 r1 r2:List (List A)):jd2 r0 r1 r2=allR r2 ((je3 r1).bind λt1=>(hR 3 t1 0).bind λt2=>((G 135 [A.agg [A.sl 3 t2]]).bind (fin true)).bind λt3=>(KR .not t3).bind λt4=>(zx t4).bind λt5=>brn t5 (some ((A.tup [A.agg [A.sl 3 []],vb false],[]))) (some ((A.tup [A.agg [A.sl 3 t2],vb true],[])))) (λt6 t7=>brn (jjH t6) ((Kr (A.tup [jc t6 0,jc t6 1]) 0).bind λt8=>(Kr (A.tup [jc t6 0,jc t6 1]) 1).bind λt9=>(Kq 2 t9).bind λt10=>(js .neq false (jc t10 0) t8).bind λt11=>(zx t11).bind λt12=>brn t12 (((G 131 [A.agg [jc t10 0,jc t10 1]]).bind (fin false)).bind λt13=>(kT (kz (K.at 82) 118) [sv [],sv [],A.sl 2 []] [(0,t8),(1,t13)]).bind λt14=>(Kq 3 t14).bind λt15=>brn (jO ((jw r1)+(jw [[jc t15 0,jc t15 1,jc t15 2]])) 56) (jd2 r0 (kM r1 [[jc t15 0,jc t15 1,jc t15 2]]) t7) (none)) (jd2 r0 r1 t7)) (none)):=(jsu Tryz.func82 rfl).trans (by kernel_rfl)
theorem jtN (r0:List (List A)):ji9 r0=extRun K (MM K) (Go.Proofs.YtdbgbieenhcldaaGreatDoor.Abs.sfE 3) [V.row 0,V.fn 71 []] [.row 3 r0]:=ju6 rfl
theorem g10:G 10 [a,b]=jd 1 a λa=>jd 1 b λb=>kFN 28 [zc a] λc=>jx c false λ_=>jdT c 28 [zc b] λd=>yQ c (KR .not d) λd=>qI c (vb true) d (jm (A.tup [A.agg [A.sl 3 []],vb false])) (kF2 33 [zc a,zc b] λa b=>jd 1 a λa=>jm (A.tup [zc a,b])):=gq Tryz.func10
theorem g11:G 11 [a,b]=jd 1 a λa=>jd 1 b λb=>ku (jc a 0) λc=>ku (jc b 0) λd=>yZ c d (jm (vb false)) (jkH (vi 0) (jc a 0) (jc b 0)):=gq Tryz.func11
theorem jsD:jkH a b c=YF a b (jfH 3 b a 0 λd=>jfH 3 c a 0 λe=>(js .neq true d e).bind λd=>jx d false λ_=>zw d b λe=>zw d a λf=>yQ d (ju 3 e f) λe=>yQ d (qL e 1) λe=>yQ d (jP 2 e) λe=>jx d false λ_=>zw d c λf=>zw d a λg=>yQ d (ju 3 f g) λf=>yQ d (qL f 1) λf=>yQ d (jP 2 f) λf=>jdT d 34 [e,f] λe=>yQ d (KR .not e) λe=>qI d (vb true) e (jm (vb false)) (jr a (vi 1) λa=>jkH a b c)) (jm (vb true)):=hq Tryz.func11
theorem g12:G 12 [a]=jd 1 a λa=>kF 35 [zc a] λb=>kbN b (jm (A.tup [A.agg [A.sl 3 []],vb false])) (kF 36 [zc a] λa=>jd 1 a λa=>jm (A.tup [zc a,vb true])):=gq Tryz.func12
theorem jtI:ji7 a=(jfV a).bind λa=>YT (jjq []) a:=vq Tryz.func129
theorem jtJ:jbR a b c p=jd 2 a λa=>brn (jX b) (brn (jX c) (ku (jc a 1) λd=>ze d (vi 0) λd=>jx d true λ_=>zm d 141 [zR a] λe=>qI d e (vb false) ((Jy none true false [sv [],A.sl 2 []] (A.mp p) (jc a 0)).bind λd=>Kl d 0 λe=>Kl d 1 λd=>jd 2 e λe=>(jbm none p (jc a 0) (A.agg [b,c])).bind λa=>jhv d λd=>jx d false λ_=>jx d false λ_=>jdT d 140 [zR e,A.agg [b,c]] λb=>j9 d (vb true) b λb=>some (A.top,[b,A.sl 128 a])) (jcA (jc a 0) b λd=>jx d false λ_=>zw d (jc a 1) λe=>yQ d (qB e) λe=>jx d false λ_=>zw d c λf=>yQ d (qB f) λf=>yQ d (js .neq false e f) λe=>qI d (vb true) e (some (A.top,[vb false,A.sl 128 p])) (ku (jc a 1) λd=>KS (jc a 1) d (vi 0) b c p))) none) none:=vq Tryz.func130
theorem jhz:KS a b c d e p=jL c b (KH 2 2 a c λf=>jd 2 f λf=>KH 2 2 e c λg=>(qW (jc f 0) (jc f 1) g p).bind λf=>jG f 0 λg=>JP 128 f 1 λf=>kbN g (some (A.top,[vb false,A.sl 128 f])) (jr c (vi 1) λc=>KS a b c d e f)) (some (A.top,[vb true,A.sl 128 p])):=hq Tryz.func130
theorem jtK:qW a b c p=brn (jX a) (brn (jX b) (jd 2 c λc=>ku b λd=>ze d (vi 0) λd=>jx d true λ_=>zm d 141 [A.agg [a,b]] λe=>qI d e (vb false) ((Jy none true false [sv [],A.sl 2 []] (A.mp p) a).bind λb=>Kl b 0 λd=>Kl b 1 λb=>jd 2 d λd=>(jbm none p a (zR c)).bind λa=>jhv b λb=>jx b false λ_=>jx b false λ_=>jdT b 140 [zR d,zR c] λc=>j9 b (vb true) c λb=>some (A.top,[b,A.sl 128 a])) (jcA a (jc c 0) λa=>jx a false λ_=>zw a b λd=>yQ a (qB d) λd=>jx a false λ_=>zw a (jc c 1) λe=>yQ a (qB e) λe=>yQ a (js .neq false d e) λd=>qI a (vb true) d (some (A.top,[vb false,A.sl 128 p])) (ku b λa=>KT b a (vi 0) (jc c 0) (jc c 1) p))) none) none:=vq Tryz.func130
theorem jhA:KT a b c d e p=jL c b (KH 2 2 a c λf=>jd 2 f λf=>KH 2 2 e c λg=>(qW (jc f 0) (jc f 1) g p).bind λf=>jG f 0 λg=>JP 128 f 1 λf=>kbN g (some (A.top,[vb false,A.sl 128 f])) (jr c (vi 1) λc=>KT a b c d e f)) (some (A.top,[vb true,A.sl 128 p])):=hq Tryz.func130
theorem jxr:G 133 [a,b]=jd 3 a λa=>jd 3 b λb=>kF 134 [jc a 0,jc b 0] λa=>jm a:=gq Tryz.func133
theorem g27:G 27 [a]=brn (jX a) (brn (jX a) ((jnY a (vi 0) (A.val (.int .u64 0))).bind λa=>jG a 0 λ_=>jG a 1 λ_=>jG a 2 λ_=>jG a 3 λa=>jd 1 a λa=>jm (zc a)) none) none:=gq Tryz.func27
theorem g3:G 3 [a]=kF 6 [a] λb=>KJ b (jm (vb true)) (kF 7 [a] λb=>jd 1 b λb=>kF2 8 [zc b] λc d=>jd 1 c λc=>kF2 9 [zc b] λe f=>jd 1 e λ_=>(js .neq true d f).bind λe=>KJ e (jm (vb false)) (kbN d (ku (jc c 0) λa=>ze a (vi 0) λa=>jm a) (kF2 8 [zc c] λd e=>jd 1 d λd=>kF2 10 [zc b,zc c] λf g=>jd 1 f λ_=>kF2 10 [zc c,zc b] λf h=>jd 1 f λ_=>jhv e λe=>zw e g λf=>yQ e (KR .not f) λf=>j9 e (vb true) f λe=>zw e h λf=>yQ e (KR .not f) λf=>j9 e (vb true) f λe=>jx e false λ_=>jx e false λ_=>jdT e 11 [zc c,zc d] λd=>yQ e (KR .not d) λd=>qI e (vb true) d (jm (vb false)) (kF2 12 [zc c] λc d=>jd 1 c λc=>kbN d (jm (vb true)) (jn1 a (vi 0) (jc b 0) (jc c 0)))))):=gq Tryz.func3
theorem jvL:jn1 a b c d=YF b d (jcy 2 3 d b 1 λe=>(jbS e []).bind λe=>JP 1 e 0 λe=>jn2 a b (vi 0) c d e) (brn (jX c) (kfn true (G 14 [a,A.sl 1 [[c]],A.agg [d]]) λb=>jR b a λa=>jx b true λ_=>jx b true λe=>brn e (brn (jX d) (jx b true λ_=>kR b ((G 14 [a,A.sl 1 [[d]],A.agg [c]]).bind (fin true)) λa=>j9 b a (vb false) λa=>jm a) none) (jx b true λ_=>zm b 14 [a,A.val undef,A.agg [c]] λa=>j9 b a (vb false) λa=>jm a)) none):=hq Tryz.func3
theorem jvM:jn2 a b c d e p=jL c (yF p) (Yl (jw p) c λf=>kRP p f 0 λf=>kIS f (vi 0) λf=>yZ f (vy 89) (jm (vb false)) (jr c (vi 1) λc=>jn2 a b c d e p)) (jr b (vi 1) λb=>jn1 a b d e):=hq Tryz.func3
theorem g33:G 33 [a,b]=jd 1 a λa=>jd 1 b λb=>(G 81 [A.mp [],jc a 0,zc b]).bind λa=>K7 a λa=>Kl a 0 λb=>Kl a 1 λa=>kbN a (jm (A.tup [A.agg [A.sl 3 []],vb false])) (kF2 82 [b] λa b=>jd 1 a λa=>jm (A.tup [zc a,b])):=gq Tryz.func33
theorem g34:G 34 [a,b]=jd 2 a λa=>jd 2 b λb=>jcA (jc a 0) (jc b 0) λc=>jx c false λ_=>zw c (jc a 1) λd=>yQ c (qB d) λd=>jx c false λ_=>zw c (jc b 1) λe=>yQ c (qB e) λe=>yQ c (js .neq false d e) λd=>qI c (vb true) d (jm (vb false)) (jkN (vi 0) (jc a 0) (jc a 1) (jc b 0) (jc b 1)):=gq Tryz.func34
theorem jsK:jkN a b c d e=YF a c (KH 2 2 c a λf=>KH 2 2 e a λg=>kF 34 [f,g] λf=>kbN f (jm (vb false)) (jr a (vi 1) λa=>jkN a b c d e)) (jm (vb true)):=hq Tryz.func34
theorem g7:G 7 [a]=kF 27 [a] λa=>jd 1 a λa=>jm (zc a):=gq Tryz.func7
theorem g8:G 8 [a]=jd 1 a λa=>kF 28 [zc a] λb=>kbN b (jm (A.tup [A.agg [A.sl 3 []],vb false])) (kF 30 [zc a] λa=>(G 29 [a]).bind λa=>K7 a λa=>Kl a 0 λb=>Kl a 1 λa=>jd 1 b λb=>jm (A.tup [zc b,a])):=gq Tryz.func8
theorem g81:G 81 [a,b,c]=jd 1 c λc=>ku b λd=>kL d (vi 0) (jm (A.tup [a,vb true])) (ku (jc c 0) λd=>jgI a b (jc c 0) d (vi 0) (jc c 0)):=gq Tryz.func81
theorem js1:jgI a b c d e f=jL e d (KH 3 3 c e λg=>jd 3 g λg=>(ji7 a).bind λh=>JP 128 h 0 λh=>jfH 3 b (vi 0) 0 λi=>(js .neq true (jc g 0) i).bind λi=>jx i false λ_=>zw i b λj=>yQ i (ju 3 j (vi 0)) λj=>yQ i (qL j 1) λj=>yQ i (jP 2 j) λj=>jx i false λ_=>jx i false λ_=>jx i false λk=>brn k ((jbR j (jc g 1) (jc g 2) h).bind λg=>jG g 0 λh=>JP 128 g 1 λg=>yQ i (KR .not h) λh=>e_0 i h e a b c d f g) (yQ i (KR .not (A.val undef)) λg=>e_0 i g e a b c d f h)) (jm (A.tup [A.val (.map none),vb false])):=hq Tryz.func81
theorem g82:G 82 [a]=(jfV a).bind λa=>jd2 [] [] a:=gq Tryz.func82
theorem g9:G 9 [a]=jd 1 a λa=>kF 31 [zc a] λb=>kbN b (jm (A.tup [A.agg [A.sl 3 []],vb false])) ((G 32 [zc a]).bind λa=>K7 a λa=>Kl a 0 λb=>Kl a 1 λa=>jd 1 b λb=>e_1 a b):=gq Tryz.func9
theorem jxa:G 100 [a]=kLS a λb=>kFN 95 [b,vi 1,vi 4] λb=>zw b a λc=>yQ b (j6 c (vi 0)) λc=>yQ b (js .lss false c (vy 65)) λc=>j9 b (vb true) c λb=>zw b a λc=>yQ b (j6 c (vi 0)) λc=>yQ b (js .gtr false c (vy 90)) λc=>qI b (vb true) c (jm (vb false)) (QS a (vi 1)):=gq Tryz.func100
theorem joR:QS a b=kLS a λc=>jL b c (kIS a b λc=>kF 154 [c] λc=>kbN c (jm (vb false)) (jr b (vi 1) λb=>QS a b)) (jm (vb true)):=hq Tryz.func100
theorem jxb:G 101 [a,b]=jd 1 a λa=>jbU b (vi 0) (jc a 0):=gq Tryz.func101
theorem joS:jbU a b c=YF b c (jfH 3 c b 0 λd=>kL d a (jm b) (jr b (vi 1) λb=>jbU a b c)) (jm (vi (- 1))):=hq Tryz.func101
theorem jxc:G 102 [a]=jd 2 a λa=>brn (jX (jc a 0)) (brn (jX (jc a 0)) (je6 (vi 0) (jc a 0) (jc a 1) (sv []) (jc a 0) [] []) none) none:=gq Tryz.func102
theorem joT:je6 a b c d e p q=YF a c (KH 2 2 c a λf=>(G 102 [f]).bind λf=>K7 f λf=>jd 2 f λf=>brn (jO ((jw q)+(jw [[jc f 0,jc f 1]])) 40) (jr a (vi 1) λa=>je6 a b c d e p (kM q [[jc f 0,jc f 1]])) none) (brn (jX e) (jm (A.agg [e,A.sl 2 q])) none):=hq Tryz.func102
theorem joe:JD a b c=(JQ (vi 3) a b c).bind λa=>jG a 0 λb=>jG a 1 λc=>jG a 2 λd=>jG a 3 λa=>jr (vi 1) a λa=>(z8 a b c d).bind λa=>jG a 0 λb=>jG a 1 λc=>jG a 2 λd=>jG a 3 λe=>JP 2 a 4 λa=>e_2 e b c d a:=vq Tryz.func104
theorem Ja:z8 a b c d=jcz a (vi 1) λe=>jx e false λ_=>jx e false λf=>brn f ((YI (vi 3) b c d).bind λb=>jG b 0 λc=>jG b 1 λd=>jG b 2 λf=>jG b 3 λb=>qI e (vb true) b (e_3 c d f) (e_4 c d f a)) (qI e (vb true) (A.val undef) (e_3 b c d) (e_4 b c d a)):=vq Tryz.func105
theorem jxd:G 107 [a]=jd 3 a λa=>kF 131 [A.agg [jc a 1,jc a 2]] λb=>(kT (kz (K.at 107) 42) [vb false,sv [],A.sl 2 []] [(0,jc a 0),(1,b)]).bind λa=>jd 3 a λa=>jm (jjJ a):=gq Tryz.func107
theorem jtC:jeZ a b c=YF b a (kIP 1 a b λd=>(KL .i64 d).bind λd=>jr b (vi 1) λb=>brn (jX b) (Z6 c (A.val (.int .u64 6364136223846793005)) λc=>(KL .u64 d).bind λe=>jr c e λc=>jr c (A.val (.int .u64 892892)) λc=>brn (jX c) (ku a λe=>jcC b e (some (A.top,[a,b,c,d])) (e_5 c a b)) none) none) (jr b (vi 1) λb=>brn (jX b) (Z6 c (A.val (.int .u64 6364136223846793005)) λc=>(KL .u64 (vi 0)).bind λd=>jr c d λc=>jr c (A.val (.int .u64 892892)) λc=>brn (jX c) (ku a λd=>jcC b d (some (A.top,[a,b,c,vi 0])) (e_5 c a b)) none) none):=vq Tryz.func108
theorem jtD:ji6 a b c=(jkG (vi 4) a b c).bind λa=>jG a 0 λb=>jG a 1 λc=>jG a 2 λd=>JP 3 a 3 λa=>(jnX a).bind λa=>JP 3 a 0 λa=>some (A.top,[b,c,d,A.sl 3 a]):=vq Tryz.func109
theorem jtE:je0 a b c=(jkF a b c).bind λa=>jG a 0 λb=>jG a 1 λc=>jG a 2 λd=>jG a 3 λe=>jG a 4 λf=>JP 2 a 5 λa=>brn (jX e) (brn (jX f) ((JQ (vi 16) b c d).bind λb=>jG b 0 λc=>jG b 1 λd=>jG b 2 λg=>jG b 3 λb=>kL b (vi 0) ((ji8 c d g).bind λa=>jG a 0 λb=>jG a 1 λc=>jG a 2 λd=>jG a 3 λa=>jd 2 a λa=>brn (jX e) (brn (jX (jc a 0)) (brn (jX (jc a 1)) (some (A.top,[b,c,d,A.agg [e,jc a 0,jc a 1]])) none) none) none) (kL b (vi 1) ((JD c d g).bind λb=>jG b 0 λc=>jG b 1 λd=>jG b 2 λg=>jG b 3 λh=>JP 2 b 4 λb=>brn (jX h) (brn (jO ((jw a)+(jw [[h,A.sl 2 b]])) 40) (brn (jX e) (brn (jX f) (some (A.top,[c,d,g,A.agg [e,f,A.sl 2 (kM a [[h,A.sl 2 b]])]])) none) none) none) none) (brn (jX e) (brn (jX f) (some (A.top,[c,d,g,A.agg [e,f,A.sl 2 a]])) none) none))) none) none:=vq Tryz.func110
theorem jxe:G 111 [a]=jL a (vi 0) ((KR .neg a).bind λa=>kF 111 [a] λa=>jr (sv [45]) a λa=>jm a) (jL a (vi 10) (jr a (vi 1) λb=>(qN (sv [48,49,50,51,52,53,54,55,56,57]) (some a) (some b)).bind λa=>jm a) (jhw a (vi 10) λb=>kF 111 [b] λb=>(js .rem false a (vi 10)).bind λc=>(js .rem false a (vi 10)).bind λa=>jr a (vi 1) λa=>(qN (sv [48,49,50,51,52,53,54,55,56,57]) (some c) (some a)).bind λa=>jr b a λa=>jm a)):=gq Tryz.func111
theorem jtF:ym a b c p=(JQ (yF p) a b c).bind λa=>jG a 0 λb=>jG a 1 λc=>jG a 2 λd=>jG a 3 λa=>Yl (jw p) a λa=>kRP p a 0 λa=>some (A.top,[b,c,d,a]):=vq Tryz.func112
theorem jvE:G 114 [a]=jd 2 a λa=>kF 156 [zR a] λb=>KJ b (ku (jc a 1) λb=>ze b (vi 2) λb=>jx b true λ_=>zm b 157 [zR a] λc=>j9 b c (vb false) λb=>jx b true λ_=>jR b (jc a 1) λc=>kR b (ju 2 c (vi 0)) λc=>kR b (jP 2 c) λc=>zm b 158 [c] λc=>j9 b c (vb false) λb=>jx b true λ_=>jR b (jc a 1) λa=>kR b (ju 2 a (vi 1)) λa=>kR b (jP 2 a) λa=>zm b 158 [a] λa=>j9 b a (vb false) λa=>jm a) (kF 159 [jc a 0] λb=>jx b true λ_=>zm b 160 [zR a] λa=>j9 b a (vb false) λa=>jm a):=gq Tryz.func114
theorem jxf:G 115 [a]=ku a λb=>jbV (vi 0) a b (vi 0):=gq Tryz.func115
theorem jjM:jbV a b c d=jL d c (kIP 1 b d λe=>yZ e a (jm e) (jr d (vi 1) λd=>jbV a b c d)) (jm a):=hq Tryz.func115
theorem jxg:G 116 [a,b]=jd 2 a λa=>jd 2 b λb=>kF 141 [zR a] λc=>kF 141 [zR b] λd=>jR c d λe=>kR c (KR .not e) λe=>qI c e (vb false) (jm (vi (- 1))) (jR d c λc=>kR d (KR .not c) λc=>qI d c (vb false) (jm (vi 1)) (kF 134 [jc a 0,jc b 0] λc=>ku (jc a 1) λd=>ku (jc b 1) λe=>kF 117 [d,e] λd=>brn (jX c) (brn (jX d) (kfn true (G 115 [A.sl 1 [[c],[d]]]) λc=>yZ c (vi 0) (jm c) (kF 161 [jc a 1,jc b 1,A.fn 116 []] λa=>jm a)) none) none)):=gq Tryz.func116
theorem jxh:G 117 [a,b]=kF 162 [a] λc=>kF 162 [b] λd=>e_6 c d a b:=gq Tryz.func117
theorem jxi:G 119 [a,b]=jd 2 a λa=>brn (jX (jc a 0)) (brn (jX (jc a 0)) ((Jy none true true [sv []] b (jc a 0)).bind λc=>Kl c 0 λd=>Kl c 1 λc=>jx c true λ_=>jR c (jc a 1) λe=>kR c (qB e) λe=>kR c (js .eql false e (vi 0)) λe=>qI c e (vb false) (brn (jX d) (ku (jc a 1) λc=>QT b (jc a 1) c (vi 0) (sv []) d [] []) none) (ku (jc a 1) λc=>QT b (jc a 1) c (vi 0) (sv []) (jc a 0) [] [])) none) none:=gq Tryz.func119
theorem jjN:QT a b c d e f p q=jL d c (KH 2 2 b d λg=>jd 2 g λg=>kF 119 [zR g,a] λg=>jd 2 g λg=>brn (jO ((jw q)+(jw [[jc g 0,jc g 1]])) 40) (jr d (vi 1) λd=>QT a b c d e f p (kM q [[jc g 0,jc g 1]])) none) (brn (jX f) (jm (A.agg [f,A.sl 2 q])) none):=hq Tryz.func119
theorem jxj:G 120 [a]=ku a λb=>je7 a b (vi 0) [] []:=gq Tryz.func120
theorem joU:je7 a b c p q=jL c b (KH 3 3 a c λd=>jd 3 d λd=>kF 107 [jjJ d] λd=>jd 3 d λd=>brn (jO ((jw q)+(jw [[jc d 0,jc d 1,jc d 2]])) 48) (jr c (vi 1) λc=>je7 a b c p (kM q [[jc d 0,jc d 1,jc d 2]])) none) ((ji9 q).bind λa=>JP 3 a 0 λa=>(jja a).bind λa=>JP 3 a 0 λa=>jm (A.agg [A.sl 3 a])):=hq Tryz.func120
theorem jtG:je1 a b p=brn (jX a) (brn (jX b) (ku b λc=>ze c (vi 0) λc=>jx c true λ_=>zm c 141 [A.agg [a,b]] λd=>qI c d (vb false) (kfn true (G 166 [A.sl 1 p,a]) λb=>kbN b (e_7 a p) (some (A.top,[A.sl 1 p]))) (ku b λa=>YP b a (vi 0) p)) none) none:=vq Tryz.func121
theorem joV:YP a b c p=e_8 c b a p:=hq Tryz.func121
theorem jcD:YQ a b c p=e_8 c b a p:=hq Tryz.func121
theorem jxk:G 122 [a]=jd 2 a λa=>kF 167 [zR a,vi 30] λb=>jcz b (vi 30) λb=>jx b true λ_=>zm b 168 [zR a] λa=>kR b (js .leq false a (vi 8)) λa=>j9 b a (vb false) λa=>jm a:=gq Tryz.func122
theorem jxl:G 123 [a]=jd 2 a λa=>kF 100 [jc a 0] λb=>KJ b (ku (jc a 1) λa=>ze a (vi 0) λa=>jm a) (kFN 124 [jc a 0] λb=>jx b false λ_=>zw b (jc a 1) λc=>yQ b (qB c) λc=>yQ b (js .gtr false c (vi 4)) λc=>qI b (vb true) c (jm (vb false)) (je8 (vi 0) (jc a 0) (jc a 1))):=gq Tryz.func123
theorem joW:je8 a b c=YF a c (KH 2 2 c a λd=>kF 123 [d] λd=>kbN d (jm (vb false)) (jr a (vi 1) λa=>je8 a b c)) (jm (vb true)):=hq Tryz.func123
theorem jxm:G 124 [a]=kLS a λb=>kFN 95 [b,vi 1,vi 6] λb=>zw b a λc=>yQ b (j6 c (vi 0)) λc=>yQ b (js .lss false c (vy 97)) λc=>j9 b (vb true) c λb=>zw b a λc=>yQ b (j6 c (vi 0)) λc=>yQ b (js .gtr false c (vy 122)) λc=>qI b (vb true) c (jm (vb false)) (ze a (sv [116,114,117,101]) λb=>KJ b (KJ b (jm (vb false)) (yS a (vi 1))) (ze a (sv [102,97,108,115,101]) λb=>KJ b (KJ b (jm (vb false)) (yS a (vi 1))) (ze a (sv [116,114,117,116,104]) λb=>KJ b (KJ b (jm (vb false)) (yS a (vi 1))) (ze a (sv [98,111,116,104]) λb=>KJ b (KJ b (jm (vb false)) (yS a (vi 1))) (ze a (sv [101,105,116,104,101,114]) λb=>KJ b (KJ b (jm (vb false)) (yS a (vi 1))) (ze a (sv [105,102]) λb=>KJ b (KJ b (jm (vb false)) (yS a (vi 1))) (ze a (sv [97,108,108]) λb=>KJ b (KJ b (jm (vb false)) (yS a (vi 1))) (kL a (sv [115,111,109,101]) (jm (vb false)) (yS a (vi 1)))))))))):=gq Tryz.func124
theorem joX:yS a b=kLS a λc=>jL b c (kIS a b λc=>kFN 154 [c] λc=>jR c a λd=>jR c b λe=>kR c (j6 d e) λd=>kR c (js .neq false d (vy 95)) λd=>qI c d (vb false) (jm (vb false)) (jr b (vi 1) λb=>yS a b)) (jm (vb true)):=hq Tryz.func124
theorem jxn:G 125 [a]=jd 2 a λa=>kF 122 [zR a] λb=>jx b true λ_=>zm b 123 [zR a] λa=>j9 b a (vb false) λa=>jm a:=gq Tryz.func125
theorem jxo:G 126 [a,b]=jd 2 a λa=>jd 2 b λb=>kF 100 [jc a 0] λc=>kF 100 [jc b 0] λd=>jR c d λe=>kR c (KR .not e) λe=>qI c e (vb false) (jm (vi (- 1))) (jhv c λc=>jR c d λd=>qI c d (vb false) (jm (vi 1)) (yZ (jc a 0) (jc b 0) (kF 169 [jc a 0,jc b 0] λa=>jm a) (ku (jc a 1) λc=>YF c (jc b 1) (jm (vi (- 1))) (ku (jc a 1) λc=>ku (jc b 1) λd=>yM c d (jm (vi 1)) (jbW (vi 0) (jc a 0) (jc a 1) (jc b 0) (jc b 1)))))):=gq Tryz.func126
theorem joY:jbW a b c d e=YF a c (KH 2 2 c a λf=>KH 2 2 e a λg=>kF 126 [f,g] λf=>yZ f (vi 0) (jm f) (jr a (vi 1) λa=>jbW a b c d e)) (jm (vi 0)):=hq Tryz.func126
theorem jxp:G 127 [a,b,c]=jd 2 a λa=>kF 100 [jc a 0] λd=>KJ d (je9 b c (vi 0) (jc a 0) (jc a 1) (sv []) []) (brn (jX (jc a 0)) (brn (jX (jc a 0)) (jfa b c (vi 0) (jc a 0) (jc a 1) (sv []) (jc a 0) [] []) none) none):=gq Tryz.func127
theorem joZ:je9 a b c d e f p=YF c a (kIP 1 a c λg=>kL g d (kF 111 [c] λa=>jr b a λa=>e_9 a) (jr c (vi 1) λc=>je9 a b c d e f p)) (e_9 d):=hq Tryz.func127
theorem jo0:jfa a b c d e f g p q=YF c e (KH 2 2 e c λh=>kF 127 [h,a,b] λh=>jd 2 h λh=>brn (jO ((jw q)+(jw [[jc h 0,jc h 1]])) 40) (jr c (vi 1) λc=>jfa a b c d e f g p (kM q [[jc h 0,jc h 1]])) none) (brn (jX g) (jm (A.agg [g,A.sl 2 q])) none):=hq Tryz.func127
theorem jtH:je2 a p=jd 2 a λa=>kF 100 [jc a 0] λb=>KJ b (kfn true (G 170 [A.sl 1 p,jc a 0]) λb=>KJ b (some (A.top,[A.sl 1 p])) (brn (jX (jc a 0)) (brn (jO ((jw p)+(jw [[jc a 0]])) 16) (some (A.top,[A.sl 1 (kM p [[jc a 0]])])) none) none)) (YR (vi 0) (jc a 0) (jc a 1) p):=vq Tryz.func128
theorem jo1:YR a b c p=jrd a c p b:=hq Tryz.func128
theorem jcE:YS a b c p=jrd a c p b:=hq Tryz.func128
theorem jxq:G 131 [a]=jd 2 a λa=>(jjb (jc a 1)).bind λb=>JP 2 b 0 λb=>brn (jX (jc a 0)) (brn (jX (jc a 0)) (jm (A.agg [jc a 0,A.sl 2 b])) none) none:=gq Tryz.func131
theorem jxs:G 134 [a,b]=kF 174 [a] λc=>kF 174 [b] λd=>e_6 c d a b:=gq Tryz.func134
theorem jxt:G 135 [a]=jd 1 a λa=>ku (jc a 0) λb=>jfb (jc a 0) b (vi 0) (jc a 0):=gq Tryz.func135
theorem jo2:jfb a b c d=jL c b (KH 3 3 a c λe=>jd 3 e λe=>kFN 175 [jc e 0] λf=>zw f c λg=>yQ f (js .gtr false g (vi 0)) λg=>zw f g λg=>jx g true λ_=>jR g (jc e 0) λh=>jx g true λ_=>jR g d λi=>jR g c λj=>kR g (js .sub false j (vi 1)) λj=>kR g (ju 3 i j) λi=>kR g (qL i 0) λi=>kR g (zn i) λi=>kR g (js .leq false h i) λh=>yQ f (Jz g h (vb false)) λg=>j9 f (vb true) g λf=>jx f false λ_=>jx f false λ_=>jdT f 160 [A.agg [jc e 1,jc e 2]] λg=>yQ f (KR .not g) λg=>j9 f (vb true) g λf=>jx f false λ_=>jx f false λ_=>zw f (jc e 1) λg=>jx f false λ_=>zw f (jc e 0) λe=>yQ f (js .eql false g e) λe=>qI f (vb true) e (jm (vb false)) (jr c (vi 1) λc=>jfb a b c d)) (ku d λa=>jcz a (vi 12) λa=>jm a):=hq Tryz.func135
theorem jxu:G 136 [a,b,c,d]=jd 2 c λc=>jd 2 d λd=>ku (jc d 1) λe=>ze e (vi 0) λe=>jx e true λ_=>jR e (jc d 0) λf=>kR e (Ze f) λf=>kR e (js .gtr false f (vi 0)) λf=>j9 e f (vb false) λe=>jx e true λ_=>jR e (jc d 0) λf=>kR e (j6 f (vi 0)) λf=>kR e (js .geq false f (vy 65)) λf=>j9 e f (vb false) λe=>jx e true λ_=>jR e (jc d 0) λf=>kR e (j6 f (vi 0)) λf=>kR e (js .leq false f (vy 90)) λf=>qI e f (vb false) (kF 176 [zR c,jc d 0] λa=>jm a) (QU a b (vi 0) (jc c 0) (jc c 1) (jc d 0) (jc d 1) []):=gq Tryz.func136
theorem jo3:QU a b c d e f g p=YF c g (KH 2 2 g c λh=>kF 136 [a,b,A.agg [d,e],h] λh=>brn (jX h) (brn (jO ((jw p)+(jw [[h]])) 8) (jr c (vi 1) λc=>QU a b c d e f g (kM p [[h]])) none) none) (kfn true (G 137 [a,f,A.sl 1 p]) λa=>(js .rem false a b).bind λa=>jm a):=hq Tryz.func136
theorem jxv:G 137 [a,b,c]=jfc a b c (vi 17) (vi 0):=gq Tryz.func137
theorem jo4:jfc a b c d e=kLS b λf=>jL e f (Z6 (vi 31) d λd=>kIS b e λf=>(KL .i64 f).bind λf=>jr d f λd=>(js .rem false d (vi 65521)).bind λd=>jr e (vi 1) λe=>jfc a b c d e) (jfd a c d (vi 0)):=hq Tryz.func137
theorem jo5:jfd a b c d=YF d b (Z6 (vi 37) c λc=>kIP 1 b d λe=>jr c e λc=>jr c (vi 1) λc=>(js .rem false c (vi 65521)).bind λc=>jr d (vi 1) λd=>jfd a b c d) ((js .rem false c (vi 53)).bind λb=>kF 177 [a,b] λb=>Z6 (vi 13) b λb=>jr c b λb=>(js .rem false c (vi 89)).bind λc=>kF 177 [a,c] λa=>jr b a λa=>jhw a (vi 3) λa=>jm a):=hq Tryz.func137
theorem jxw:G 138 [a,b,c]=jre a b c:=gq Tryz.func138
theorem jvk:jbS a p=jd 2 a λa=>ku (jc a 1) λb=>ze b (vi 0) λb=>jx b true λ_=>jR b (jc a 0) λc=>kR b (Ze c) λc=>kR b (js .gtr false c (vi 0)) λc=>j9 b c (vb false) λb=>jx b true λ_=>jR b (jc a 0) λc=>kR b (j6 c (vi 0)) λc=>kR b (js .geq false c (vy 65)) λc=>j9 b c (vb false) λb=>jx b true λ_=>jR b (jc a 0) λc=>kR b (j6 c (vi 0)) λc=>kR b (js .leq false c (vy 90)) λc=>qI b c (vb false) (Zw (vi 0) (jc a 0) (jc a 1) p) (jbs (vi 0) (jc a 0) (jc a 1) p):=vq Tryz.func13
theorem jlt:Zw a b c p=jL a (yF p) (Yl (jw p) a λd=>kRP p d 0 λd=>kL d b (some (A.top,[A.sl 1 p])) (jr a (vi 1) λa=>Zw a b c p)) (e_7 b p):=hq Tryz.func13
theorem jrD:jbs a b c p=jrf a c p b:=hq Tryz.func13
theorem jfK:jbt a b c p=jrf a c p b:=hq Tryz.func13
theorem g14:G 14 [a,b,c]=jd 1 c λc=>YU a b (vi 1) (jc c 0):=gq Tryz.func14
theorem jsE:YU a b c d=jL c (vi 4) (jkI a b c (vb true) (vi 0) d) (jm (vb true)):=hq Tryz.func14
theorem jsF:jkI a b c d e f=ku b λg=>KI e g λg=>jR g d λh=>qI g h (vb false) (KH 1 1 b e λd=>kF 37 [c,d] λd=>jR d a λg=>jR d c λh=>jR d b λi=>jR d e λj=>kR d (ju 1 i j) λi=>kR d (jP 1 i) λi=>zm d 38 [g,h,i] λg=>j9 d g (vb false) λd=>jr e (vi 1) λe=>jkI a b c d e f) (jR d a λe=>jR d c λg=>jx d true λ_=>zm d 38 [e,g,A.agg [f]] λe=>kR d (KR .not e) λe=>qI d e (vb false) (jm (vb false)) (jr c (vi 1) λc=>YU a b c f)):=hq Tryz.func14
theorem jxx:G 140 [a,b]=jd 2 a λa=>jd 2 b λb=>ze (jc a 0) (jc b 0) λc=>jx c true λ_=>jR c (jc a 1) λa=>jx c true λ_=>jR c (jc b 1) λb=>zm c 179 [a,b,A.fn 140 []] λa=>j9 c a (vb false) λa=>jm a:=gq Tryz.func140
theorem jt5:G 141 [a]=jd 2 a λa=>kIS (jc a 0) (vi 0) λa=>kF 180 [a] λa=>jm a:=gq Tryz.func141
theorem jxy:G 149 [a,b]=jd 3 a λa=>jd 3 b λb=>(js .eql true (jc a 0) (jc b 0)).bind λc=>jx c true λ_=>jx c true λ_=>jx c true λ_=>jx c true λ_=>zm c 140 [A.agg [jc a 1,jc a 2],A.agg [jc b 1,jc b 2]] λa=>j9 c a (vb false) λa=>jm a:=gq Tryz.func149
theorem jxz:G 154 [a]=Qo a (vy 97) λb=>jR b a λc=>kR b (js .leq false c (vy 122)) λc=>j9 b c (vb false) λb=>zw b a λc=>yQ b (js .geq false c (vy 48)) λc=>zw b c λc=>jR c a λa=>kR c (js .leq false a (vy 57)) λa=>yQ b (Jz c a (vb false)) λa=>j9 b (vb true) a λa=>jm a:=gq Tryz.func154
theorem jtM:ji8 a b c=(JD a b c).bind λa=>jG a 0 λb=>jG a 1 λc=>jG a 2 λd=>jG a 3 λe=>JP 2 a 4 λa=>brn (jX e) ((JQ (vi 24) b c d).bind λb=>jG b 0 λc=>jG b 1 λd=>jG b 2 λf=>jG b 3 λb=>kL b (vi 0) ((ym c d f [[sv []],[sv [116,114,117,101]],[sv [116,114,117,116,104]],[sv [105,102]],[sv [88,121,122,57]],[sv [88,121,122,57,57]],[sv [120,65]],[sv [97,95,98]],[sv [97,98,99,100,101,102]],[sv [97,98,99,100,101,102,103]],[sv [95,97]],[sv [57]],[sv [88,95]],[sv [61]]]).bind λb=>jG b 0 λc=>jG b 1 λd=>jG b 2 λe=>jG b 3 λb=>brn (jX b) (jjy b c d e a) none) (kL b (vi 1) ((JQ (vi 3) c d f).bind λa=>jG a 0 λb=>jG a 1 λc=>jG a 2 λd=>jG a 3 λa=>jr (vi 7) a λa=>(jjc a b c d).bind λa=>jG a 0 λb=>jG a 1 λc=>jG a 2 λd=>jG a 3 λe=>JP 2 a 4 λa=>jjy e b c d a) (kL b (vi 2) ((je4 c d f).bind λa=>jG a 0 λb=>jG a 1 λc=>jG a 2 λd=>jG a 3 λa=>jd 2 a λa=>some (A.top,[b,c,d,zR a])) (kL b (vi 3) ((JD c d f).bind λb=>jG b 0 λc=>jG b 1 λd=>jG b 2 λf=>jG b 3 λg=>JP 2 b 4 λb=>(JD c d f).bind λc=>jG c 0 λd=>jG c 1 λf=>jG c 2 λh=>jG c 3 λi=>JP 2 c 4 λc=>(JD d f h).bind λd=>jG d 0 λf=>jG d 1 λh=>jG d 2 λj=>jG d 3 λk=>JP 2 d 4 λd=>brn (jX g) (brn (jX i) (brn (jX k) (brn (jO ((jw a)+(jw [[g,A.sl 2 b],[i,A.sl 2 c],[k,A.sl 2 d]])) 40) (brn (jX e) (some (A.top,[f,h,j,A.agg [e,A.sl 2 (kM a [[g,A.sl 2 b],[i,A.sl 2 c],[k,A.sl 2 d]])]])) none) none) none) none) none) (kL b (vi 4) (yM (yF a) (vi 0) ((ym c d f [[sv [61]],[sv []],[sv [81,49]],[sv [98,50]]]).bind λb=>jG b 0 λc=>jG b 1 λd=>jG b 2 λf=>jG b 3 λb=>Yl (jw a) (vi 0) λg=>kRP a g 1 λg=>(kT (kz (K.at 155) 40) [sv [],A.sl 2 []] [(0,b),(1,g)]).bind λb=>Yl (jw a) (vi 0) λg=>jd 2 b λb=>kRG a g λh=>brn (jX e) (some (A.top,[c,d,f,A.agg [e,A.sl 2 (JM a g (JY h 0 [jc b 0,jc b 1]))]])) none) (jjy e c d f a)) (jjy e c d f a)))))) none:=vq Tryz.func155
theorem jxA:G 156 [a]=jd 2 a λa=>ze (jc a 0) (sv [61]) λa=>jm a:=gq Tryz.func156
theorem jxB:G 157 [a]=jd 2 a λa=>kF 190 [zR a] λb=>jcz b (vi 30) λb=>jx b true λ_=>zm b 191 [zR a] λa=>kR b (js .leq false a (vi 8)) λa=>j9 b a (vb false) λa=>jm a:=gq Tryz.func157
theorem jxC:G 158 [a]=jd 2 a λa=>kF 175 [jc a 0] λb=>KJ b (ku (jc a 1) λa=>ze a (vi 0) λa=>jm a) (kF 159 [jc a 0] λb=>jx b true λ_=>jR b (jc a 1) λc=>kR b (qB c) λc=>kR b (js .leq false c (vi 4)) λc=>j9 b c (vb false) λb=>jx b true λ_=>jR b (jc a 1) λa=>zm b 192 [a,A.fn 193 []] λa=>kR b (KR .not a) λa=>j9 b a (vb false) λa=>jm a):=gq Tryz.func158
theorem jxD:G 159 [a]=kLS a λb=>jbX a b (vi 0):=gq Tryz.func159
theorem jfL:jbX a b c=jL c b (ze c (vi 0) λd=>jR d a λe=>jR d c λf=>kR d (j6 e f) λe=>zm d 194 [e] λe=>kR d (KR .not e) λe=>j9 d e (vb false) λd=>zw d a λe=>zw d c λf=>yQ d (j6 e f) λe=>jdT d 194 [e] λe=>yQ d (KR .not e) λe=>zw d e λe=>jR e a λf=>jR e c λg=>kR e (j6 f g) λf=>zm e 195 [f] λf=>kR e (KR .not f) λf=>yQ d (Jz e f (vb false)) λe=>zw d e λe=>jR e a λf=>jR e c λg=>kR e (j6 f g) λf=>kR e (js .neq false f (vy 95)) λf=>yQ d (Jz e f (vb false)) λe=>qI d (vb true) e (jm (vb false)) (jr c (vi 1) λc=>jbX a b c)) (kLS a λb=>kF 138 [b,vi 1,vi 6] λb=>zm b 196 [] λc=>jR b a λa=>zm b 166 [c,a] λa=>kR b (KR .not a) λa=>j9 b a (vb false) λa=>jm a):=hq Tryz.func159
theorem jxE:G 160 [a]=jd 2 a λa=>kF 157 [zR a] λb=>jx b true λ_=>zm b 158 [zR a] λa=>j9 b a (vb false) λa=>jm a:=gq Tryz.func160
theorem jxF:G 161 [a,b,c]=ku a λd=>jfe a b c a d (vi 0):=gq Tryz.func161
theorem jo6:jfe a b c d e f=jL f e (KH 2 2 d f λg=>jd 2 g λg=>ku b λh=>jcB f h (jm (vi 1)) (KH 2 2 b f λh=>jd 2 h λh=>(DX.run K (MM K) (.callc c [zR g,zR h] false)).bind λg=>yZ g (vi 0) (jm g) (jr f (vi 1) λf=>jfe a b c d e f))) (ku a λa=>YF a b (jm (vi (- 1))) (jm (vi 0))):=hq Tryz.func161
theorem jvF:G 162 [a]=jcA a a λa=>jm a:=gq Tryz.func162
theorem jtO:jja p=jL (yF p) (vi 2) (some (A.top,[A.sl 3 p])) (YV (vi 1) p):=vq Tryz.func165
theorem jhB:YV a p=jL a (yF p) (Yl (jw p) a λb=>kRN p b 0 3 λb=>J4 a (vi 1) λc=>Yl (jw p) c λc=>kRN p c 0 3 λc=>kF 149 [b,c] λb=>KJ b (kB (Ji p) (Ks p 0) none λb=>kB 0 b (some a) λc=>KU a (nA (0+c)) (nA (yq b c)) (vi 1) p) (jr a (vi 1) λa=>YV a p)) (some (A.top,[A.sl 3 p])):=hq Tryz.func165
theorem jhC:KU a b c d p=jL d (nA (nOf c)) (Yl (nOf c) d λe=>kRN p ((nOf b)+e) 0 3 λe=>J4 d (vi 1) λf=>Yl (nOf c) f λf=>kRN p ((nOf b)+f) 0 3 λf=>kF 149 [e,f] λe=>kbN e (Yl (nOf c) d λe=>kRN p ((nOf b)+e) 0 3 λe=>Yl (jw p) a λf=>jd 3 e λe=>kRG p f λg=>jr a (vi 1) λa=>jr d (vi 1) λd=>KU a (nA (nOf b)) (nA (nOf c)) d (JM p f (JY g 0 [jc e 0,jc e 1,jc e 2]))) (jr d (vi 1) λd=>KU a (nA (nOf b)) (nA (nOf c)) d p)) (kB (Ji p) (Ks p 0) none λb=>kB 0 b (some a) λc=>kB (Ji (yj p (0+c) (ZT (yq b c) [vb false,sv [],A.sl 2 []]))) (Ks (yj p (0+c) (ZT (yq b c) [vb false,sv [],A.sl 2 []])) 0) (some a) λa=>some (A.top,[A.sl 3 (List.take (yq a 0) (yj p (0+c) (ZT (yq b c) [vb false,sv [],A.sl 2 []])))])):=hq Tryz.func165
theorem jxG:G 166 [a,b]=kF 199 [a,b] λa=>Qo a (vi 0) λa=>jm a:=gq Tryz.func166
theorem jxH:G 167 [a,b]=jd 2 a λa=>jff b (vi 1) (vi 0) (jc a 0) (jc a 1):=gq Tryz.func167
theorem jjO:jff a b c d e=ku e λf=>KI c f λf=>jR f b λg=>jR f a λh=>kR f (js .leq false g h) λg=>qI f g (vb false) (KH 2 2 e c λf=>J4 a b λg=>kF 167 [f,g] λf=>jr b f λb=>jr c (vi 1) λc=>jff a b c d e) (jm b):=hq Tryz.func167
theorem jxI:G 168 [a]=jd 2 a λa=>jfg (vi 0) (vi 0) (jc a 0) (jc a 1):=gq Tryz.func168
theorem jo7:jfg a b c d=YF b d (KH 2 2 d b λe=>kF 168 [e] λe=>kF 94 [a,e] λa=>jr b (vi 1) λb=>jfg a b c d) (jr a (vi 1) λa=>jm a):=hq Tryz.func168
theorem jxJ:G 169 [a,b]=jL a b (jm (vi (- 1))) (yM a b (jm (vi 1)) (jm (vi 0))):=gq Tryz.func169
theorem g17:G 17 [a,b]=jd 1 a λa=>jd 1 b λb=>kFN 43 [zc a] λc=>jx c false λ_=>jdT c 43 [zc b] λd=>yQ c (KR .not d) λd=>qI c (vb true) d (jm (A.tup [A.sl 1 [],vb false])) (kF 44 [zc a,zc b] λa=>jm (A.tup [a,vb true])):=gq Tryz.func17
theorem jxK:G 170 [a,b]=jfh a b (vi 0):=gq Tryz.func170
theorem jo8:jfh a b c=YF c a (kIP 1 a c λd=>kL d b (jm (vb true)) (jr c (vi 1) λc=>jfh a b c)) (jm (vb false)):=hq Tryz.func170
theorem jtP:jjb a=ku a λb=>kL b (vi 0) (some (A.top,[A.sl 2 []])) (ku a λb=>kMk 40 b b λb=>ku a λc=>YW a c (vi 0) (ZT b [sv [],A.sl 2 []])):=vq Tryz.func171
theorem jhD:YW a b c p=jL c b (KH 2 2 a c λd=>jd 2 d λd=>kF 131 [zR d] λd=>Yl (jw p) c λe=>jd 2 d λd=>kRG p e λf=>jr c (vi 1) λc=>YW a b c (JM p e (JY f 0 [jc d 0,jc d 1]))) (some (A.top,[A.sl 2 p])):=hq Tryz.func171
theorem jvG:G 174 [a]=jcA a a λa=>jm a:=gq Tryz.func174
theorem jxL:G 175 [a]=kLS a λb=>jbY a b (vi 0):=gq Tryz.func175
theorem jfM:jbY a b c=jL c b (ze c (vi 0) λd=>jR d a λe=>jR d c λf=>kR d (j6 e f) λe=>zm d 180 [e] λe=>kR d (KR .not e) λe=>j9 d e (vb false) λd=>zw d c λe=>yQ d (js .gtr false e (vi 0)) λe=>zw d e λe=>jR e a λf=>jR e c λg=>kR e (j6 f g) λf=>zm e 194 [f] λf=>kR e (KR .not f) λf=>yQ d (Jz e f (vb false)) λe=>zw d e λe=>jR e a λf=>jR e c λg=>kR e (j6 f g) λf=>zm e 195 [f] λf=>kR e (KR .not f) λf=>yQ d (Jz e f (vb false)) λe=>qI d (vb true) e (jm (vb false)) (jr c (vi 1) λc=>jbY a b c)) (kLS a λa=>kF 138 [a,vi 1,vi 4] λa=>jm a):=hq Tryz.func175
theorem jxM:G 176 [a,b]=jd 2 a λa=>ku (jc a 0) λc=>J4 c (vi 1) λc=>jfi b c (jc a 0) (jc a 1):=gq Tryz.func176
theorem jo9:jfi a b c d=jcB b (vi 0) (kIP 1 c b λe=>kL e a (kIP 1 d b λa=>jm a) (J4 b (vi 1) λb=>jfi a b c d)) (jm (vi 0)):=hq Tryz.func176
theorem jxN:G 177 [a,b]=YF b a (kIP 1 a b λa=>(KL .i64 a).bind λa=>jm a) (Z6 b (vi 7) λb=>ku a λa=>jr b a λa=>(js .rem false a (vi 256)).bind λa=>jm a):=gq Tryz.func177
theorem jxO:G 179 [a,b,c]=ku a λd=>ku b λe=>yZ d e (jm (vb false)) (ku a λd=>jfj b c a d (vi 0)):=gq Tryz.func179
theorem jpa:jfj a b c d e=jL e d (KH 2 2 c e λf=>jd 2 f λf=>KH 2 2 a e λg=>jd 2 g λg=>(DX.run K (MM K) (.callc b [zR f,zR g] false)).bind λf=>kbN f (jm (vb false)) (jr e (vi 1) λe=>jfj a b c d e)) (jm (vb true)):=hq Tryz.func179
theorem g18:G 18 [a]=kF 45 [a] λa=>Kl a 0 λb=>Kl a 1 λ_=>Kl a 2 λ_=>jd 1 b λa=>brn (jX (jc a 0)) (jm (zc a)) none:=gq Tryz.func18
theorem jxP:G 180 [a]=Qo a (vy 65) λb=>jR b a λa=>kR b (js .leq false a (vy 90)) λa=>j9 b a (vb false) λa=>jm a:=gq Tryz.func180
theorem jtQ:jjc a b c d=(ym b c d [[sv [88]],[sv [97]]]).bind λb=>jG b 0 λc=>jG b 1 λd=>jG b 2 λe=>jG b 3 λb=>brn (jX b) (brn (jX b) (JR a (sv []) b c d e [] []) none) none:=vq Tryz.func188
theorem jcF:JR a b c d e f p q=yM a (vi 1) (brn (jX c) (J4 a (vi 1) λa=>JR a b (sv [102]) d e f p [[c,A.sl 2 q]]) none) (e_2 c d e f q):=hq Tryz.func188
theorem jtR:je4 a b c=KV (vi 0) a b c (sv []) (sv [103]) [] []:=vq Tryz.func189
theorem K8:KV a b c d e f p q=jL a (vi 4) (YX a (vi 0) b c d e f (sv [104]) p q []) ((YI (vi 2) b c d).bind λa=>jG a 0 λb=>jG a 1 λc=>jG a 2 λd=>jG a 3 λa=>KJ a (kB (Ji q) (Ks q 0) (some (vi 3)) λa=>(YI (vi 2) b c d).bind λb=>jG b 0 λc=>jG b 1 λd=>jG b 2 λe=>jG b 3 λb=>jx b true λ_=>jx b true λ_=>jR b (nA (yq a 0)) λg=>kR b (js .eql false g (vi 3)) λg=>qI b g (vb false) (brn (jpN 0 (yq a 0) [[sv [102],A.sl 2 [[sv [98],A.sl 2 []]]]] q) (brn (jX f) (some (A.top,[c,d,e,A.agg [f,A.sl 2 (List.take ((yq a 0)+(Ji [[sv [102],A.sl 2 [[sv [98],A.sl 2 []]]]])) (yj q (0+(yq a 0)) [[sv [102],A.sl 2 [[sv [98],A.sl 2 []]]]]))]])) none) none) (brn (jX f) (some (A.top,[c,d,e,A.agg [f,A.sl 2 (List.take (yq a 0) q)]])) none)) ((YI (vi 2) b c d).bind λa=>jG a 0 λb=>jG a 1 λc=>jG a 2 λd=>jG a 3 λa=>jx a true λ_=>jx a true λ_=>jR a (yF q) λe=>kR a (js .eql false e (vi 3)) λe=>qI a e (vb false) (brn (jO ((jw q)+(jw [[sv [102],A.sl 2 [[sv [98],A.sl 2 []]]]])) 40) (brn (jX f) (some (A.top,[b,c,d,A.agg [f,A.sl 2 (kM q [[sv [102],A.sl 2 [[sv [98],A.sl 2 []]]]])]])) none) none) (jjy f b c d q))):=hq Tryz.func189
theorem K9:YX a b c d e f g h p q r=jL b (vi 4) (brn (jO ((jw r)+(jw [[sv [102],A.sl 2 [[sv [97],A.sl 2 []]]]])) 40) (jr b (vi 1) λb=>YX a b c d e f g h p q (kM r [[sv [102],A.sl 2 [[sv [97],A.sl 2 []]]]])) none) (brn (jX h) (brn (jO ((jw q)+(jw [[h,A.sl 2 r]])) 40) (jr a (vi 1) λa=>KV a c d e f g p (kM q [[h,A.sl 2 r]])) none) none):=hq Tryz.func189
theorem g19:G 19 [a]=jd 1 a λa=>kF 35 [zc a] λb=>kbN b (jm (A.tup [A.sl 1 [],vb false])) (ku (jc a 0) λb=>juV b (vi 0) (jc a 0) []):=gq Tryz.func19
theorem jxQ:G 190 [a]=jd 2 a λa=>ku (jc a 1) λb=>jfk (vi 1) (jc a 1) b (vi 0):=gq Tryz.func190
theorem jjP:jfk a b c d=jL d c (KH 2 2 b d λe=>jd 2 e λe=>yM a (vi 30) (jm a) (kF 190 [zR e] λe=>jr a e λa=>jr d (vi 1) λd=>jfk a b c d)) (jm a):=hq Tryz.func190
theorem jxR:G 191 [a]=jd 2 a λa=>ku (jc a 1) λb=>jfl (vi 0) (jc a 1) b (vi 0):=gq Tryz.func191
theorem jpb:jfl a b c d=jL d c (KH 2 2 b d λe=>jd 2 e λe=>kF 191 [zR e] λe=>(jj9 a e).bind λa=>jr d (vi 1) λd=>jfl a b c d) (jr a (vi 1) λa=>jm a):=hq Tryz.func191
theorem jxS:G 192 [a,b]=kF 215 [a,b] λa=>Qo a (vi 0) λa=>jm a:=gq Tryz.func192
theorem jxT:G 193 [a]=jd 2 a λa=>kFN 158 [zR a] λa=>jm a:=gq Tryz.func193
theorem jxU:G 194 [a]=Qo a (vy 97) λb=>jR b a λa=>kR b (js .leq false a (vy 122)) λa=>j9 b a (vb false) λa=>jm a:=gq Tryz.func194
theorem jxV:G 195 [a]=Qo a (vy 48) λb=>jR b a λa=>kR b (js .leq false a (vy 57)) λa=>j9 b a (vb false) λa=>jm a:=gq Tryz.func195
theorem jxW:G 196 []=jm (A.sl 1 [[sv [116,114,117,101]],[sv [102,97,108,115,101]],[sv [116,114,117,116,104]],[sv [98,111,116,104]],[sv [101,105,116,104,101,114]],[sv [105,102]],[sv [97,108,108]],[sv [115,111,109,101]]]):=gq Tryz.func196
theorem jxX:G 199 [a,b]=ku a λc=>jfm a b c (vi 0):=gq Tryz.func199
theorem jpc:jfm a b c d=jL d c (kIP 1 a d λe=>kL b e (jm d) (jr d (vi 1) λd=>jfm a b c d)) (jm (vi (- 1))):=hq Tryz.func199
theorem jxY:G 215 [a,b]=ku a λc=>jfn a b c (vi 0):=gq Tryz.func215
theorem jpd:jfn a b c d=jL d c (KH 2 2 a d λe=>(DX.run K (MM K) (.callc b [e] false)).bind λe=>KJ e (jm d) (jr d (vi 1) λd=>jfn a b c d)) (jm (vi (- 1))):=hq Tryz.func215
theorem g28:G 28 [a]=jd 1 a λa=>ku (jc a 0) λb=>jkJ (jc a 0) b (vi 0) (jc a 0):=gq Tryz.func28
theorem jsG:jkJ a b c d=jL c b (KH 3 3 a c λe=>jd 3 e λe=>kFN 70 [jjJ e] λf=>zw f c λg=>yQ f (js .gtr false g (vi 0)) λg=>zw f g λg=>jx g true λ_=>jR g d λh=>jR g c λi=>kR g (js .sub false i (vi 1)) λi=>kR g (ju 3 h i) λh=>kR g (jP 3 h) λh=>jx g true λ_=>zm g 71 [h,jjJ e] λe=>kR g (js .geq false e (vi 0)) λe=>yQ f (Jz g e (vb false)) λe=>qI f (vb true) e (jm (vb false)) (jr c (vi 1) λc=>jkJ a b c d)) (ku d λa=>jcz a (vi 8) λa=>jm a):=hq Tryz.func28
theorem g29:G 29 [a]=jd 1 a λa=>kF 28 [zc a] λb=>e_1 b a:=gq Tryz.func29
theorem g30:G 30 [a]=jd 1 a λa=>kF 59 [zc a] λa=>jd 1 a λa=>jkK (vi 0) (jc a 0) []:=gq Tryz.func30
theorem jsH:jkK a b p=KI a (vi 10) λc=>jx c true λ_=>zm c 72 [A.agg [b]] λd=>kR c (KR .not d) λd=>qI c d (vb false) (kF 75 [A.agg [b]] λc=>kF 74 [c,sv [88]] λc=>(G 73 [A.agg [b],c]).bind λb=>K7 b λb=>jd 1 b λb=>jr a (vi 1) λa=>jkK a (jc b 0) p) (brn (jX b) (jm (A.agg [b])) none):=hq Tryz.func30
theorem g31:G 31 [a]=jd 1 a λa=>ku (jc a 0) λb=>yM b (vi 8) (jm (vb false)) (jkL (vi 0) (jc a 0)):=gq Tryz.func31
theorem jsI:jkL a b=YF a b (jcy 2 3 b a 1 λc=>kFN 76 [c] λc=>zw c a λd=>yQ c (js .gtr false d (vi 0)) λd=>zw c d λd=>jx d true λ_=>jR d b λe=>jR d a λf=>kR d (js .sub false f (vi 1)) λf=>kR d (ju 3 e f) λe=>kR d (jP 3 e) λe=>jx d true λ_=>jR d b λf=>jR d a λg=>kR d (ju 3 f g) λf=>kR d (jP 3 f) λf=>zm d 77 [e,f] λe=>kR d (js .geq false e (vi 0)) λe=>yQ c (Jz d e (vb false)) λd=>qI c (vb true) d (jm (vb false)) (jr a (vi 1) λa=>jkL a b)) (jm (vb true)):=hq Tryz.func31
theorem g32:G 32 [a]=jd 1 a λa=>(G 53 [jc a 0]).bind λa=>K7 a λa=>jd 1 a λa=>jkM (vi 0) (jc a 0) []:=gq Tryz.func32
theorem jsJ:jkM a b p=KI a (vi 10) λc=>jx c true λ_=>zm c 78 [A.agg [b]] λd=>kR c (KR .not d) λd=>qI c d (vb false) (kF 80 [A.agg [b]] λc=>kF 79 [A.agg [b],c,sv [88]] λb=>jd 1 b λb=>jr a (vi 1) λa=>jkM a (jc b 0) p) (kF 31 [A.agg [b]] λa=>brn (jX b) (jm (A.tup [A.agg [b],a])) none):=hq Tryz.func32
theorem g35:G 35 [a]=jd 1 a λa=>kF 28 [zc a] λb=>jx b true λ_=>zm b 72 [zc a] λa=>j9 b a (vb false) λa=>jm a:=gq Tryz.func35
theorem g36:G 36 [a]=jd 1 a λa=>kF 75 [zc a] λb=>ku b λc=>jkO b c (vi 0) (jc a 0) [] []:=gq Tryz.func36
theorem jsL:jkO a b c d p q=jL c b (kIP 1 a c λe=>(qN e (some (vi 1)) none).bind λf=>jr (sv [89]) f λf=>(jbm none p e f).bind λe=>jr c (vi 1) λc=>jkO a b c d e q) ((G 73 [A.agg [d],A.mp p]).bind λa=>K7 a λa=>jd 1 a λa=>jm (zc a)):=hq Tryz.func36
theorem g37:G 37 [a,b]=jd 1 b λb=>jkP a (vi 0) (jc b 0) []:=gq Tryz.func37
theorem jsM:jkP a b c p=YF b c (jcy 2 3 c b 1 λd=>(jbS d p).bind λd=>JP 1 d 0 λd=>jr b (vi 1) λb=>jkP a b c d) (ze a (vi 1) λa=>jx a false λ_=>zw a (yF p) λb=>yQ a (js .leq false b (vi 4)) λb=>j9 a (vb true) b λa=>jm a):=hq Tryz.func37
theorem g38:G 38 [a,b,c]=jd 1 c λc=>jkQ a b (vi 0) (jc c 0) []:=gq Tryz.func38
theorem jsN:jkQ a b c d p=YF c d (jcy 2 3 d c 1 λe=>(jbS e p).bind λe=>JP 1 e 0 λe=>jr c (vi 1) λc=>jkQ a b c d e) (jgE a b (vi 1) (vi 0) d p):=hq Tryz.func38
theorem jpe:jgE a b c d e p=KI d (yF p) λf=>jR f c λg=>kR f (js .lss false g (vi 200)) λg=>qI f g (vb false) (Z6 c b λc=>jr d (vi 1) λd=>jgE a b c d e p) (jbZ a b c (vi 0) e p):=hq Tryz.func38
theorem jpf:jbZ a b c d e p=jL d c (jkR a b c d d (vi 0) e p [] []) (jm (vb true)):=hq Tryz.func38
theorem jsO:jkR a b c d e f g p q r=jL f (yF p) (Yl (jw p) f λh=>kRP p h 0 λh=>(js .rem false e b).bind λi=>(jnZ h i q r).bind λh=>JP 1 h 0 λ_=>JP 1 h 1 λ_=>JP 1 h 2 λi=>JP 1 h 3 λh=>jhw e b λe=>jr f (vi 1) λf=>jkR a b c d e f g p i h) (jgF a b c d (vb false) (vi 0) g p q r):=hq Tryz.func38
theorem jsP:jgF a b c d e f g p q r=ku g λh=>KI f h λh=>jR h e λi=>kR h (KR .not i) λi=>qI h i (vb false) (jcy 2 3 g f 1 λe=>kfn true (G 84 [a,b,A.agg [A.sl 1 q,A.sl 1 r],e]) λe=>jfH 3 g f 0 λh=>(js .eql true e h).bind λe=>jr f (vi 1) λf=>jgF a b c d e f g p q r) (kbN e (jm (vb false)) (jr d (vi 1) λd=>jbZ a b c d g p)):=hq Tryz.func38
theorem jvl:YI a b c d=(JQ a b c d).bind λa=>jG a 0 λb=>jG a 1 λc=>jG a 2 λd=>jG a 3 λa=>ze a (vi 0) λa=>some (A.top,[b,c,d,a]):=vq Tryz.func49
theorem g50:G 50 [a,b]=jd 1 a λa=>jd 2 b λb=>kF 100 [jc b 0] λc=>KJ c (kF 101 [zc a,jc b 0] λc=>jcB c (vi 0) (jcy 2 3 (jc a 0) c 1 λa=>(G 102 [a]).bind λa=>K7 a λa=>jd 2 a λa=>jm (zR a)) (brn (jX (jc b 0)) (brn (jX (jc b 0)) (jm (A.agg [jc b 0,A.sl 2 []])) none) none)) (brn (jX (jc b 0)) (brn (jX (jc b 0)) (jkS (vi 0) (jc a 0) (jc b 0) (jc b 1) (sv []) (jc b 0) [] []) none) none):=gq Tryz.func50
theorem jsQ:jkS a b c d e f p q=YF a d (KH 2 2 d a λg=>(G 50 [A.agg [b],g]).bind λg=>K7 g λg=>jd 2 g λg=>brn (jO ((jw q)+(jw [[jc g 0,jc g 1]])) 40) (jr a (vi 1) λa=>jkS a b c d e f p (kM q [[jc g 0,jc g 1]])) none) (brn (jX f) (jm (A.agg [f,A.sl 2 q])) none):=hq Tryz.func50
theorem jvm:jnW a b c=(JQ (vi 8) a b c).bind λa=>jG a 0 λb=>jG a 1 λc=>jG a 2 λd=>jG a 3 λa=>ze a (vi 0) λe=>KJ e (KJ e (jrg b c d) (jrh a b c d)) (kL a (vi 1) (jrg b c d) (jrh a b c d)):=vq Tryz.func52
theorem g53:G 53 [a]=jd1 a (vi 0) [] []:=gq Tryz.func53
theorem jsR:jd1 a b p q=YF b a (jkT a b (vi 0) p q) (jm (A.agg [A.sl 3 p])):=hq Tryz.func53
theorem jsS:jkT a b c p q=KI c (yF p) λd=>jx d true λ_=>jR d c λe=>jx d true λf=>brn f (Yl (jw p) e λe=>kR d (yh p e 0 3) λe=>jrk d a b e c p q) (kR d (jP 3 (A.val undef)) λe=>jrk d a b e c p q):=hq Tryz.func53
theorem jvn:jnX p=Zx (vi 0) p [] []:=vq Tryz.func53
theorem jlu:Zx a p q r=jL a (yF p) (jbu a (vi 0) p q r) (some (A.top,[A.sl 3 q])):=hq Tryz.func53
theorem jlv:jbu a b p q r=KI b (yF q) λc=>jx c true λ_=>jR c b λd=>jx c true λe=>brn e (Yl (jw q) d λd=>kR c (yh q d 0 3) λd=>jrm c a p d b q r) (kR c (jP 3 (A.val undef)) λd=>jrm c a p d b q r):=hq Tryz.func53
theorem g54:G 54 [a]=KJ a (jm (vi 1)) (jm (vi 0)):=gq Tryz.func54
theorem g59:G 59 [a]=jd 1 a λa=>ku (jc a 0) λb=>jkU (jc a 0) b (vi 0) [] []:=gq Tryz.func59
theorem jsT:jkU a b c p q=jL c b (KH 3 3 a c λd=>jd 3 d λd=>kF 107 [jjJ d] λd=>jd 3 d λd=>brn (jO ((jw q)+(jw [[jc d 0,jc d 1,jc d 2]])) 48) (jr c (vi 1) λc=>jkU a b c p (kM q [[jc d 0,jc d 1,jc d 2]])) none) (jm (A.agg [A.sl 3 q])):=hq Tryz.func59
theorem g6:G 6 [a]=ku a λa=>jlr a (vi 65536) λa=>jm a:=gq Tryz.func6
theorem jvo:JQ a b c d=jcC a (vi 1) (some (A.top,[b,c,d,vi 0])) ((jeZ b c d).bind λb=>jG b 0 λc=>jG b 1 λd=>jG b 2 λe=>jG b 3 λb=>yM a (vi 200) (Z6 b (vi 256) λb=>(jeZ c d e).bind λc=>jG c 0 λd=>jG c 1 λe=>jG c 2 λf=>jG c 3 λc=>jr b c λb=>jrq b a d e f) (jrq b a c d e)):=vq Tryz.func65
theorem jvp:jkF a b c=(YI (vi 2) a b c).bind λa=>jG a 0 λb=>jG a 1 λc=>jG a 2 λd=>jG a 3 λa=>(jnW b c d).bind λb=>jG b 0 λc=>jG b 1 λd=>jG b 2 λe=>jG b 3 λf=>JP 2 b 4 λb=>brn (jX a) (brn (jX f) (brn (jX a) (brn (jX f) (some (A.top,[c,d,e,a,f,A.sl 2 b])) none) none) none) none:=vq Tryz.func66
theorem jvq:jnY a b c=(ji6 a b c).bind λa=>jG a 0 λb=>jG a 1 λc=>jG a 2 λd=>JP 3 a 3 λa=>(JQ (vi 20) b c d).bind λb=>jG b 0 λc=>jG b 1 λd=>jG b 2 λe=>jG b 3 λb=>kL b (vi 0) ((je0 c d e).bind λb=>jG b 0 λc=>jG b 1 λd=>jG b 2 λe=>jG b 3 λb=>jrr b a c d e) (kL b (vi 1) (yM (yF a) (vi 1) (Yl (jw a) (vi 0) λb=>kRN a b 0 3 λb=>jd 3 b λb=>Yl (jw a) (vi 1) λf=>kRN a f 0 3 λf=>Yl (jw a) (vi 0) λg=>jd 3 f λf=>kRG a g λh=>Yl (jw (JM a g (JY h 0 [jc f 0,jc f 1,jc f 2]))) (vi 1) λi=>brn (jX (jc b 0)) (brn (jX (jc b 1)) (brn (jX (jc b 2)) (kRG (JM a g (JY h 0 [jc f 0,jc f 1,jc f 2])) i λj=>some (A.top,[c,d,e,A.agg [A.sl 3 (JM (JM a g (JY h 0 [jc f 0,jc f 1,jc f 2])) i (JY j 0 [jc b 0,jc b 1,jc b 2]))]])) none) none) none) (some (A.top,[c,d,e,A.agg [A.sl 3 a]]))) (kL b (vi 2) (Zy (vi 0) c d e [] []) (kL b (vi 3) (yM (yF a) (vi 0) (J4 (yF a) (vi 1) λb=>Yl (jw a) b λb=>kRN a b 0 3 λb=>jrr b a c d e) (some (A.top,[c,d,e,A.agg [A.sl 3 a]]))) (some (A.top,[c,d,e,A.agg [A.sl 3 a]]))))):=vq Tryz.func67
theorem jfP:Zy a b c d p q=(JQ (vi 2) b c d).bind λb=>jG b 0 λc=>jG b 1 λd=>jG b 2 λe=>jG b 3 λb=>jr (vi 8) b λb=>jL a b (kF 111 [a] λb=>jr (sv [112]) b λb=>(ym c d e [[sv [88]],[sv [89]]]).bind λc=>jG c 0 λd=>jG c 1 λe=>jG c 2 λf=>jG c 3 λc=>brn (jX c) (brn (jX c) (brn (jX b) (brn (jX b) (brn (jX b) (brn (jO ((jw p)+(jw [[vb true,b,A.sl 2 [[c,A.sl 2 []]]]])) 48) (jr a (vi 1) λa=>Zy a d e f (kM p [[vb true,b,A.sl 2 [[c,A.sl 2 []]]]]) q) none) none) none) none) none) none) (some (A.top,[c,d,e,A.agg [A.sl 3 p]])):=hq Tryz.func67
theorem g70:G 70 [a]=jd 3 a λa=>kF 114 [A.agg [jc a 1,jc a 2]] λa=>jm a:=gq Tryz.func70
theorem g71:G 71 [a,b]=jd 3 a λa=>jd 3 b λb=>kF 116 [A.agg [jc a 1,jc a 2],A.agg [jc b 1,jc b 2]] λc=>kF 54 [jc a 0] λa=>kF 54 [jc b 0] λb=>kF 117 [a,b] λa=>brn (jX c) (brn (jX a) (kfn true (G 115 [A.sl 1 [[c],[a]]]) λa=>jm a) none) none:=gq Tryz.func71
theorem g72:G 72 [a]=jd 1 a λa=>kF 75 [zc a] λa=>ku a λb=>jkV a b (vi 0):=gq Tryz.func72
theorem jsU:jkV a b c=jL c b (kIP 1 a c λd=>kF 118 [c] λe=>jr (sv [88]) e λe=>yZ d e (jm (vb false)) (jr c (vi 1) λc=>jkV a b c)) (jm (vb true)):=hq Tryz.func72
theorem g73:G 73 [a,b]=jd 1 a λa=>ku (jc a 0) λc=>jkW b (jc a 0) c (vi 0) [] []:=gq Tryz.func73
theorem jsV:jkW a b c d p q=jL d c (KH 3 3 b d λe=>jd 3 e λe=>kF 119 [A.agg [jc e 1,jc e 2],a] λf=>(kT (kz (K.at 73) 42) [vb false,sv [],A.sl 2 []] [(0,jc e 0),(1,f)]).bind λe=>jd 3 e λe=>brn (jO ((jw p)+(jw [[jc e 0,jc e 1,jc e 2]])) 48) (jr d (vi 1) λd=>jkW a b c d (kM p [[jc e 0,jc e 1,jc e 2]]) q) none) ((G 120 [A.sl 3 p]).bind λa=>K7 a λa=>jd 1 a λa=>jm (zc a)):=hq Tryz.func73
theorem g74:G 74 [a,b]=ku a λc=>jkX b a c (vi 0) []:=gq Tryz.func74
theorem jsW:jkX a b c d p=jL d c (kIP 1 b d λe=>kF 118 [d] λf=>jr a f λf=>(jbm none p e f).bind λe=>jr d (vi 1) λd=>jkX a b c d e) (jm (A.mp p)):=hq Tryz.func74
theorem g75:G 75 [a]=jd 1 a λa=>ku (jc a 0) λb=>jgG (jc a 0) b (vi 0) []:=gq Tryz.func75
theorem jsX:jgG a b c p=jL c b (KH 3 3 a c λd=>jd 3 d λd=>(je1 (jc d 1) (jc d 2) p).bind λd=>JP 1 d 0 λd=>jr c (vi 1) λc=>jgG a b c d) (jm (A.sl 1 p)):=hq Tryz.func75
theorem g76:G 76 [a]=jd 2 a λa=>kL (jc a 0) (sv [61]) (ku (jc a 1) λb=>ze b (vi 2) λb=>jx b true λ_=>zm b 122 [zR a] λc=>j9 b c (vb false) λb=>jx b true λ_=>jR b (jc a 1) λc=>kR b (ju 2 c (vi 0)) λc=>kR b (jP 2 c) λc=>zm b 123 [c] λc=>j9 b c (vb false) λb=>jx b true λ_=>jR b (jc a 1) λa=>kR b (ju 2 a (vi 1)) λa=>kR b (jP 2 a) λa=>zm b 123 [a] λa=>j9 b a (vb false) λa=>jm a) (kF 124 [jc a 0] λb=>jx b true λ_=>zm b 125 [zR a] λa=>j9 b a (vb false) λa=>jm a):=gq Tryz.func76
theorem g77:G 77 [a,b]=jd 3 a λa=>jd 3 b λb=>kF 126 [A.agg [jc a 1,jc a 2],A.agg [jc b 1,jc b 2]] λc=>yZ c (vi 0) (jm c) (jhv (jc a 0) λc=>jx c true λ_=>jR c (jc b 0) λd=>qI c d (vb false) (jm (vi (- 1))) (jx (jc a 0) true λ_=>jR (jc a 0) (jc b 0) λb=>kR (jc a 0) (KR .not b) λb=>qI (jc a 0) b (vb false) (jm (vi 1)) (jm (vi 0)))):=gq Tryz.func77
theorem g78:G 78 [a]=jd 1 a λa=>kF 80 [zc a] λa=>jkY a (vi 0):=gq Tryz.func78
theorem jsY:jkY a b=YF b a (kIP 1 a b λc=>kF 111 [b] λd=>jr (sv [88]) d λd=>yZ c d (jm (vb false)) (jr b (vi 1) λb=>jkY a b)) (jm (vb true)):=hq Tryz.func78
theorem g79:G 79 [a,b,c]=jd 1 a λa=>jkZ b c (vi 0) (jc a 0) [] []:=gq Tryz.func79
theorem jsZ:jkZ a b c d p q=YF c d (jfH 3 d c 0 λe=>jcy 2 3 d c 1 λf=>kF 127 [f,a,b] λf=>(kT (kz (K.at 79) 42) [vb false,sv [],A.sl 2 []] [(0,e),(1,f)]).bind λe=>jd 3 e λe=>brn (jO ((jw p)+(jw [[jc e 0,jc e 1,jc e 2]])) 48) (jr c (vi 1) λc=>jkZ a b c d (kM p [[jc e 0,jc e 1,jc e 2]]) q) none) ((G 53 [A.sl 3 p]).bind λa=>K7 a λa=>jd 1 a λa=>jm (zc a)):=hq Tryz.func79
theorem g80:G 80 [a]=jd 1 a λa=>jgH (vi 0) (jc a 0) []:=gq Tryz.func80
theorem js0:jgH a b p=YF a b (jcy 2 3 b a 1 λc=>(je2 c p).bind λc=>JP 1 c 0 λc=>jr a (vi 1) λa=>jgH a b c) (jm (A.sl 1 p)):=hq Tryz.func80
theorem jvr:jnZ a b p q=brn (jO (jw p) 16) (brn (jX a) (brn (jO ((jw p)+(jw [[a]])) 16) (brn (jO (jw q) 8) (brn (jX b) (brn (jO ((jw q)+(jw [[b]])) 8) (some (A.top,[A.sl 1 p,A.sl 1 q,A.sl 1 (kM p [[a]]),A.sl 1 (kM q [[b]])])) none) none) none) none) none) none:=vq Tryz.func83
theorem g84:G 84 [a,b,c,d]=jd 2 c λc=>jd 2 d λd=>jgJ a b (vi 0) (jc c 0) (jc c 1) (jc d 0) (jc d 1) []:=gq Tryz.func84
theorem js3:jgJ a b c d e f g p=YF c g (KH 2 2 g c λh=>kF 136 [a,b,A.agg [d,e],h] λh=>brn (jX h) (brn (jO ((jw p)+(jw [[h]])) 8) (jr c (vi 1) λc=>jgJ a b c d e f g (kM p [[h]])) none) none) (ze f (sv [61]) λb=>jx b true λ_=>jR b (yF p) λc=>kR b (js .eql false c (vi 2)) λc=>qI b c (vb false) (Yl (jw p) (vi 0) λa=>kRP p a 0 λa=>Yl (jw p) (vi 1) λb=>kRP p b 0 λb=>ze a b λa=>jm a) (jr (sv [126]) f λb=>kfn true (G 137 [a,b,A.sl 1 p]) λa=>(js .rem false a (vi 2)).bind λa=>ze a (vi 1) λa=>jm a)):=hq Tryz.func84
theorem jvs:jkG a b c d=jr a (vi 1) λa=>(JQ a b c d).bind λa=>jG a 0 λb=>jG a 1 λc=>jG a 2 λd=>jG a 3 λa=>Zz a b c d []:=vq Tryz.func86
theorem jbB:Zz a b c d p=yM a (vi 0) ((jkF b c d).bind λb=>jG b 0 λc=>jG b 1 λd=>jG b 2 λe=>jG b 3 λf=>jG b 4 λg=>JP 2 b 5 λb=>brn (jX f) (brn (jX g) (brn (jO ((jw p)+(jw [[f,g,A.sl 2 b]])) 48) (J4 a (vi 1) λa=>Zz a c d e (kM p [[f,g,A.sl 2 b]])) none) none) none) (jlr (yF p) (vi 0) λa=>jx a true λ_=>jx a true λe=>brn e ((YI (vi 8) b c d).bind λb=>jG b 0 λc=>jG b 1 λd=>jG b 2 λe=>jG b 3 λb=>qI a b (vb false) (jrs p c d e) (some (A.top,[c,d,e,A.sl 3 p]))) (qI a (A.val undef) (vb false) (jrs p b c d) (some (A.top,[b,c,d,A.sl 3 p])))):=hq Tryz.func86
theorem g94:G 94 [a,b]=yM a b (jm a) (jm b):=gq Tryz.func94
theorem g95:G 95 [a,b,c]=jre a b c:=gq Tryz.func95
end
end
end Go.Proofs.YtdbgbieenhcldaaGreatDoor
