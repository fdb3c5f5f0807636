/- Pq -/
import Derived.Test.YtdbgbieenhcldaaGreatDoorKt
import Derived.KernelRfl
set_option linter.unusedVariables false
namespace Go.Proofs.YtdbgbieenhcldaaGreatDoor
open Go Go.RowKit Go.Proofs.YtdbgbieenhcldaaGreatDoor.Abs
set_option linter.unusedSimpArgs false
set_option linter.unusedVariables false
noncomputable section
def vT:V:=V.top
def vD (a:A):V:=V.d a
def vP (i:Nat):V:=V.ptr i 0
def vR (i:Nat):V:=V.row i
def tp (n:Nat):List V:=List.replicate n vT
def pth:Nat->Nat->List Nat
 | 0,_=>[]
 | k+1,n=>if Nat.ble n 1 then [] else pth k (n/10)++[n%10]
def hs (sh:Option (List Nat)) (f p:Nat) (l:List V) (n:Nat) (ob:List Abs.Obj):Option Out:=MM K (.head f (pth 60 p) (l++tp n) ob sh)
def hd (f p:Nat) (l:List V) (n:Nat) (ob:List Abs.Obj):Option Out:=hs none f p l n ob
theorem gq {f:FuncId} {fn:Func} {l:List A} {r:Option Out} (h3:Tryz.prog.funcs[f]? = some fn) (h2:K.pureF f=true:=by exact rfl) (h4:fn.body.isSome=true:=by exact rfl) (h5:Nat.ble l.length fn.ntmps=true:=by exact rfl) (h1:K.ext f=none:=by exact rfl) (e:evC K (MM K) f (codeOf fn) [] (ZA fn l) (KS K f fn)=r:=by kernel_rfl):G f l=r:=(jyQ h2 h3 h4 h5 h1).trans e
theorem vq {f:FuncId} {fn:Func} {l:List V} {ob:List Abs.Obj} {r:Option Out} (h3:Tryz.prog.funcs[f]? = some fn) (h1:K.extv f=none:=by exact rfl) (h4:fn.body.isSome=true:=by exact rfl) (h5:Nat.ble l.length fn.ntmps=true:=by exact rfl) (e:evC K (MM K) f (codeOf fn) [] (QP fn l ob) (KS K f fn)=r:=by kernel_rfl):MM K (.callv f l ob)=r:=(jyV h1 h3 h4 h5).trans e
theorem hq {f:FuncId} {fn:Func} {p:List Nat} {l:List V} {ob:List Abs.Obj} {sh:Option (List Nat)} {r:Option Out} (h3:Tryz.prog.funcs[f]? = some fn) (h4:fn.body.isSome=true:=by exact rfl) (e:evAt K (MM K) f (codeOf fn) p [] (St.of fn.ntmps l ob sh) (KS K f fn)=r:=by kernel_rfl):MM K (.head f p l ob sh)=r:=(jyS h3 h4).trans e
section
variable {B:Type}
def jc (n:Nat) (a:A) (k0:List A->Option B):Option B:=(jbm n a).bind k0
def kH (t:A) (n:Nat) (k0:A->Option B):Option B:=(jei t n).bind k0
def j9 (t x y:A) (k0:A->Option B):Option B:=(Jt t x y).bind k0
def ji (t:A) (w:Bool) (k0:Bool->Option B):Option B:=(Ju t w).bind k0
def j6 (l:A) (k0:A->Option B):Option B:=(zu l).bind k0
def kLN (n:Nat) (a:A) (k0:A->Option B):Option B:=(jZ n a).bind k0
def jN (t x:A) (k0:A->Option B):Option B:=(pG t true (some x)).bind k0
def j4 (t x:A) (k0:A->Option B):Option B:=(pG t false (some x)).bind k0
def kI (t:A) (x:Option A) (k0:A->Option B):Option B:=(pG t true x).bind k0
def kR (t:A) (x:Option A) (k0:A->Option B):Option B:=(pG t false x).bind k0
def zS (t:A) (n:Nat) (l:List A) (k0:A->Option B):Option B:=(pG t true ((G n l).bind (fin false))).bind k0
def Kc (t:A) (n:Nat) (l:List A) (k0:A->Option B):Option B:=(pG t false ((G n l).bind (fin false))).bind k0
def kF (n:Nat) (l:List A) (k0:A->Option B):Option B:=((G n l).bind (fin false)).bind k0
def zh (o:Out) (k0:A->Option B):Option B:=(fin false o).bind k0
def kfn (b:Bool) (x:Option Out) (k0:A->Option B):Option B:=(x.bind (fin b)).bind k0
def QA (x:A) (k0:A->Option B):Option B:=(JM .not x).bind k0
def jH (o:Out) (i:Nat) (k0:A->Option B):Option B:=(hD o i).bind k0
def Jl (k:Nat) (o:Out) (i:Nat) (k0:List (List A)->Option B):Option B:=(hR k o i).bind k0
def qV (n:Nat) (i:A) (k0:Nat->Option B):Option B:=(Ke n i).bind k0
def kB (d t:Nat) (x:Option A) (k0:Nat->Option B):Option B:=(pB d t x).bind k0
def kRN (l:List (List A)) (i j n:Nat) (k0:A->Option B):Option B:=(z7 l i j n).bind k0
def kRG (l:List (List A)) (i:Nat) (k0:List A->Option B):Option B:=(je2 l i).bind k0
def kIS (a i:A) (k0:A->Option B):Option B:=(kP a i).bind k0
def kSl (k:Nat) (a:A) (x y:Option A) (k0:A->Option B):Option B:=(ym k a x y).bind k0
def kRP (l:List (List A)) (i j:Nat) (k0:A->Option B):Option B:=(yE l i j).bind k0
def kMk (n:Nat) (a b:A) (k0:Nat->Option B):Option B:=(jfG n a b).bind k0
def kRs (k:Nat) (a:A) (k0:List (List A)->Option B):Option B:=(jeh k a).bind k0
def kLS (a:A) (k0:A->Option B):Option B:=(Yg a).bind k0
def jm (x y:A) (k0:A->Option B):Option B:=(jp .add false x y).bind k0
def zR (x y:A) (k0:A->Option B):Option B:=(jp .eql false x y).bind k0
def Qm (x y:A) (k0:A->Option B):Option B:=(jp .geq false x y).bind k0
def jfo (x y:A) (k0:A->Option B):Option B:=(jp .gtr false x y).bind k0
def jbP (x y:A) (k0:A->Option B):Option B:=(jp .leq false x y).bind k0
def qA (x y:A) (k0:A->Option B):Option B:=(jp .lss false x y).bind k0
def Qn (x y:A) (k0:A->Option B):Option B:=(jp .mul false x y).bind k0
def KW (x y:A) (k0:A->Option B):Option B:=(jp .neq false x y).bind k0
def jiJ (x y:A) (k0:A->Option B):Option B:=(jp .quo false x y).bind k0
def jmE (x y:A) (k0:A->Option B):Option B:=(jp .shr false x y).bind k0
def qB (x y:A) (k0:A->Option B):Option B:=(jp .sub false x y).bind k0
def yT (t:A) (X Y:Option B):Option B:=(yD t).bind λu=>brn u X Y
def zK (c x y:A) (X Y:Option B):Option B:=(Jt c x y).bind λt=>(yD t).bind λu=>brn u X Y
def KF (x:A) (X Y:Option B):Option B:=(JM .not x).bind λt=>(yD t).bind λu=>brn u X Y
def KE (i l:A) (X Y:Option B):Option B:=(zu l).bind λn=>(jp .lss false i n).bind λt=>(yD t).bind λu=>brn u X Y
def kF2 (n:Nat) (l:List A) (k:A->A->Option B):Option B:=((G n l).bind (fin false)).bind λt=>(jei t 0).bind λa=>(jei t 1).bind λb=>k a b
def kFN (n:Nat) (l:List A) (k:A->Option B):Option B:=((G n l).bind (fin false)).bind λt=>(JM .not t).bind k
def qx (n m:Nat) (x i:A) (k:A->Option B):Option B:=(jq m x i).bind λt=>(jZ n t).bind k
def kIP (m:Nat) (x i:A) (k:A->Option B):Option B:=(jq m x i).bind λt=>(kJ t).bind k
def Kd (n m:Nat) (x i:A) (o:Nat) (k:A->Option B):Option B:=(jq m x i).bind λt=>(yJ t o).bind λt=>(jZ n t).bind k
def jcr (m:Nat) (x i:A) (o:Nat) (k:A->Option B):Option B:=(jq m x i).bind λt=>(yJ t o).bind λt=>(kJ t).bind k
def jI (x y:A) (X Y:Option B):Option B:=(jp .lss false x y).bind λt=>(yD t).bind λu=>brn u X Y
def jdF (x y:A) (X Y:Option B):Option B:=(jp .leq false x y).bind λt=>(yD t).bind λu=>brn u X Y
def zD (x y:A) (X Y:Option B):Option B:=(jp .gtr false x y).bind λt=>(yD t).bind λu=>brn u X Y
def jdE (x y:A) (X Y:Option B):Option B:=(jp .geq false x y).bind λt=>(yD t).bind λu=>brn u X Y
def kS (x y:A) (X Y:Option B):Option B:=(jp .eql false x y).bind λt=>(yD t).bind λu=>brn u X Y
def qn (x y:A) (X Y:Option B):Option B:=(jp .neq false x y).bind λt=>(yD t).bind λu=>brn u X Y
def je (x:A):Option Out:=some (x,[])
def jX (t:List A):A:=A.agg [jb t 0]
def kq (t:List A):A:=A.agg [jb t 0,jb t 1]
def jg6 (t:List A):A:=A.agg [jb t 0,jb t 1,jb t 2]
end
section
variable (a b c d e f g h i j k l m n o aa ab ac ad ae af ag ah ai aj ak al am:A) (p q r s t u v w x y z:List (List A))
def jaZ:=hd 100 111010 [vD a,vT,vT,vD b] 25 []
def jcT:=hd 101 11010 [vT,vD a,vP 0,vT,vT,vD b] 16 [.box [vD c]]
def jgl:=hd 102 111010 [vT,vP 0,vP 1,vP 2,vD a] 22 [.box [vD b,vD c],.box [vD d,vR 3],.box [vD e,vR 4],.row 2 p,.row 2 q]
def jkf:=MM K (.callv 103 [V.agg [V.row 0],vD a,V.agg [V.d b,V.d c]] [.row 3 p])
def jcU:=hs (some [3]) 103 111100 [vT,vD a,vT,vP 0,vT,vP 1,vP 2,vD b] 43 [.box [vR 3],.box [vD c,vD d],.box [vR 4],.row 3 p,.row 3 q]
def jgd:=MM K (.callv 103 [V.agg [V.row 0],vD a,vD b] [.row 3 p])
def ZJ:=hs (some [3]) 103 111100 [vT,vD a,vT,vP 0,vT,vP 1,vP 2,vD b] 43 [.box [vR 3],.box [vD c,vD d],.box [vR 4],.row 3 p,.row 3 q]
def jkg:=MM K (.callv 103 [V.agg [V.row 0],vD a,V.agg [V.d b,V.row 1]] [.row 3 p,.row 2 q])
def ZK:=hs (some [3,4]) 103 111100 [vT,vD a,vT,vP 0,vT,vP 1,vP 2,vD b] 43 [.box [vR 3],.box [vD c,vR 4],.box [vR 5],.row 3 p,.row 2 q,.row 3 r]
def JP:=MM K (.callv 104 [vP 0] [.box [vD a,vD b,vD c]])
def yG:=MM K (.callv 105 [vP 0,vD a] [.box [vD b,vD c,vD d]])
def jgm:=hd 106 11010 ([vD a,vD b]++tp 5++[vD c,vD d]) 10 []
def jge:=MM K (.callv 108 [vP 0] [.box [vD a,vD b,vD c]])
def jgf:=MM K (.callv 109 [vP 0] [.box [vD a,vD b,vD c]])
def jgg:=MM K (.callv 110 [vP 0] [.box [vD a,vD b,vD c]])
def yV:=MM K (.callv 112 [vP 0,vR 1] [.box [vD a,vD b,vD c],.row 1 p])
def jcV:=hd 115 111010 [vT,vT,vT,vD a,vT,vT,vD b,vD c,vD d] 9 []
def ja0:=hd 119 1111010 ([vT,vD a,vT,vT,vP 0,vP 1]++tp 24++[vD b,vD c,vD d]) 13 [.box [vD e,vR 2],.box [vD f,vR 3],.row 2 p,.row 2 q]
def jgn:=hd 120 111010 [vT,vT,vP 0,vP 1,vT,vT,vT,vD a,vD b,vD c] 19 [.box [vR 2],.box [vR 3],.row 3 p,.row 3 q]
def jgh:=MM K (.callv 121 [vR 0,V.agg [V.d a,V.d b]] [.row 1 p])
def QW:=hs (some [0]) 121 111010 ([vR 0]++tp 26++[vD a,vD b,vD c]) 8 [.row 1 p]
def QX:=hs (some [1]) 121 111010 ([vR 0]++tp 26++[vD a,vD b,vD c]) 8 [.row 1 p,.gone]
def jgo:=hd 123 1111010 [vT,vP 0,vT,vD a] 31 [.box [vD b,vD c]]
def qE:=hd 124 1111010 [vD a,vT,vT,vD b] 41 []
def jcW:=hd 126 1111010 [vT,vT,vP 0,vP 1,vT,vT,vT,vD a] 67 [.box [vD b,vD c],.box [vD d,vD e]]
def jgp:=hd 127 11010010 [vT,vD a,vD b,vP 0,vT,vT,vP 1,vD c] 50 [.box [vD d,vD e],.box [vD f,vR 2],.row 2 p]
def jgq:=hd 127 1111010 [vT,vD a,vD b,vP 0,vT,vT,vP 1,vT,vP 2,vD c] 48 [.box [vD d,vD e],.box [vD f,vR 3],.box [vD g,vR 4],.row 2 p,.row 2 q]
def jgi:=MM K (.callv 128 [vD a,vR 0] [.row 1 p])
def QY:=hs (some [0]) 128 111010 [vT,vR 0,vP 1,vT,vT,vD a] 28 [.row 1 p,.box [vD b,vD c]]
def QZ:=hs (some [2]) 128 111010 [vT,vR 0,vP 1,vT,vT,vD a] 28 [.row 1 p,.box [vD b,vD c],.gone]
def jkh:=MM K (.callv 132 [vR 0,V.fn 183 []] [.row 3 p])
def jgr:=hd 135 11010 ([vT,vP 0]++tp 4++[vD a,vD b,vD c]) 43 [.box [vD d]]
def ja1:=hd 136 1111010 ([vD a,vD b]++tp 4++[vP 0,vP 1,vT,vR 2,vD c]) 53 [.box [vD d,vD e],.box [vD f,vD g],.row 1 p]
def jgs:=hd 137 111010 ([vD a,vD b,vD c]++tp 4++[vD d,vD e]) 43 []
def jgt:=hd 137 1111010 ([vD a,vT,vD b]++tp 4++[vD c,vT,vD d]) 42 []
def jhQ:=MM K (.callv 13 [vR 0,vD a] [.row 1 p])
def YE:=hs (some [0]) 13 11010010 [vR 0,vT,vT,vP 1,vT,vD a] 57 [.row 1 p,.box [vD b,vD c]]
def jcx:=hs (some [0]) 13 111010 [vR 0,vT,vT,vP 1,vT,vT,vD a] 56 [.row 1 p,.box [vD b,vD c]]
def jcy:=hs (some [2]) 13 111010 [vR 0,vT,vT,vP 1,vT,vT,vD a] 56 [.row 1 p,.box [vD b,vD c],.gone]
def Q0:=hd 14 11010 [vD a,vD b,vT,vT,vT,vP 0,vT,vD c] 38 [.box [vD d]]
def jlQ:=hd 14 1101001001010 [vD a,vD b,vT,vT,vT,vP 0,vT,vD c,vD d,vD e] 36 [.box [vD f]]
def jcX:=hd 143 111010 ([vT,vT,vP 0,vP 1,vP 2,vT,vP 3]++tp 9++[vD a,vD b,vD c]) 58 [.box [vD d],.box [vD e],.box [vR 4],.box [vR 5],.row 3 p,.row 3 q]
def ja2:=hd 143 1111010 ([vT,vT,vP 0,vT,vP 1,vT,vP 2]++tp 35++[vD a,vD b,vD c]) 32 [.box [vD d],.box [vR 3],.box [vR 4],.row 3 p,.row 3 q]
def jgu:=hd 144 111010 ([vT,vT,vP 0,vT,vP 1,vT,vR 2]++tp 5++[vD a,vD b,vD c]) 26 [.box [vD d],.box [vR 3],.row 3 p,.row 3 q]
def jki:=MM K (.callv 145 [V.nil 3,vD a] [])
def jkj:=MM K (.callv 146 [vR 0,vD a,vD b] [.row 3 p])
def jkk:=MM K (.callv 147 [vD a] [])
def jgv:=hd 148 111010 ([vT,vD a,vD b]++tp 12++[vD c,vD d,vD e]) 14 []
def jgw:=hd 151 111010 [vT,vT,vP 0,vP 1,vT,vD a] 33 [.box [vD b,vD c],.box [vD d,vD e]]
def jgx:=hd 153 111010 [vT,vD a,vP 0,vT,vP 1,vT,vR 2,vD b] 37 [.box [vD c],.box [vR 3],.row 3 p,.row 3 q]
def jkl:=MM K (.callv 155 [vP 0] [.box [vD a,vD b,vD c]])
def jcY:=hd 159 11010 ([vD a]++tp 4++[vD b,vD c]) 41 []
def jcZ:=hd 16 1111010 ([vT,vT,vP 0,vP 1,vT,vT,vR 2]++tp 15++[vD a,vD b]) 30 [.box [vD c],.box [vD d],.row 1 p]
def jhU:=hd 16 111101001100110 ([vT,vT,vP 0,vP 1,vT,vT,vR 2,vD a]++tp 14++[vD b,vD c]++tp 4++[vD d,vD e]) 24 [.box [vD f],.box [vD g],.row 1 p]
def jgy:=hd 161 11010 ([vD a,vD b,vD c]++tp 8++[vD d,vD e,vD f]) 25 []
def jkm:=MM K (.callv 164 [vR 0,V.fn 71 []] [.row 3 p])
def jkn:=MM K (.callv 165 [vR 0,V.fn 149 []] [.row 3 p])
def Q1:=hs (some [0]) 165 111010 [vR 0,V.fn 149 [],vT,vT,vT,vD a] 60 [.row 3 p]
def ZL:=hs (some [0]) 165 1110100100101010 [vR 0,V.fn 149 [],vT,vT,vT,vD a,V.win 0 3 (kU b) (kU c),vD d] 58 [.row 3 p]
def jgz:=hd 167 111010 [vT,vD a,vP 0,vT,vT,vD b,vD c] 24 [.box [vD d,vD e]]
def jgA:=hd 168 111010 [vT,vP 0,vT,vD a,vD b] 17 [.box [vD c,vD d]]
def jgB:=hd 170 11010 [vD a,vD b,vT,vT,vT,vD c] 12 []
def jko:=MM K (.callv 171 [vD a] [])
def Q2:=hs (some []) 171 1111010 ([vT,vT,vT,vR 0]++tp 8++[vD a,vD b,vD c]) 11 [.row 2 p]
def jc0:=hd 175 11010 ([vD a]++tp 4++[vD b,vD c]) 33 []
def jgC:=hd 176 11010 [vT,vD a,vP 0,vT,vT,vD b] 20 [.box [vD c,vD d]]
def jkq:=hd 178 1111010 ([vT,vT,vP 0,vT,vP 1,vT,vT,vP 2]++tp 27++[vD a,vD b,vD c]) 13 [.box [vD d],.box [vD e,vR 4],.box [vD f,vR 3],.row 2 p,.row 2 q]
def jkr:=hd 178 1111010 ([vT,vT,vP 0,vT,vP 1,vT,vT,vP 2]++tp 27++[vD a,vD b,vD c]) 13 [.box [vD d],.box [vD e,vR 3],.box [vD f,vR 4],.row 2 p,.row 2 q]
def jgD:=hd 179 111010 ([vT,vD a,vD b]++tp 12++[vD c,vD d,vD e]) 14 []
def jgE:=hd 184 11010 [vT,vP 0,vT,vD a] 51 [.box [vD b]]
def jkp:=MM K (.callv 188 [vP 0,vD a] [.box [vD b,vD c,vD d]])
def KN:=hs (some [2]) 188 11100 [vT,vD a,vT,vT,vP 0,vP 1] 12 [.box [vD b,vR 3],.box [vD c,vR 4],.box [vD d,vD e,vD f],.row 2 p,.row 2 q]
def jgj:=MM K (.callv 189 [vP 0] [.box [vD a,vD b,vD c]])
def ZM:=hs (some [0]) 189 111010 [vP 0,vT,vP 1,vP 2,vD a] 49 [.box [vD b,vD c,vD d],.box [vD e,vR 3],.box [vD f,vR 4],.row 2 p,.row 2 q]
def Q3:=hs (some [0]) 189 11101001001010 [vP 0,vT,vP 1,vP 2,vD a,vP 3,vD b] 47 [.box [vD c,vD d,vD e],.box [vD f,vR 4],.box [vD g,vR 5],.box [vD h,vR 6],.row 2 p,.row 2 q,.row 2 r]
def jc1:=hd 19 1111010 ([vT,vP 0,vT,vT,vR 1]++tp 10++[vD a,vD b]) 29 [.box [vD c],.row 1 p]
def jhV:=hd 19 111101001100110 ([vT,vP 0,vT,vT,vR 1,vD a]++tp 9++[vD b,vD c]++tp 4++[vD d,vD e]) 23 [.box [vD f],.row 1 p]
def jgF:=hd 190 111010 [vT,vT,vT,vD a,vT,vT,vT,vD b,vD c,vD d] 12 []
def jgG:=hd 191 111010 [vT,vT,vT,vD a,vT,vT,vT,vD b,vD c,vD d] 10 []
def jgH:=hd 199 11010 ([vD a,vD b]++tp 5++[vD c,vD d]) 10 []
def jc2:=hd 20 1111010 [vT,vP 0,vT,vT,vR 1,vD a] 38 [.box [vD b],.row 1 p]
def jhW:=hd 20 1111010010010 [vT,vP 0,vT,vT,vR 1,vD a,vD b] 37 [.box [vD c],.row 1 p]
def jp3:=hd 21 11111010 [vT,vT,vP 0,vT,vP 1,vP 2,vR 3,vD a] 60 [.box [vR 4],.box [vD b,vD c,vD d],.box [vD e],.row 1 p,.row 3 q]
def jc3:=hd 210 1111010 ([vT,vD a,vT,vT,vT,vD b]++tp 7++[vD c,vD d,vD e]) 10 []
def jc4:=hd 211 111100 ([vD a,vD b,vD c]++tp 5++[vD d,vD e,vD f]) 38 []
def jgI:=hd 213 111010 [vD a,vT,vT,vP 0,vT,vD b] 22 [.box [vD c,vD d]]
def jgJ:=hd 214 111010 [vT,vT,vP 0,vP 1,vP 2,vP 3,vD a] 56 [.box [vD b],.box [vD c],.box [vR 4],.box [vR 5],.row 3 p,.row 3 q]
def jc5:=hd 214 1111010 [vT,vT,vP 0,vP 1,vP 2,vP 3,vT,vD a] 55 [.box [vD b],.box [vD c],.box [vR 4],.box [vR 5],.row 3 p,.row 3 q]
def jgK:=hd 215 11010 ([vD a,vD b]++tp 5++[vD c,vD d]) 10 []
def jv9:=hd 22 1111010 ([vT,vD a,vP 0,vT,vP 1,vT,vD b]++tp 18++[vD c,vD d,vD e]) 43 [.box [vD f],.box [vR 2],.row 3 p]
def jyP:=hd 22 1111111010 (tp 4++[vP 0]++tp 4++[vP 1]++tp 39++[vD a,vD b,vD c]) 19 [.box [vR 2],.box [vD d],.row 3 p]
def jp4:=hd 23 1111010 [vT,vD a,vP 0,vT,vP 1,vT,vD b,vD c] 76 [.box [vD d],.box [vR 2],.row 3 p]
def jwQ:=hd 23 111111010 [vT,vD a,vP 0,vT,vP 1,vT,vD b,vT,vD c] 75 [.box [vD d],.box [vR 2],.row 3 p]
def jy7:=hd 23 11111111010 [vT,vD a,vT,vT,vP 0,vT,vD b,vT,vT,vP 1,vD c] 73 [.box [vR 2],.box [vD d],.row 3 p]
def jgL:=hd 233 11100 [vD a,vD b,vT,vT,vT,vD c] 39 []
def jwR:=hd 24 1111010 [vT,vT,vT,vP 0,vR 1,vD a] 42 [.box [vD b,vD c,vD d],.row 1 p]
def jwS:=hd 25 111010 ([vD a]++tp 16++[vD b,vD c,vD d]) 44 []
def jwT:=hd 25 11101001100110 ([vD a]++tp 4++[vD b,vP 0,vD c]++tp 9++[vD d,vD e,vD f]) 44 [.box [vD g]]
def jza:=hd 26 111010 ([vD a]++tp 4++[vD b]) 64 []
def jqU:=hd 26 1111010 ([vD a]++tp 5++[vD b]) 63 []
def jwU:=hd 26 1111010010010 ([vD a]++tp 5++[vD b,vD c]) 62 []
def jlR:=hd 28 11010 ([vT,vP 0]++tp 4++[vD a,vD b,vD c]) 27 [.box [vD d]]
def jlS:=hd 30 111010 [vT,vT,vP 0,vP 1,vD a] 17 [.box [vR 2],.box [vD b],.row 3 p]
def jlT:=hd 31 111010 [vT,vP 0,vT,vD a] 38 [.box [vD b]]
def jlU:=hd 32 111010 [vT,vT,vP 0,vT,vP 1,vD a] 19 [.box [vR 2],.box [vD b],.row 3 p]
def jlV:=hd 36 111010 ([vT,vP 0,vP 1,vR 2]++tp 4++[vD a,vD b,vD c]) 12 [.box [vD d],.box [vR 3],.map p,.row 3 q]
def jlW:=hd 37 111010 [vD a,vT,vT,vP 0,vT,vR 1,vD b] 23 [.box [vD c],.row 1 p]
def jlX:=hd 38 111010 [vD a,vD b,vT,vT,vT,vP 0,vT,vR 1,vD c] 92 [.box [vD d],.row 1 p]
def jhX:=hd 38 11111010 [vD a,vD b,vT,vT,vT,vP 0,vT,vR 1,vT,vD c,vD d] 90 [.box [vD e],.row 1 p]
def jc6:=hd 38 111111010 [vD a,vD b,vT,vT,vT,vP 0,vT,vR 1,vT,vD c,vT,vD d] 89 [.box [vD e],.row 1 p]
def jlY:=hd 38 111111010010011010 [vD a,vD b,vT,vT,vT,vP 0,vT,vR 1,vT,vD c,vT,vD d,vP 2,vD e,vD f] 86 [.box [vD g],.row 1 p,.box [vR 3,vR 4],.row 1 q,.row 1 r]
def jhY:=hd 38 11111101001001111010 [vD a,vD b,vT,vT,vT,vP 0,vT,vR 1,vT,vD c,vT,vD d,vP 2,vT,vT,vD e,vD f] 84 [.box [vD g],.row 1 p,.box [vR 3,vR 4],.row 1 q,.row 1 r]
def jhR:=MM K (.callv 39 [vP 0] [.box [vD a,vD b,vD c]])
def jsc:=hd 4 1111111010 [vD a,vT,vT,vP 0,vP 1,vD b,vT,vT,vT,vD c] 81 [.box [vD d],.box [vD e]]
def jsd:=hd 4 11111111111010 ([vD a]++tp 9++[vP 0,vD b,vT,vT,vT,vD c]) 75 [.box [vD d]]
def joY:=MM K (.callv 40 [vP 0,V.agg [V.d a]] [.box [vD b,vD c,vD d]])
def jc7:=hd 44 111010 [vT,vT,vP 0,vP 1,vT,vR 2,vD a] 33 [.box [vD b],.box [vD c],.row 1 p]
def jhZ:=hd 44 111010010010 [vT,vT,vP 0,vP 1,vT,vR 2,vD a,vD b] 32 [.box [vD c],.box [vD d],.row 1 p]
def jc8:=hd 48 111010 [vD a,vT,vT,vR 0,vD b] 37 [.row 1 p]
def jh0:=hd 48 11101001001010 [vD a,vT,vT,vR 0,vD b,vD c,vD d] 35 [.row 1 p]
def KM:=MM K (.callv 49 [vP 0,vD a] [.box [vD b,vD c,vD d]])
def jyT:=hd 5 1111111010 ([vD a]++tp 4++[vP 0,vT,vT,vT,vD b]) 92 [.box [vD c]]
def jlZ:=hd 50 1111010 [vT,vT,vP 0,vP 1,vP 2,vT,vP 3,vD a] 42 [.box [vD b],.box [vD c,vD d],.box [vD e,vR 4],.box [vD f,vR 5],.row 2 p,.row 2 q]
def jlM:=MM K (.callv 51 [vP 0] [.box [vD a,vD b,vD c]])
def Q4:=hs (some [0]) 51 111010 [vP 0,vT,vP 1,vP 2,vT,vT,vT,vR 3,vD a,vD b] 12 [.box [vD c,vD d,vD e],.box [vR 4],.box [vR 5],.row 1 p,.row 3 q,.row 3 r]
def joZ:=MM K (.callv 52 [vP 0] [.box [vD a,vD b,vD c]])
def je7:=hd 53 111010 [vD a,vT,vP 0,vR 1,vD b] 69 [.box [vR 2],.row 3 p,.row 3 q]
def jl0:=hd 53 1110100100100 [vD a,vT,vP 0,vR 1,vD b,vD c] 68 [.box [vR 2],.row 3 p,.row 3 q]
def jo0:=MM K (.callv 53 [vR 0] [.row 3 p])
def YF:=hs (some [0]) 53 111010 [vR 0,vT,vP 1,vR 2,vD a] 69 [.row 3 p,.box [vR 3],.row 3 q,.row 3 r]
def jcz:=hs (some [0]) 53 1110100100100 [vR 0,vT,vP 1,vR 2,vD a,vD b] 68 [.row 3 p,.box [vR 3],.row 3 q,.row 3 r]
def jl1:=hd 59 111010 ([vT,vT,vP 0,vP 1]++tp 4++[vD a,vD b,vD c]) 12 [.box [vR 2],.box [vR 3],.row 3 p,.row 3 q]
def jAo:=hd 60 11010 ([vD a,vD b]++tp 5++[vD c,vD d]) 10 []
def jAt:=hd 61 11010 ([vT,vD a,vT,vP 0,vT,vP 1,vP 2]++tp 6++[vD b,vD c]) 14 [.box [vD d],.box [vD e],.box [vR 3],.row 3 p]
def jAy:=hd 62 11010 [vT,vP 0,vT,vD a] 15 [.box [vD b]]
def jAz:=hd 63 111010 [vT,vP 0,vP 1,vP 2,vD a] 28 [.box [vD b],.box [vR 3],.box [vR 4],.row 3 p,.row 3 q]
def jwV:=hd 64 111010 [vT,vT,vP 0,vP 1,vP 2,vT,vD a,vD b] 26 [.box [vD c],.box [vD d],.box [vR 3],.row 3 p]
def qh:=MM K (.callv 65 [vP 0,vD a] [.box [vD b,vD c,vD d]])
def jlN:=MM K (.callv 66 [vP 0] [.box [vD a,vD b,vD c]])
def jo1:=MM K (.callv 67 [vP 0] [.box [vD a,vD b,vD c]])
def YG:=hs (some [0]) 67 1110101111101010 [vP 0,vT,vP 1,vT,vT,vR 2,vD a] 79 [.box [vD b,vD c,vD d],.box [vR 3],.row 3 p,.row 3 q]
def jl2:=hd 72 11010 (tp 6++[vD a,vD b,vD c]) 10 []
def jl3:=hd 73 111010 ([vT,vD a,vT,vT,vP 0,vR 1]++tp 4++[vD b,vD c,vD d]) 16 [.box [vR 2],.row 3 p,.row 3 q]
def jl4:=hd 74 111010 [vT,vD a,vT,vT,vT,vR 0,vT,vT,vT,vD b,vD c,vD d] 12 [.map p]
def jh1:=hd 75 111010 ([vT,vT,vT,vR 0]++tp 4++[vD a,vD b,vD c]) 9 [.row 1 p]
def jl5:=hd 78 111010 [vT,vT,vT,vD a,vD b] 16 []
def jl6:=hd 79 111010 [vT,vD a,vD b,vP 0,vT,vT,vP 1,vR 2,vD c] 29 [.box [vD d],.box [vR 3],.row 3 p,.row 3 q]
def jh2:=hd 80 111010 [vT,vP 0,vT,vR 1,vD a] 17 [.box [vD b],.row 1 p]
def jo2:=MM K (.callv 83 [V.agg [V.row 0,V.row 1],vD a,vD b] [.row 1 p,.row 1 q])
def jh3:=hd 84 111010 ([vD a,vD b]++tp 4++[vP 0,vP 1,vT,vR 2,vD c]) 43 [.box [vD d,vD e],.box [vD f,vD g],.row 1 p]
def jo3:=MM K (.callv 85 [vP 0] [.box [vD a,vD b,vD c]])
def je5:=MM K (.callv 86 [vP 0,vD a] [.box [vD b,vD c,vD d]])
def YH:=hs (some [0]) 86 111010 ([vP 0]++tp 4++[vR 1,vD a]) 40 [.box [vD b,vD c,vD d],.row 3 p]
def jo5:=hd 88 111100 (tp 4++[vP 0,vT,vP 1,vR 2]) 115 [.box [vR 3],.box [vR 4],.row 4 p,.row 3 q,.row 3 r]
def jh4:=hd 88 111100 (tp 4++[vP 0,vT,vP 1,V.win 2 4 (kU a) (kU b)]) 115 [.box [vR 3],.box [vR 4],.row 4 p,.row 3 q,.fro 3 r]
def ZN:=hd 88 111100 (tp 4++[vP 0,vT,vP 1,V.win 2 4 (kU a) (kU b)]) 115 [.box [vR 3],.box [vD c],.row 4 p,.row 3 q]
def jl7:=hd 88 1111000101110111111111010 (tp 4++[vP 0,vT,vP 1,V.win 2 4 (kU a) (kU b),vT,vT,vP 3,vT,vT,vT,vR 6]++tp 32++[vD c,vD d,vD e]) 73 [.box [vR 4],.box [vR 5],.row 4 p,.box [vD f,vD g],.row 3 q,.fro 3 r,.row 4 s]
def jl8:=hd 88 1111000101110111111111010 (tp 4++[vP 0,vT,vP 1,V.win 2 4 (kU a) (kU b),vT,vT,vP 3,vT,vT,vT,vR 5]++tp 32++[vD c,vD d,vD e]) 73 [.box [vR 4],.box [vD f],.row 4 p,.box [vD g,vD h],.row 3 q,.row 4 r]
def jo6:=hd 88 1111000101110111111111010 (tp 4++[vP 0,vT,vP 1,V.win 2 4 (kU a) (kU b),vT,vT,vP 3,vT,vT,vT,vR 4]++tp 32++[vD c,vD d,vD e]) 73 [.box [vR 5],.box [vR 6],.row 4 p,.box [vD f,vD g],.row 4 q,.row 3 r,.fro 3 s]
def jc9:=hd 88 111100 (tp 4++[vP 0,vT,vP 1,vR 2]) 115 [.box [vR 3],.box [vR 4],.row 4 p,.row 3 q,.fro 3 r]
def jo7:=hd 88 1111000101110111111111010 (tp 4++[vP 0,vT,vP 1,V.win 2 4 (kU a) (kU b),vT,vT,vP 3,vT,vT,vT,vR 4]++tp 32++[vD c,vD d,vD e]) 73 [.box [vR 5],.box [vD f],.row 4 p,.box [vD g,vD h],.row 4 q,.row 3 r]
def je8:=hd 88 111100 (tp 4++[vP 0,vT,vP 1,vR 2]) 115 [.box [vR 3],.box [vD a],.row 4 p,.row 3 q]
def jlO:=MM K (.callv 90 [vR 0] [.row 1 p])
def jcA:=hs (some [0]) 90 111010 ([vR 0,vT,vT,vD a]++tp 5++[vR 0,vD b,vD c]) 24 [.row 1 p]
def Q5:=hs (some [1]) 90 11111010 (tp 6++[vR 0]++tp 18++[vR 1,vD a,vD b]) 8 [.row 3 p,.row 1 q]
def jo8:=hd 96 1111100 (tp 4++[vP 0,vT,vP 1,vP 2,vR 3]) 140 [.box [vR 4],.box [vR 5],.box [vR 6],.row 4 p,.row 3 q,.row 3 r,.row 3 s]
def jh5:=hd 96 1111100 (tp 4++[vP 0,vT,vP 1,vP 2,V.win 3 4 (kU a) (kU b)]) 140 [.box [vR 4],.box [vR 5],.box [vR 6],.row 4 p,.row 3 q,.row 3 r,.fro 3 s]
def ZO:=hd 96 1111100 (tp 4++[vP 0,vT,vP 1,vP 2,V.win 3 4 (kU a) (kU b)]) 140 [.box [vR 4],.box [vR 5],.box [vD c],.row 4 p,.row 3 q,.row 3 r]
def jl9:=hd 96 1111100010111110011111111111010 (tp 4++[vP 0,vT,vP 1,vP 2,V.win 3 4 (kU a) (kU b),vP 4,vT,vP 5,vT,vD c,vR 9,vD d]) 133 [.box [vR 6],.box [vR 7],.box [vR 8],.row 4 p,.box [vD e,vD f],.box [vD g,vD h],.row 3 q,.row 3 r,.fro 3 s,.row 4 t]
def jma:=hd 96 1111100010111110011111111111010 (tp 4++[vP 0,vT,vP 1,vP 2,V.win 3 4 (kU a) (kU b),vP 4,vT,vP 5,vT,vD c,vR 8,vD d]) 133 [.box [vR 6],.box [vR 7],.box [vD e],.row 4 p,.box [vD f,vD g],.box [vD h,vD i],.row 3 q,.row 3 r,.row 4 s]
def jo9:=hd 96 1111100010111110011111111111010 (tp 4++[vP 0,vT,vP 1,vP 2,V.win 3 4 (kU a) (kU b),vP 4,vT,vP 5,vT,vD c,vR 6,vD d]) 133 [.box [vR 7],.box [vR 8],.box [vR 9],.row 4 p,.box [vD e,vD f],.box [vD g,vD h],.row 4 q,.row 3 r,.row 3 s,.fro 3 t]
def jda:=hd 96 1111100 (tp 4++[vP 0,vT,vP 1,vP 2,vR 3]) 140 [.box [vR 4],.box [vR 5],.box [vR 6],.row 4 p,.row 3 q,.row 3 r,.fro 3 s]
def jpa:=hd 96 1111100010111110011111111111010 (tp 4++[vP 0,vT,vP 1,vP 2,V.win 3 4 (kU a) (kU b),vP 4,vT,vP 5,vT,vD c,vR 6,vD d]) 133 [.box [vR 7],.box [vR 8],.box [vD e],.row 4 p,.box [vD f,vD g],.box [vD h,vD i],.row 4 q,.row 3 r,.row 3 s]
def je9:=hd 96 1111100 (tp 4++[vP 0,vT,vP 1,vP 2,vR 3]) 140 [.box [vR 4],.box [vR 5],.box [vD a],.row 4 p,.row 3 q,.row 3 r]
def jhS:=MM K (.callv 98 [vD a,vD b] [])
def jmb:=hd 99 111010 [vT,vT,vP 0,vP 1,vT,vD a] 43 [.box [vD b],.box [vD c]]
def e_2 (c:Out) (a:A) (p:List (List A)) (d:Nat) (b:A):Option Out:=zh c λc=>(j7 (kD (K.at 103) 118) [sv [],sv [],A.sl 2 []] [(0,a),(1,c)]).bind λa=>jc 3 a λa=>brn (jB ((jh (zC p 0 (jT d 0)))+(jh [[jb a 0,jb a 1,jb a 2]])) 56) (kB (zx p) (kZ p 0) none λc=>kB 0 c (some b) λb=>brn (jB ((jh (jL (zC p 0 (jT d 0)) [[jb a 0,jb a 1,jb a 2]]))+(jh (zC p (0+b) (jT c b)))) 56) (some (A.top,[A.sl 3 (jL (jL (zC p 0 (jT d 0)) [[jb a 0,jb a 1,jb a 2]]) (zC p (0+b) (jT c b)))])) none) none
def e_1 (p:List (List A)) (a:A) (b:A) (c:A) (d:A):Option Out:=kB (zx p) (kZ p 0) (some a) λe=>brn (jB (jh (zC p 0 (jT e 0))) 56) ((G 102 [A.agg [b,c]]).bind λb=>e_2 b d p e a) none
def e_0 (a:A) (b:A) (c:A) (d:A) (e:A) (f:A) (p:List (List A)) (q:List (List A)):Option Out:=jN a b λg=>kI a (jp .lss false c g) λc=>zK a c (vb false) (jm d (vi 1) λa=>jcU b a e f p q) (e_1 p d e f b)
def e_3 (a:A) (b:A) (c:A) (d:A) (e:A) (f:A) (p:List (List A)) (q:List (List A)):Option Out:=jN a b λg=>kI a (jp .lss false c g) λc=>zK a c (vb false) (jm d (vi 1) λa=>ZJ b a e f p q) (e_1 p d e f b)
def e_4 (a:A) (b:A) (c:A) (d:A) (e:A) (p:List (List A)) (q:List (List A)) (r:List (List A)):Option Out:=jN a b λf=>kI a (jp .lss false c f) λc=>zK a c (vb false) (jm d (vi 1) λa=>ZK b a e p q r) (kB (zx p) (kZ p 0) (some d) λa=>brn (jB (jh (zC p 0 (jT a 0))) 56) ((G 102 [A.agg [e,A.sl 2 q]]).bind λc=>e_2 c b p a d) none)
def e_5 (a:A) (b:A) (c:A) (d:A) (p:List (List A)):Option Out:=brn (jK a) (some (A.top,[b,c,d,a,A.sl 2 p])) none
def e_6 (a:A) (b:A) (c:A):Option Out:=(yV a b c [[sv [88]],[sv [89]],[sv [90]],[sv [97]],[sv [98]],[sv [88]],[sv [97]]]).bind λa=>jH a 0 λb=>jH a 1 λc=>jH a 2 λd=>jH a 3 λa=>brn (jK a) (brn (jK a) (some (A.top,[b,c,d,a,A.sl 2 []])) none) none
def e_7 (a:A) (b:A) (c:A) (d:A):Option Out:=(KM (vi 2) a b c).bind λa=>jH a 0 λb=>jH a 1 λc=>jH a 2 λe=>jH a 3 λa=>yT a (qB d (vi 1) λa=>(yG a b c e).bind λa=>jH a 0 λb=>jH a 1 λc=>jH a 2 λd=>jH a 3 λe=>Jl 2 a 4 λa=>brn (jK e) (some (A.top,[b,c,d,sv [102],A.sl 2 [[e,A.sl 2 a]]])) none) (qB d (vi 1) λa=>(yG a b c e).bind λa=>jH a 0 λb=>jH a 1 λc=>jH a 2 λe=>jH a 3 λf=>Jl 2 a 4 λa=>qB d (vi 1) λd=>(yG d b c e).bind λb=>jH b 0 λc=>jH b 1 λd=>jH b 2 λe=>jH b 3 λg=>Jl 2 b 4 λb=>brn (jK f) (brn (jK g) (some (A.top,[c,d,e,sv [103],A.sl 2 [[f,A.sl 2 a],[g,A.sl 2 b]]])) none) none)
def e_8 (a:A) (b:A) (c:A):Option Out:=jmE a (A.val (.int .u64 40)) λd=>(jp .and false d (A.val (.int .u64 255))).bind λd=>(Js .i64 d).bind λd=>some (A.top,[b,c,a,d])
def e_9 (a:A) (b:A) (c:A) (d:A):Option Out:=yT a (yT b (je (vi 0)) (je (vi (- 1)))) (yT b (je (vi 1)) (jI c d (je (vi (- 1))) (zD c d (je (vi 1)) (je (vi 0)))))
def jsy (a:A) (p:List (List A)):Option Out:=brn (jK a) (brn (jB ((jh p)+(jh [[a]])) 16) (some (A.top,[A.sl 1 (jL p [[a]])])) none) none
def jsz (a:A) (b:A) (c:A) (p:List (List A)):Option Out:=jI a b (qx 2 2 c a λd=>jc 2 d λd=>(jgh (jb d 0) (jb d 1) p).bind λd=>Jl 1 d 0 λd=>jm a (vi 1) λa=>QX c b a d) (some (A.top,[A.sl 1 p]))
def jsA (a:A):Option Out:=brn (jK a) (brn (jK a) (je (A.agg [a,A.sl 2 []])) none) none
def jsB (a:A) (b:A) (p:List (List A)) (c:A):Option Out:=KE a b (qx 2 2 b a λd=>(jgi d p).bind λd=>Jl 1 d 0 λd=>jm a (vi 1) λa=>QZ a c b d) (some (A.top,[A.sl 1 p]))
def jsC (a:A) (b:A) (c:A):Option Out:=Qm a b λb=>jN b a λa=>jN b c λc=>kI b (jp .leq false a c) λa=>j9 b a (vb false) λa=>je a
def jsD (a:A) (b:List A):Option Out:=KF a (je (A.tup [A.agg [sv [],A.sl 2 []],vb false])) (brn (jK (jb b 0)) (brn (jK (jb b 1)) (je (A.tup [kq b,vb true])) none) none)
def jsE (a:A) (b:A) (p:List (List A)) (c:A):Option Out:=KE a b (qx 2 2 b a λd=>(jhQ d p).bind λd=>Jl 1 d 0 λd=>jm a (vi 1) λa=>jcy a c b d) (some (A.top,[A.sl 1 p]))
def jnA (a:A) (b:List A):Option Out:=KF a (je (A.tup [A.agg [A.sl 3 []],vb false])) (brn (jK (jb b 0)) (je (A.tup [jX b,vb true])) none)
def jkL (a:A) (b:A) (c:A) (d:A) (p:List (List A)):Option Out:=brn (jK a) (some (A.top,[b,c,d,A.agg [a,A.sl 2 p]])) none
def jsF (a:List A):Option Out:=brn (jK (jb a 0)) (brn (jK (jb a 0)) (je (A.agg [jb a 0,A.sl 2 []])) none) none
def jsG (a:A) (b:A) (c:A) (d:A) (p:List (List A)) (e:A) (f:A) (q:List (List A)):Option Out:=jI a b (qx 2 2 c a λg=>jc 2 g λg=>kF 178 [A.agg [d],kq g] λg=>qV (jh p) a λh=>jc 2 g λg=>kRG p h λi=>jm a (vi 1) λa=>jkr c b a d e f q (J2 p h (Kh i 0 [jb g 0,jb g 1]))) (brn (jK f) (je (A.agg [f,A.sl 2 p])) none)
def jsH (f:Out) (p:List (List A)) (a:A) (b:A) (c:A) (d:A) (e:A) (q:List (List A)):Option Out:=zh f λf=>(G 32 [f]).bind λf=>zh f λf=>kH f 0 λg=>kH f 1 λ_=>jc 1 g λf=>brn (jK (jb f 0)) (brn (jB ((jh p)+(jh [[jb f 0]])) 24) (jm a (vi 1) λa=>jp3 a b c d e (jL p [[jb f 0]]) q) none) none
def jpD (a:A) (b:A) (c:A) (d:A) (e:A) (p:List (List A)) (q:List (List A)):Option Out:=(jlM a b c).bind λa=>jH a 0 λb=>jH a 1 λc=>jH a 2 λf=>jH a 3 λa=>Kd 2 3 d e 1 λg=>(G 50 [a,g]).bind λa=>zh a λa=>(j7 (kD (K.at 21) 42) [vb false,sv [],A.sl 2 []] [(0,vb true),(1,a)]).bind λa=>jc 3 a λa=>(KM (vi 3) b c f).bind λb=>jH b 0 λc=>jH b 1 λf=>jH b 2 λg=>jH b 3 λb=>yT b ((KM (vi 8) c f g).bind λb=>jH b 0 λc=>jH b 1 λf=>jH b 2 λg=>jH b 3 λb=>QA b λb=>(joZ c f g).bind λc=>jH c 0 λf=>jH c 1 λg=>jH c 2 λh=>jH c 3 λi=>Jl 2 c 4 λc=>brn (jK b) (brn (jK i) (brn (jK b) (brn (jK i) ((G 53 [A.sl 3 (jL [[jb a 0,jb a 1,jb a 2]] [[b,i,A.sl 2 c]])]).bind λa=>jsH a p e f g h d q) none) none) none) none) ((G 53 [A.sl 3 [[jb a 0,jb a 1,jb a 2]]]).bind λa=>jsH a p e c f g d q)
def jsI (a:Out):Option Out:=jH a 0 λb=>jH a 1 λc=>jH a 2 λd=>jH a 3 λa=>jc 1 a λa=>some (A.top,[b,c,d,jX a])
def jsJ (a:A) (b:A) (c:A):Option Out:=(jo3 a b c).bind λa=>jsI a
def jsK (a:A) (b:A) (c:A):Option Out:=(jhR a b c).bind λa=>jsI a
def jnB (d:Out) (a:A) (b:A) (c:A):Option Out:=zh d λd=>kH d 0 λe=>kH d 1 λ_=>jc 1 e λd=>brn (jK (jb d 0)) (some (A.top,[a,b,c,jX d])) none
def jsL (a:A) (b:A) (c:A) (d:A):Option Out:=j6 a λe=>(qh e b c d).bind λb=>jH b 0 λc=>jH b 1 λd=>jH b 2 λe=>jH b 3 λb=>qx 3 3 a b λa=>jc 3 a λa=>(je5 (vi 2) c d e).bind λb=>jH b 0 λc=>jH b 1 λd=>jH b 2 λe=>Jl 3 b 3 λb=>QA (jb a 0) λf=>(jlM c d e).bind λc=>jH c 0 λd=>jH c 1 λe=>jH c 2 λg=>jH c 3 λc=>(G 50 [c,A.agg [jb a 1,jb a 2]]).bind λa=>zh a λa=>(j7 (kD (K.at 40) 42) [vb false,sv [],A.sl 2 []] [(0,f),(1,a)]).bind λa=>jc 3 a λa=>brn (jB ((jh b)+(jh [[jb a 0,jb a 1,jb a 2]])) 48) ((G 53 [A.sl 3 (jL b [[jb a 0,jb a 1,jb a 2]])]).bind λa=>zh a λa=>jc 1 a λa=>kF 31 [jX a] λb=>KF b (jsJ d e g) ((G 32 [jX a]).bind λa=>jnB a d e g)) none
def jsN (d:List A) (a:A) (b:A) (c:A):Option Out:=j6 (jb d 0) λe=>kF 94 [e,vi 1] λe=>jm e (vi 1) λf=>(qh f a b c).bind λa=>jH a 0 λb=>jH a 1 λc=>jH a 2 λf=>jH a 3 λa=>jm e (vi 1) λe=>(qh e b c f).bind λb=>jH b 0 λ_=>jH b 1 λ_=>jH b 2 λ_=>jH b 3 λb=>brn (jK (jb d 0)) (je (A.tup [jX d,a,b])) none
def jsM (d:List A) (a:A) (b:A) (c:A):Option Out:=j6 (jb d 0) λe=>(qh e a b c).bind λa=>jH a 0 λb=>jH a 1 λc=>jH a 2 λe=>jH a 3 λa=>qx 3 3 (jb d 0) a λa=>jc 3 a λa=>kRs 3 (jb d 0) λf=>brn (jB (jh f) 48) ((jlM b c e).bind λb=>jH b 0 λc=>jH b 1 λe=>jH b 2 λg=>jH b 3 λb=>(G 50 [b,A.agg [jb a 1,jb a 2]]).bind λb=>zh b λb=>(j7 (kD (K.at 45) 42) [vb false,sv [],A.sl 2 []] [(0,jb a 0),(1,b)]).bind λa=>jc 3 a λa=>brn (jB ((jh f)+(jh [[jb a 0,jb a 1,jb a 2]])) 48) ((G 53 [A.sl 3 (jL f [[jb a 0,jb a 1,jb a 2]])]).bind λa=>zh a λa=>jc 1 a λa=>kF 31 [jX a] λb=>yT b ((G 32 [jX a]).bind λa=>zh a λa=>kH a 0 λb=>kH a 1 λ_=>jc 1 b λa=>jsN a c e g) (jsN d c e g)) none) none
def jsO (a:A) (b:A) (c:A) (d:A) (e:A) (p:List (List A)):Option Out:=j4 a b λf=>j4 a c λg=>kR a (jq 1 f g) λf=>kR a (jZ 1 f) λf=>Kc a 99 [d,f] λd=>j9 a (vb true) d λa=>jm e (vi 1) λd=>jh0 b c a d p
def jsP (a:A) (b:A) (c:A) (d:List A):Option Out:=kI a (JM .not b) λb=>zK a b (vb false) (je (vb false)) (jyT c (vi 0) (jb d 0))
def jsQ (a:A) (b:A) (d:List A) (c:A):Option Out:=ji a true λ_=>zS a 14 [b,A.val undef,jX d] λb=>jsP a b c d
def jsR (a:A) (b:A) (c:A):Option Out:=(JP a b c).bind λa=>jH a 0 λb=>jH a 1 λc=>jH a 2 λd=>jH a 3 λe=>Jl 2 a 4 λa=>(JP b c d).bind λb=>jH b 0 λc=>jH b 1 λd=>jH b 2 λf=>jH b 3 λg=>Jl 2 b 4 λb=>brn (jK e) (brn (jK g) (some (A.top,[c,d,f,sv [61],A.sl 2 [[e,A.sl 2 a],[g,A.sl 2 b]]])) none) none
def jsT (a:A) (b:A) (c:A):Option Out:=(yG (vi 2) a b c).bind λa=>jH a 0 λb=>jH a 1 λc=>jH a 2 λd=>jH a 3 λe=>Jl 2 a 4 λa=>(yG (vi 2) b c d).bind λb=>jH b 0 λc=>jH b 1 λd=>jH b 2 λf=>jH b 3 λg=>Jl 2 b 4 λb=>brn (jK e) (brn (jK g) (some (A.top,[c,d,f,sv [113],A.sl 2 [[e,A.sl 2 a],[g,A.sl 2 b]]])) none) none
def jsU (a:A) (b:A) (c:A):Option Out:=(yG (vi 2) a b c).bind λa=>jH a 0 λb=>jH a 1 λc=>jH a 2 λd=>jH a 3 λe=>Jl 2 a 4 λa=>brn (jK e) (some (A.top,[b,c,d,sv [112],A.sl 2 [[e,A.sl 2 a]]])) none
def jsS (a:A) (b:A) (c:A) (d:A):Option Out:=kS a (vi 2) (some (A.top,[b,c,d,sv [114],A.sl 2 []])) (zR a (vi 3) λe=>yT e (yT e (jsT b c d) (jsU b c d)) (kS a (vi 4) (jsT b c d) (jsU b c d)))
def jsW (a:A) (b:A) (c:A) (d:A) (p:List (List A)) (q:List (List A)) (e:A):Option Out:=jN a b λf=>jN a c λg=>kI a (jq 3 f g) λf=>kI a (jZ 3 f) λf=>zS a 77 [d,f] λd=>kI a (jp .eql false d (vi 0)) λd=>zK a d (vb false) (jm c (vi 1) λa=>je7 b a p q) (jcr 3 b c 0 λa=>Kd 2 3 b c 1 λd=>(G 102 [d]).bind λd=>zh d λd=>(j7 (kD (K.at 53) 42) [vb false,sv [],A.sl 2 []] [(0,a),(1,d)]).bind λa=>jc 3 a λa=>kB (zx p) (kZ p 0) (some e) λd=>brn (jB (jh (zC p 0 (jT d 0))) 48) (brn (jK (jb a 0)) (brn (jK (jb a 1)) (brn (jK (jb a 2)) (brn (jB ((jh (zC p 0 (jT d 0)))+(jh [[jb a 0,jb a 1,jb a 2]])) 48) (kB (zx p) (kZ p 0) none λf=>kB 0 f (some e) λe=>brn (jB ((jh (jL (zC p 0 (jT d 0)) [[jb a 0,jb a 1,jb a 2]]))+(jh (zC p (0+e) (jT f e)))) 48) (jm c (vi 1) λc=>je7 b c (jL (jL (zC p 0 (jT d 0)) [[jb a 0,jb a 1,jb a 2]]) (zC p (0+e) (jT f e))) q) none) none) none) none) none) none)
def jsV (a:A) (b:A) (c:A) (d:A) (e:A) (p:List (List A)) (q:List (List A)):Option Out:=jN a b λf=>jN a c λg=>kI a (jq 3 f g) λf=>kI a (jZ 3 f) λf=>zS a 77 [d,f] λd=>kI a (jp .lss false d (vi 0)) λd=>zK a d (vb false) (jm e (vi 1) λa=>jl0 b c a p q) (qA e (zv p) λa=>ji a true λ_=>jN a e λd=>ji a true λf=>brn f (qV (jh p) d λd=>kI a (z7 p d 0 3) λd=>jsW a b c d p q e) (kI a (jZ 3 (A.val undef)) λd=>jsW a b c d p q e))
def js0 (a:A) (b:A) (c:A) (d:A) (p:List (List A)) (q:List (List A)) (r:List (List A)) (e:A):Option Out:=zS a 77 [b,c] λb=>kI a (jp .eql false b (vi 0)) λb=>zK a b (vb false) (jm d (vi 1) λa=>YF a p q r) (qV (jh p) d λa=>kRP p a 0 λa=>qV (jh p) d λb=>kRN p b 1 2 λb=>(G 102 [b]).bind λb=>zh b λb=>(j7 (kD (K.at 53) 42) [vb false,sv [],A.sl 2 []] [(0,a),(1,b)]).bind λa=>jc 3 a λa=>kB (zx q) (kZ q 0) (some e) λb=>brn (jB (jh (zC q 0 (jT b 0))) 48) (brn (jK (jb a 0)) (brn (jK (jb a 1)) (brn (jK (jb a 2)) (brn (jB ((jh (zC q 0 (jT b 0)))+(jh [[jb a 0,jb a 1,jb a 2]])) 48) (kB (zx q) (kZ q 0) none λc=>kB 0 c (some e) λe=>brn (jB ((jh (jL (zC q 0 (jT b 0)) [[jb a 0,jb a 1,jb a 2]]))+(jh (zC q (0+e) (jT c e)))) 48) (jm d (vi 1) λd=>YF d p (jL (jL (zC q 0 (jT b 0)) [[jb a 0,jb a 1,jb a 2]]) (zC q (0+e) (jT c e))) r) none) none) none) none) none) none)
def jsZ (a:A) (b:A) (p:List (List A)) (c:A) (q:List (List A)) (r:List (List A)) (d:A):Option Out:=ji a true λ_=>jN a b λe=>ji a true λf=>brn f (qV (jh p) e λe=>kI a (z7 p e 0 3) λe=>js0 a c e b p q r d) (kI a (jZ 3 (A.val undef)) λe=>js0 a c e b p q r d)
def jsY (a:A) (b:A) (c:A) (d:A) (e:A) (p:List (List A)) (q:List (List A)) (r:List (List A)):Option Out:=zS a 77 [b,c] λb=>kI a (jp .lss false b (vi 0)) λb=>zK a b (vb false) (jm d (vi 1) λa=>jcz e a p q r) (qA d (zv q) λa=>ji a true λ_=>jN a d λb=>ji a true λc=>brn c (qV (jh q) b λb=>kI a (z7 q b 0 3) λb=>jsZ a e p b q r d) (kI a (jZ 3 (A.val undef)) λb=>jsZ a e p b q r d))
def jsX (a:A) (b:A) (p:List (List A)) (c:A) (d:A) (q:List (List A)) (r:List (List A)):Option Out:=ji a true λ_=>jN a b λe=>ji a true λf=>brn f (qV (jh p) e λe=>kI a (z7 p e 0 3) λe=>jsY a c e d b p q r) (kI a (jZ 3 (A.val undef)) λe=>jsY a c e d b p q r)
def js1 (a:A) (b:A) (c:A) (d:A) (e:A):Option Out:=(jp .rem false a b).bind λa=>some (A.top,[c,d,e,a])
def js2 (a:A) (p:List (List A)) (b:A) (c:A) (d:A):Option Out:=jc 3 a λa=>brn (jB ((jh p)+(jh [[jb a 0,jb a 1,jb a 2]])) 48) (some (A.top,[b,c,d,A.agg [A.sl 3 (jL p [[jb a 0,jb a 1,jb a 2]])]])) none
def js3 (p:List (List A)) (a:A) (b:A) (c:A):Option Out:=(qh (zv p) a b c).bind λa=>jH a 0 λb=>jH a 1 λc=>jH a 2 λd=>jH a 3 λa=>qV (jh p) a λa=>kRN p a 0 3 λa=>jc 3 a λa=>QA (jb a 0) λe=>(G 102 [A.agg [jb a 1,jb a 2]]).bind λa=>zh a λa=>(j7 (kD (K.at 86) 42) [vb false,sv [],A.sl 2 []] [(0,e),(1,a)]).bind λa=>jc 3 a λa=>brn (jB ((jh p)+(jh [[jb a 0,jb a 1,jb a 2]])) 48) (some (A.top,[b,c,d,A.sl 3 (jL p [[jb a 0,jb a 1,jb a 2]])])) none
def js5 (a:Out) (b:Nat) (c:Nat) (p:List (List A)) (q:List (List A)):Option Out:=zh a λa=>kH a 0 λd=>kH a 1 λa=>jc 1 d λd=>KF a (je (A.tup [A.agg [A.sl 3 []],vb false])) (ZN (nA (0+b)) (nA (jT c b)) (jb d 0) p q)
def js4 (p:List (List A)) (q:List (List A)) (r:List (List A)):Option Out:=zD (zv p) (vi 0) (qV (jh p) (vi 0) λa=>kRN p a 0 2 λa=>(G 139 [A.agg [A.sl 3 q],a]).bind λa=>zh a λa=>kH a 0 λb=>kH a 1 λa=>jc 2 b λb=>qV (jh p) (vi 0) λc=>kRN p c 2 2 λc=>(G 139 [A.agg [A.sl 3 q],c]).bind λc=>zh c λc=>kH c 0 λd=>kH c 1 λc=>jc 2 d λd=>kB (zx p) (kZ p 0) none λe=>kB 0 e (some (vi 1)) λf=>QA a λa=>j4 a c λc=>kR a (JM .not c) λc=>zK a (vb true) c (je (A.tup [A.agg [A.sl 3 []],vb false])) (kF 140 [kq b,kq d] λa=>yT a (jh4 (nA (0+f)) (nA (jT e f)) p r q) (kF 141 [kq b] λa=>ji a false λ_=>Kc a 141 [kq d] λc=>zK a (vb true) c (brn (jK (jb b 0)) (brn (jK (jb b 1)) (brn (jK (jb d 0)) (brn (jK (jb d 1)) (kF2 142 [A.agg [jb b 0,jb b 1,jb d 0,jb d 1]] λa b=>jc 1 a λa=>KF b (je (A.tup [A.agg [A.sl 3 []],vb false])) ((G 143 [A.agg [A.sl 3 q],jX a]).bind λa=>js5 a f e p r)) none) none) none) none) (KW (jb b 0) (jb d 0) λa=>ji a false λ_=>j4 a (jb b 1) λc=>kR a (zu c) λc=>ji a false λ_=>j4 a (jb d 1) λg=>kR a (zu g) λg=>kR a (jp .neq false c g) λc=>zK a (vb true) c (je (A.tup [A.agg [A.sl 3 []],vb false])) (j6 (jb b 1) λa=>jl7 (nA (0+f)) (nA (jT e f)) (jb b 1) a (vi 0) (jb d 0) (jb d 1) p r q []))))) (je (A.tup [A.agg [A.sl 3 q],vb true]))
def js6 (b:Out) (a:A) (c:Nat) (d:Nat) (p:List (List A)) (q:List (List A)):Option Out:=zh b λb=>kH b 0 λe=>kH b 1 λb=>jc 1 e λe=>KF b (je (A.tup [A.agg [A.sl 3 []],vb false])) (ZN (nA ((kU a)+c)) (nA (jT d c)) (jb e 0) p q)
def js7 (a:A) (b:A) (c:A) (d:A) (p:List (List A)) (e:A) (f:A) (g:A) (q:List (List A)) (r:List (List A)) (s:List (List A)):Option Out:=jI a b (qx 2 2 c a λh=>jc 2 h λh=>qx 2 2 d a λi=>brn (jK (jb h 0)) (brn (jK (jb h 1)) (jc 2 i λi=>brn (jK (jb h 0)) (brn (jK (jb h 1)) (brn (jK (jb i 0)) (brn (jK (jb i 1)) (brn (jB ((jh p)+(jh [[jb h 0,jb h 1,jb i 0,jb i 1]])) 80) (jm a (vi 1) λa=>jo6 (nA (kU e)) (nA (kU f)) c b a g d q (jL p [[jb h 0,jb h 1,jb i 0,jb i 1]]) r s) none) none) none) none) none) none) none) (brn (jB ((jh p)+(jh (zC q (kU e) (kU f)))) 80) (jc9 (jL p (zC q (kU e) (kU f))) r s) none)
def jpE (a:A) (b:A) (c:A) (d:A) (p:List (List A)) (e:A) (f:A) (g:A) (h:A) (q:List (List A)) (r:List (List A)):Option Out:=jI a b (qx 2 2 c a λi=>jc 2 i λi=>qx 2 2 d a λj=>brn (jK (jb i 0)) (brn (jK (jb i 1)) (jc 2 j λj=>brn (jK (jb i 0)) (brn (jK (jb i 1)) (brn (jK (jb j 0)) (brn (jK (jb j 1)) (brn (jB ((jh p)+(jh [[jb i 0,jb i 1,jb j 0,jb j 1]])) 80) (jm a (vi 1) λa=>jo7 (nA (kU e)) (nA (kU f)) c b a g h d q (jL p [[jb i 0,jb i 1,jb j 0,jb j 1]]) r) none) none) none) none) none) none) none) (brn (jB ((jh p)+(jh (zC q (kU e) (kU f)))) 80) (je8 g (jL p (zC q (kU e) (kU f))) r) none)
def js9 (a:Out) (p:List (List A)) (b:Nat) (c:Nat) (q:List (List A)) (r:List (List A)):Option Out:=zh a λa=>kH a 0 λd=>kH a 1 λa=>jc 1 d λd=>KF a (je (A.tup [A.agg [A.sl 3 p],vb false])) (ZO (nA (0+b)) (nA (jT c b)) (jb d 0) q r p)
def jpF (p:List (List A)) (a:List A) (b:List A) (q:List (List A)) (c:Nat) (d:Nat) (r:List (List A)) (s:List (List A)):Option Out:=(G 152 [A.agg [A.sl 3 p],jb a 0,kq b]).bind λa=>js9 a q c d r s
def js8 (p:List (List A)) (q:List (List A)) (r:List (List A)) (s:List (List A)):Option Out:=zD (zv p) (vi 0) (qV (jh p) (vi 0) λa=>kRN p a 0 2 λa=>(G 150 [A.agg [A.sl 3 q],a]).bind λa=>zh a λa=>kH a 0 λb=>kH a 1 λa=>jc 2 b λb=>qV (jh p) (vi 0) λc=>kRN p c 2 2 λc=>(G 150 [A.agg [A.sl 3 q],c]).bind λc=>zh c λc=>kH c 0 λd=>kH c 1 λc=>jc 2 d λd=>QA a λa=>j4 a c λc=>kR a (JM .not c) λc=>zK a (vb true) c (je (A.tup [A.agg [A.sl 3 r],vb false])) (kB (zx p) (kZ p 0) none λa=>kB 0 a (some (vi 1)) λc=>kF 151 [kq b,kq d] λe=>yT e (KF (vb true) (je (A.tup [A.agg [A.sl 3 r],vb false])) (jh5 (nA (0+c)) (nA (jT a c)) p s r q)) (kF 100 [jb b 0] λe=>ji e true λ_=>jN e (jb d 0) λf=>zS e 100 [f] λf=>j9 e f (vb false) λe=>ji e true λ_=>jN e (jb b 0) λf=>ji e true λ_=>jN e (jb d 0) λg=>kI e (jp .lss false f g) λf=>zK e f (vb false) (jpF q d b r c a p s) (kF 100 [jb b 0] λe=>yT e (jpF q b d r c a p s) (kF 100 [jb d 0] λe=>yT e (jpF q d b r c a p s) (KW (jb b 0) (jb d 0) λe=>ji e false λ_=>j4 e (jb b 1) λf=>kR e (zu f) λf=>ji e false λ_=>j4 e (jb d 1) λg=>kR e (zu g) λg=>kR e (jp .neq false f g) λf=>zK e (vb true) f (je (A.tup [A.agg [A.sl 3 r],vb false])) (jl9 (nA (0+c)) (nA (jT a c)) (vb true) (vi 0) (jb b 0) (jb b 1) (jb d 0) (jb d 1) p s r q []))))))) (je (A.tup [A.agg [A.sl 3 q],vb true]))
def jta (b:Out) (p:List (List A)) (a:A) (c:Nat) (d:Nat) (q:List (List A)) (r:List (List A)):Option Out:=zh b λb=>kH b 0 λe=>kH b 1 λb=>jc 1 e λe=>KF b (je (A.tup [A.agg [A.sl 3 p],vb false])) (ZO (nA ((kU a)+c)) (nA (jT d c)) (jb e 0) q r p)
def jpG (p:List (List A)) (b:List A) (c:List A) (q:List (List A)) (a:A) (d:Nat) (e:Nat) (r:List (List A)) (s:List (List A)):Option Out:=(G 152 [A.agg [A.sl 3 p],jb b 0,kq c]).bind λb=>jta b q a d e r s
def jtb (a:A) (c:List A) (d:List A) (p:List (List A)) (b:A) (e:Nat) (f:Nat) (q:List (List A)) (r:List (List A)):Option Out:=(G 152 [A.agg [a],jb c 0,kq d]).bind λa=>jta a p b e f q r
def jpH (a:A) (b:A) (c:A) (p:List (List A)) (d:A) (e:A) (f:A) (g:A) (h:A) (q:List (List A)) (r:List (List A)) (s:List (List A)) (t:List (List A)):Option Out:=KE a b (qx 2 2 b a λi=>qx 2 2 c a λj=>(j7 (kD (K.at 96) 152) [sv [],A.sl 2 [],sv [],A.sl 2 []] [(0,i),(1,j)]).bind λi=>jc 4 i λi=>brn (jB ((jh p)+(jh [[jb i 0,jb i 1,jb i 2,jb i 3]])) 80) (jm a (vi 1) λa=>jo9 (nA (kU d)) (nA (kU e)) f a g b h c q (jL p [[jb i 0,jb i 1,jb i 2,jb i 3]]) r s t) none) (brn (jB ((jh p)+(jh (zC q (kU d) (kU e)))) 80) (KF f (je (A.tup [A.agg [A.sl 3 s],vb false])) (jda (jL p (zC q (kU d) (kU e))) r s t)) none)
def jBN (a:A) (b:A) (c:A) (p:List (List A)) (d:A) (e:A) (f:A) (g:A) (h:A) (i:A) (q:List (List A)) (r:List (List A)) (s:List (List A)):Option Out:=KE a b (qx 2 2 b a λj=>qx 2 2 c a λk=>(j7 (kD (K.at 96) 152) [sv [],A.sl 2 [],sv [],A.sl 2 []] [(0,j),(1,k)]).bind λj=>jc 4 j λj=>brn (jB ((jh p)+(jh [[jb j 0,jb j 1,jb j 2,jb j 3]])) 80) (jm a (vi 1) λa=>jpa (nA (kU d)) (nA (kU e)) f a g h b i c q (jL p [[jb j 0,jb j 1,jb j 2,jb j 3]]) r s) none) (brn (jB ((jh p)+(jh (zC q (kU d) (kU e)))) 80) (KF f (je (A.tup [A.agg [A.sl 3 s],vb false])) (je9 g (jL p (zC q (kU d) (kU e))) r s)) none)
def jBn (a:A) (b:List A) (c:List A) (p:List (List A)) (d:Nat) (e:Nat) (q:List (List A)) (r:List (List A)):Option Out:=(G 152 [A.agg [a],jb b 0,kq c]).bind λa=>js9 a p d e q r
theorem cev:type_of% (And.intro @jc.eq_1 (And.intro @kH.eq_1 (And.intro @j9.eq_1 (And.intro @ji.eq_1 (And.intro @j6.eq_1 (And.intro @kLN.eq_1 (And.intro @jN.eq_1 (And.intro @j4.eq_1 (And.intro @kI.eq_1 (And.intro @kR.eq_1 (And.intro @zS.eq_1 (And.intro @Kc.eq_1 (And.intro @kF.eq_1 (And.intro @zh.eq_1 (And.intro @kfn.eq_1 (And.intro @QA.eq_1 (And.intro @jH.eq_1 (And.intro @Jl.eq_1 (And.intro @qV.eq_1 (And.intro @kB.eq_1 (And.intro @kRN.eq_1 (And.intro @kRG.eq_1 (And.intro @kIS.eq_1 (And.intro @kSl.eq_1 (And.intro @kRP.eq_1 (And.intro @kMk.eq_1 (And.intro @kRs.eq_1 (And.intro @kLS.eq_1 (And.intro @jm.eq_1 (And.intro @zR.eq_1 (And.intro @Qm.eq_1 (And.intro @jfo.eq_1 (And.intro @jbP.eq_1 (And.intro @qA.eq_1 (And.intro @Qn.eq_1 (And.intro @KW.eq_1 (And.intro @jiJ.eq_1 (And.intro @jmE.eq_1 (And.intro @qB.eq_1 (And.intro @yT.eq_1 (And.intro @zK.eq_1 (And.intro @KF.eq_1 (And.intro @KE.eq_1 (And.intro @kF2.eq_1 (And.intro @kFN.eq_1 (And.intro @qx.eq_1 (And.intro @kIP.eq_1 (And.intro @Kd.eq_1 (And.intro @jcr.eq_1 (And.intro @jI.eq_1 (And.intro @jdF.eq_1 (And.intro @zD.eq_1 (And.intro @jdE.eq_1 (And.intro @kS.eq_1 (And.intro @qn.eq_1 (And.intro @je.eq_1 (And.intro @jX.eq_1 (And.intro @kq.eq_1 (And.intro @jg6.eq_1 (And.intro @e_2.eq_1 (And.intro @e_1.eq_1 (And.intro @e_0.eq_1 (And.intro @e_3.eq_1 (And.intro @e_4.eq_1 (And.intro @e_5.eq_1 (And.intro @e_6.eq_1 (And.intro @e_7.eq_1 (And.intro @e_8.eq_1 (And.intro @e_9.eq_1 (And.intro @jsy.eq_1 (And.intro @jsz.eq_1 (And.intro @jsA.eq_1 (And.intro @jsB.eq_1 (And.intro @jsC.eq_1 (And.intro @jsD.eq_1 (And.intro @jsE.eq_1 (And.intro @jnA.eq_1 (And.intro @jkL.eq_1 (And.intro @jsF.eq_1 (And.intro @jsG.eq_1 (And.intro @jsH.eq_1 (And.intro @jpD.eq_1 (And.intro @jsI.eq_1 (And.intro @jsJ.eq_1 (And.intro @jsK.eq_1 (And.intro @jnB.eq_1 (And.intro @jsL.eq_1 (And.intro @jsN.eq_1 (And.intro @jsM.eq_1 (And.intro @jsO.eq_1 (And.intro @jsP.eq_1 (And.intro @jsQ.eq_1 (And.intro @jsR.eq_1 (And.intro @jsT.eq_1 (And.intro @jsU.eq_1 (And.intro @jsS.eq_1 (And.intro @jsW.eq_1 (And.intro @jsV.eq_1 (And.intro @js0.eq_1 (And.intro @jsZ.eq_1 (And.intro @jsY.eq_1 (And.intro @jsX.eq_1 (And.intro @js1.eq_1 (And.intro @js2.eq_1 (And.intro @js3.eq_1 (And.intro @js5.eq_1 (And.intro @js4.eq_1 (And.intro @js6.eq_1 (And.intro @js7.eq_1 (And.intro @jpE.eq_1 (And.intro @js9.eq_1 (And.intro @jpF.eq_1 (And.intro @js8.eq_1 (And.intro @jta.eq_1 (And.intro @jpG.eq_1 (And.intro @jtb.eq_1 (And.intro @jpH.eq_1 (And.intro @jBN.eq_1 (@jBn.eq_1))))))))))))))))))))))))))))))))))))))))))))))))))))))))))))))))))))))))))))))))))))))))))))))))))))))))))))))))))))))):=And.intro @jc.eq_1 (And.intro @kH.eq_1 (And.intro @j9.eq_1 (And.intro @ji.eq_1 (And.intro @j6.eq_1 (And.intro @kLN.eq_1 (And.intro @jN.eq_1 (And.intro @j4.eq_1 (And.intro @kI.eq_1 (And.intro @kR.eq_1 (And.intro @zS.eq_1 (And.intro @Kc.eq_1 (And.intro @kF.eq_1 (And.intro @zh.eq_1 (And.intro @kfn.eq_1 (And.intro @QA.eq_1 (And.intro @jH.eq_1 (And.intro @Jl.eq_1 (And.intro @qV.eq_1 (And.intro @kB.eq_1 (And.intro @kRN.eq_1 (And.intro @kRG.eq_1 (And.intro @kIS.eq_1 (And.intro @kSl.eq_1 (And.intro @kRP.eq_1 (And.intro @kMk.eq_1 (And.intro @kRs.eq_1 (And.intro @kLS.eq_1 (And.intro @jm.eq_1 (And.intro @zR.eq_1 (And.intro @Qm.eq_1 (And.intro @jfo.eq_1 (And.intro @jbP.eq_1 (And.intro @qA.eq_1 (And.intro @Qn.eq_1 (And.intro @KW.eq_1 (And.intro @jiJ.eq_1 (And.intro @jmE.eq_1 (And.intro @qB.eq_1 (And.intro @yT.eq_1 (And.intro @zK.eq_1 (And.intro @KF.eq_1 (And.intro @KE.eq_1 (And.intro @kF2.eq_1 (And.intro @kFN.eq_1 (And.intro @qx.eq_1 (And.intro @kIP.eq_1 (And.intro @Kd.eq_1 (And.intro @jcr.eq_1 (And.intro @jI.eq_1 (And.intro @jdF.eq_1 (And.intro @zD.eq_1 (And.intro @jdE.eq_1 (And.intro @kS.eq_1 (And.intro @qn.eq_1 (And.intro @je.eq_1 (And.intro @jX.eq_1 (And.intro @kq.eq_1 (And.intro @jg6.eq_1 (And.intro @e_2.eq_1 (And.intro @e_1.eq_1 (And.intro @e_0.eq_1 (And.intro @e_3.eq_1 (And.intro @e_4.eq_1 (And.intro @e_5.eq_1 (And.intro @e_6.eq_1 (And.intro @e_7.eq_1 (And.intro @e_8.eq_1 (And.intro @e_9.eq_1 (And.intro @jsy.eq_1 (And.intro @jsz.eq_1 (And.intro @jsA.eq_1 (And.intro @jsB.eq_1 (And.intro @jsC.eq_1 (And.intro @jsD.eq_1 (And.intro @jsE.eq_1 (And.intro @jnA.eq_1 (And.intro @jkL.eq_1 (And.intro @jsF.eq_1 (And.intro @jsG.eq_1 (And.intro @jsH.eq_1 (And.intro @jpD.eq_1 (And.intro @jsI.eq_1 (And.intro @jsJ.eq_1 (And.intro @jsK.eq_1 (And.intro @jnB.eq_1 (And.intro @jsL.eq_1 (And.intro @jsN.eq_1 (And.intro @jsM.eq_1 (And.intro @jsO.eq_1 (And.intro @jsP.eq_1 (And.intro @jsQ.eq_1 (And.intro @jsR.eq_1 (And.intro @jsT.eq_1 (And.intro @jsU.eq_1 (And.intro @jsS.eq_1 (And.intro @jsW.eq_1 (And.intro @jsV.eq_1 (And.intro @js0.eq_1 (And.intro @jsZ.eq_1 (And.intro @jsY.eq_1 (And.intro @jsX.eq_1 (And.intro @js1.eq_1 (And.intro @js2.eq_1 (And.intro @js3.eq_1 (And.intro @js5.eq_1 (And.intro @js4.eq_1 (And.intro @js6.eq_1 (And.intro @js7.eq_1 (And.intro @jpE.eq_1 (And.intro @js9.eq_1 (And.intro @jpF.eq_1 (And.intro @js8.eq_1 (And.intro @jta.eq_1 (And.intro @jpG.eq_1 (And.intro @jtb.eq_1 (And.intro @jpH.eq_1 (And.intro @jBN.eq_1 (@jBn.eq_1))))))))))))))))))))))))))))))))))))))))))))))))))))))))))))))))))))))))))))))))))))))))))))))))))))))))))))))))))))))
theorem jvK (r0:List (List A)):jkh r0=extRun K (MM K) (Go.Proofs.YtdbgbieenhcldaaGreatDoor.Abs.sfE 3) [V.row 0,V.fn 183 []] [.row 3 r0]:=jw2 rfl
theorem jvP (r0:List (List A)):jkm r0=extRun K (MM K) (Go.Proofs.YtdbgbieenhcldaaGreatDoor.Abs.sfE 3) [V.row 0,V.fn 71 []] [.row 3 r0]:=jw2 rfl
theorem jzb:G 100 [a]=kLS a λb=>kFN 95 [b,vi 1,vi 4] λb=>j4 b a λc=>kR b (kP c (vi 0)) λc=>kR b (jp .lss false c (vy 65)) λc=>j9 b (vb true) c λb=>j4 b a λc=>kR b (kP c (vi 0)) λc=>kR b (jp .gtr false c (vy 90)) λc=>zK b (vb true) c (je (vb false)) (jaZ a (vi 1)):=gq Tryz.func100
theorem jp5:jaZ a b=kLS a λc=>jI b c (kIS a b λc=>kF 154 [c] λc=>KF c (je (vb false)) (jm b (vi 1) λb=>jaZ a b)) (je (vb true)):=hq Tryz.func100
theorem jzc:G 101 [a,b]=jc 1 a λa=>jcT b (vi 0) (jb a 0):=gq Tryz.func101
theorem jp6:jcT a b c=KE b c (jcr 3 c b 0 λd=>kS d a (je b) (jm b (vi 1) λb=>jcT a b c)) (je (vi (- 1))):=hq Tryz.func101
theorem jzd:G 102 [a]=jc 2 a λa=>brn (jK (jb a 0)) (brn (jK (jb a 0)) (jgl (vi 0) (jb a 0) (jb a 1) (sv []) (jb a 0) [] []) none) none:=gq Tryz.func102
theorem jp7:jgl a b c d e p q=KE a c (qx 2 2 c a λf=>(G 102 [f]).bind λf=>zh f λf=>jc 2 f λf=>brn (jB ((jh q)+(jh [[jb f 0,jb f 1]])) 40) (jm a (vi 1) λa=>jgl a b c d e p (jL q [[jb f 0,jb f 1]])) none) (brn (jK e) (je (A.agg [e,A.sl 2 q])) none):=hq Tryz.func102
theorem jvB:jkf a b c p=brn (jK b) (brn (jK c) (kS b a (some (A.top,[A.sl 3 p])) (jcU a (vi 0) b c p [])) none) none:=vq Tryz.func103
theorem jp8:jcU a b c d p q=qA b (zv p) λe=>ji e true λ_=>ji e true λ_=>jN e b λf=>ji e true λg=>brn g (qV (jh p) f λf=>ji e true λ_=>kI e (yE p f 0) λf=>e_0 e a f b c d p q) (kI e (yJ (A.val undef) 0) λf=>kI e (kJ f) λf=>e_0 e a f b c d p q):=hq Tryz.func103
theorem jvC:jgd a b p=jc 2 b λb=>kS (jb b 0) a (some (A.top,[A.sl 3 p])) (ZJ a (vi 0) (jb b 0) (jb b 1) p []):=vq Tryz.func103
theorem jdH:ZJ a b c d p q=qA b (zv p) λe=>ji e true λ_=>ji e true λ_=>jN e b λf=>ji e true λg=>brn g (qV (jh p) f λf=>ji e true λ_=>kI e (yE p f 0) λf=>e_3 e a f b c d p q) (kI e (yJ (A.val undef) 0) λf=>kI e (kJ f) λf=>e_3 e a f b c d p q):=hq Tryz.func103
theorem jvD:jkg a b p q=brn (jK b) (kS b a (some (A.top,[A.sl 3 p])) (ZK a (vi 0) b p q [])) none:=vq Tryz.func103
theorem jdI:ZK a b c p q r=qA b (zv p) λd=>ji d true λ_=>ji d true λ_=>jN d b λe=>ji d true λf=>brn f (qV (jh p) e λe=>ji d true λ_=>kI d (yE p e 0) λe=>e_4 d a e b c p q r) (kI d (yJ (A.val undef) 0) λe=>kI d (kJ e) λe=>e_4 d a e b c p q r):=hq Tryz.func103
theorem jpm:JP a b c=(qh (vi 3) a b c).bind λa=>jH a 0 λb=>jH a 1 λc=>jH a 2 λd=>jH a 3 λa=>jm (vi 1) a λa=>(yG a b c d).bind λa=>jH a 0 λb=>jH a 1 λc=>jH a 2 λd=>jH a 3 λe=>Jl 2 a 4 λa=>e_5 e b c d a:=vq Tryz.func104
theorem JS:yG a b c d=jbP a (vi 1) λe=>ji e false λ_=>ji e false λf=>brn f ((KM (vi 3) b c d).bind λb=>jH b 0 λc=>jH b 1 λd=>jH b 2 λf=>jH b 3 λb=>zK e (vb true) b (e_6 c d f) (e_7 c d f a)) (zK e (vb true) (A.val undef) (e_6 b c d) (e_7 b c d a)):=vq Tryz.func105
theorem jze:G 106 [a,b]=j6 a λc=>jgm a b c (vi 0):=gq Tryz.func106
theorem jp9:jgm a b c d=jI d c (qx 1 1 a d λe=>(DX.run K (MM K) (.callc b [e] false)).bind λe=>yT e (je d) (jm d (vi 1) λd=>jgm a b c d)) (je (vi (- 1))):=hq Tryz.func106
theorem jzf:G 107 [a]=jc 3 a λa=>kF 131 [A.agg [jb a 1,jb a 2]] λb=>(j7 (kD (K.at 107) 42) [vb false,sv [],A.sl 2 []] [(0,jb a 0),(1,b)]).bind λa=>jc 3 a λa=>je (jg6 a):=gq Tryz.func107
theorem jvE:jge a b c=KE b a (kIP 1 a b λd=>(Js .i64 d).bind λd=>jm b (vi 1) λb=>brn (jK b) (Qn c (A.val (.int .u64 6364136223846793005)) λc=>(Js .u64 d).bind λe=>jm c e λc=>jm c (A.val (.int .u64 892892)) λc=>brn (jK c) (j6 a λe=>jdF b e (some (A.top,[a,b,c,d])) (e_8 c a b)) none) none) (jm b (vi 1) λb=>brn (jK b) (Qn c (A.val (.int .u64 6364136223846793005)) λc=>(Js .u64 (vi 0)).bind λd=>jm c d λc=>jm c (A.val (.int .u64 892892)) λc=>brn (jK c) (j6 a λd=>jdF b d (some (A.top,[a,b,c,vi 0])) (e_8 c a b)) none) none):=vq Tryz.func108
theorem jvF:jgf a b c=(je5 (vi 4) a b c).bind λa=>jH a 0 λb=>jH a 1 λc=>jH a 2 λd=>Jl 3 a 3 λa=>(jo0 a).bind λa=>Jl 3 a 0 λa=>some (A.top,[b,c,d,A.sl 3 a]):=vq Tryz.func109
theorem jvG:jgg a b c=(jlN a b c).bind λa=>jH a 0 λb=>jH a 1 λc=>jH a 2 λd=>jH a 3 λe=>jH a 4 λf=>Jl 2 a 5 λa=>brn (jK e) (brn (jK f) ((qh (vi 16) b c d).bind λb=>jH b 0 λc=>jH b 1 λd=>jH b 2 λg=>jH b 3 λb=>kS b (vi 0) ((jkl c d g).bind λa=>jH a 0 λb=>jH a 1 λc=>jH a 2 λd=>jH a 3 λa=>jc 2 a λa=>brn (jK e) (brn (jK (jb a 0)) (brn (jK (jb a 1)) (some (A.top,[b,c,d,A.agg [e,jb a 0,jb a 1]])) none) none) none) (kS b (vi 1) ((JP c d g).bind λb=>jH b 0 λc=>jH b 1 λd=>jH b 2 λg=>jH b 3 λh=>Jl 2 b 4 λb=>brn (jK h) (brn (jB ((jh a)+(jh [[h,A.sl 2 b]])) 40) (brn (jK e) (brn (jK f) (some (A.top,[c,d,g,A.agg [e,f,A.sl 2 (jL a [[h,A.sl 2 b]])]])) none) none) none) none) (brn (jK e) (brn (jK f) (some (A.top,[c,d,g,A.agg [e,f,A.sl 2 a]])) none) none))) none) none:=vq Tryz.func110
theorem jzg:G 111 [a]=jI a (vi 0) ((JM .neg a).bind λa=>kF 111 [a] λa=>jm (sv [45]) a λa=>je a) (jI a (vi 10) (jm a (vi 1) λb=>(JD (sv [48,49,50,51,52,53,54,55,56,57]) (some a) (some b)).bind λa=>je a) (jiJ a (vi 10) λb=>kF 111 [b] λb=>(jp .rem false a (vi 10)).bind λc=>(jp .rem false a (vi 10)).bind λa=>jm a (vi 1) λa=>(JD (sv [48,49,50,51,52,53,54,55,56,57]) (some c) (some a)).bind λa=>jm b a λa=>je a)):=gq Tryz.func111
theorem jvH:yV a b c p=(qh (zv p) a b c).bind λa=>jH a 0 λb=>jH a 1 λc=>jH a 2 λd=>jH a 3 λa=>qV (jh p) a λa=>kRP p a 0 λa=>some (A.top,[b,c,d,a]):=vq Tryz.func112
theorem jzh:G 113 [a]=jc 1 a λa=>kF 80 [jX a] λb=>kF 79 [jX a,b,sv [89]] λa=>jc 1 a λa=>je (jX a):=gq Tryz.func113
theorem jxE:G 114 [a]=jc 2 a λa=>kF 156 [kq a] λb=>yT b (j6 (jb a 1) λb=>zR b (vi 2) λb=>ji b true λ_=>zS b 157 [kq a] λc=>j9 b c (vb false) λb=>ji b true λ_=>jN b (jb a 1) λc=>kI b (jq 2 c (vi 0)) λc=>kI b (jZ 2 c) λc=>zS b 158 [c] λc=>j9 b c (vb false) λb=>ji b true λ_=>jN b (jb a 1) λa=>kI b (jq 2 a (vi 1)) λa=>kI b (jZ 2 a) λa=>zS b 158 [a] λa=>j9 b a (vb false) λa=>je a) (kF 159 [jb a 0] λb=>ji b true λ_=>zS b 160 [kq a] λa=>j9 b a (vb false) λa=>je a):=gq Tryz.func114
theorem jzi:G 115 [a]=j6 a λb=>jcV (vi 0) a b (vi 0):=gq Tryz.func115
theorem jk0:jcV a b c d=jI d c (kIP 1 b d λe=>qn e a (je e) (jm d (vi 1) λd=>jcV a b c d)) (je a):=hq Tryz.func115
theorem jzj:G 116 [a,b]=jc 2 a λa=>jc 2 b λb=>kF 141 [kq a] λc=>kF 141 [kq b] λd=>jN c d λe=>kI c (JM .not e) λe=>zK c e (vb false) (je (vi (- 1))) (jN d c λc=>kI d (JM .not c) λc=>zK d c (vb false) (je (vi 1)) (kF 134 [jb a 0,jb b 0] λc=>j6 (jb a 1) λd=>j6 (jb b 1) λe=>kF 117 [d,e] λd=>brn (jK c) (brn (jK d) (kfn true (G 115 [A.sl 1 [[c],[d]]]) λc=>qn c (vi 0) (je c) (kF 161 [jb a 1,jb b 1,A.fn 116 []] λa=>je a)) none) none)):=gq Tryz.func116
theorem jzk:G 117 [a,b]=kF 162 [a] λc=>kF 162 [b] λd=>e_9 c d a b:=gq Tryz.func117
theorem jzl:G 119 [a,b]=jc 2 a λa=>brn (jK (jb a 0)) (brn (jK (jb a 0)) ((jeg none true true [sv []] b (jb a 0)).bind λc=>kH c 0 λd=>kH c 1 λc=>ji c true λ_=>jN c (jb a 1) λe=>kI c (zu e) λe=>kI c (jp .eql false e (vi 0)) λe=>zK c e (vb false) (brn (jK d) (j6 (jb a 1) λc=>ja0 b (jb a 1) c (vi 0) (sv []) d [] []) none) (j6 (jb a 1) λc=>ja0 b (jb a 1) c (vi 0) (sv []) (jb a 0) [] [])) none) none:=gq Tryz.func119
theorem jk1:ja0 a b c d e f p q=jI d c (qx 2 2 b d λg=>jc 2 g λg=>kF 119 [kq g,a] λg=>jc 2 g λg=>brn (jB ((jh q)+(jh [[jb g 0,jb g 1]])) 40) (jm d (vi 1) λd=>ja0 a b c d e f p (jL q [[jb g 0,jb g 1]])) none) (brn (jK f) (je (A.agg [f,A.sl 2 q])) none):=hq Tryz.func119
theorem jzm:G 120 [a]=j6 a λb=>jgn a b (vi 0) [] []:=gq Tryz.func120
theorem jqa:jgn a b c p q=jI c b (qx 3 3 a c λd=>jc 3 d λd=>kF 107 [jg6 d] λd=>jc 3 d λd=>brn (jB ((jh q)+(jh [[jb d 0,jb d 1,jb d 2]])) 48) (jm c (vi 1) λc=>jgn a b c p (jL q [[jb d 0,jb d 1,jb d 2]])) none) ((jkm q).bind λa=>Jl 3 a 0 λa=>(jkn a).bind λa=>Jl 3 a 0 λa=>je (A.agg [A.sl 3 a])):=hq Tryz.func120
theorem jvI:jgh a b p=brn (jK a) (brn (jK b) (j6 b λc=>zR c (vi 0) λc=>ji c true λ_=>zS c 141 [A.agg [a,b]] λd=>zK c d (vb false) (kfn true (G 166 [A.sl 1 p,a]) λb=>KF b (jsy a p) (some (A.top,[A.sl 1 p]))) (j6 b λa=>QW b a (vi 0) p)) none) none:=vq Tryz.func121
theorem jqb:QW a b c p=jsz c b a p:=hq Tryz.func121
theorem jdJ:QX a b c p=jsz c b a p:=hq Tryz.func121
theorem jzn:G 122 [a]=jc 2 a λa=>kF 167 [kq a,vi 30] λb=>jbP b (vi 30) λb=>ji b true λ_=>zS b 168 [kq a] λa=>kI b (jp .leq false a (vi 8)) λa=>j9 b a (vb false) λa=>je a:=gq Tryz.func122
theorem jzo:G 123 [a]=jc 2 a λa=>kF 100 [jb a 0] λb=>yT b (j6 (jb a 1) λa=>zR a (vi 0) λa=>je a) (kFN 124 [jb a 0] λb=>ji b false λ_=>j4 b (jb a 1) λc=>kR b (zu c) λc=>kR b (jp .gtr false c (vi 4)) λc=>zK b (vb true) c (je (vb false)) (jgo (vi 0) (jb a 0) (jb a 1))):=gq Tryz.func123
theorem jqc:jgo a b c=KE a c (qx 2 2 c a λd=>kF 123 [d] λd=>KF d (je (vb false)) (jm a (vi 1) λa=>jgo a b c)) (je (vb true)):=hq Tryz.func123
theorem jzp:G 124 [a]=kLS a λb=>kFN 95 [b,vi 1,vi 6] λb=>j4 b a λc=>kR b (kP c (vi 0)) λc=>kR b (jp .lss false c (vy 97)) λc=>j9 b (vb true) c λb=>j4 b a λc=>kR b (kP c (vi 0)) λc=>kR b (jp .gtr false c (vy 122)) λc=>zK b (vb true) c (je (vb false)) (zR a (sv [116,114,117,101]) λb=>yT b (yT b (je (vb false)) (qE a (vi 1))) (zR a (sv [102,97,108,115,101]) λb=>yT b (yT b (je (vb false)) (qE a (vi 1))) (zR a (sv [116,114,117,116,104]) λb=>yT b (yT b (je (vb false)) (qE a (vi 1))) (zR a (sv [98,111,116,104]) λb=>yT b (yT b (je (vb false)) (qE a (vi 1))) (zR a (sv [101,105,116,104,101,114]) λb=>yT b (yT b (je (vb false)) (qE a (vi 1))) (zR a (sv [105,102]) λb=>yT b (yT b (je (vb false)) (qE a (vi 1))) (zR a (sv [97,108,108]) λb=>yT b (yT b (je (vb false)) (qE a (vi 1))) (kS a (sv [115,111,109,101]) (je (vb false)) (qE a (vi 1)))))))))):=gq Tryz.func124
theorem jqd:qE a b=kLS a λc=>jI b c (kIS a b λc=>kFN 154 [c] λc=>jN c a λd=>jN c b λe=>kI c (kP d e) λd=>kI c (jp .neq false d (vy 95)) λd=>zK c d (vb false) (je (vb false)) (jm b (vi 1) λb=>qE a b)) (je (vb true)):=hq Tryz.func124
theorem jzq:G 125 [a]=jc 2 a λa=>kF 122 [kq a] λb=>ji b true λ_=>zS b 123 [kq a] λa=>j9 b a (vb false) λa=>je a:=gq Tryz.func125
theorem jzr:G 126 [a,b]=jc 2 a λa=>jc 2 b λb=>kF 100 [jb a 0] λc=>kF 100 [jb b 0] λd=>jN c d λe=>kI c (JM .not e) λe=>zK c e (vb false) (je (vi (- 1))) (QA c λc=>jN c d λd=>zK c d (vb false) (je (vi 1)) (qn (jb a 0) (jb b 0) (kF 169 [jb a 0,jb b 0] λa=>je a) (j6 (jb a 1) λc=>KE c (jb b 1) (je (vi (- 1))) (j6 (jb a 1) λc=>j6 (jb b 1) λd=>zD c d (je (vi 1)) (jcW (vi 0) (jb a 0) (jb a 1) (jb b 0) (jb b 1)))))):=gq Tryz.func126
theorem jqe:jcW a b c d e=KE a c (qx 2 2 c a λf=>qx 2 2 e a λg=>kF 126 [f,g] λf=>qn f (vi 0) (je f) (jm a (vi 1) λa=>jcW a b c d e)) (je (vi 0)):=hq Tryz.func126
theorem jzs:G 127 [a,b,c]=jc 2 a λa=>kF 100 [jb a 0] λd=>yT d (jgp b c (vi 0) (jb a 0) (jb a 1) (sv []) []) (brn (jK (jb a 0)) (brn (jK (jb a 0)) (jgq b c (vi 0) (jb a 0) (jb a 1) (sv []) (jb a 0) [] []) none) none):=gq Tryz.func127
theorem jqf:jgp a b c d e f p=KE c a (kIP 1 a c λg=>kS g d (kF 111 [c] λa=>jm b a λa=>jsA a) (jm c (vi 1) λc=>jgp a b c d e f p)) (jsA d):=hq Tryz.func127
theorem jqg:jgq a b c d e f g p q=KE c e (qx 2 2 e c λh=>kF 127 [h,a,b] λh=>jc 2 h λh=>brn (jB ((jh q)+(jh [[jb h 0,jb h 1]])) 40) (jm c (vi 1) λc=>jgq a b c d e f g p (jL q [[jb h 0,jb h 1]])) none) (brn (jK g) (je (A.agg [g,A.sl 2 q])) none):=hq Tryz.func127
theorem jvJ:jgi a p=jc 2 a λa=>kF 100 [jb a 0] λb=>yT b (kfn true (G 170 [A.sl 1 p,jb a 0]) λb=>yT b (some (A.top,[A.sl 1 p])) (brn (jK (jb a 0)) (brn (jB ((jh p)+(jh [[jb a 0]])) 16) (some (A.top,[A.sl 1 (jL p [[jb a 0]])])) none) none)) (QY (vi 0) (jb a 0) (jb a 1) p):=vq Tryz.func128
theorem jqh:QY a b c p=jsB a c p b:=hq Tryz.func128
theorem jdK:QZ a b c p=jsB a c p b:=hq Tryz.func128
theorem jzt:G 131 [a]=jc 2 a λa=>(jko (jb a 1)).bind λb=>Jl 2 b 0 λb=>brn (jK (jb a 0)) (brn (jK (jb a 0)) (je (A.agg [jb a 0,A.sl 2 b])) none) none:=gq Tryz.func131
theorem jzu:G 134 [a,b]=kF 174 [a] λc=>kF 174 [b] λd=>e_9 c d a b:=gq Tryz.func134
theorem jzv:G 135 [a]=jc 1 a λa=>j6 (jb a 0) λb=>jgr (jb a 0) b (vi 0) (jb a 0):=gq Tryz.func135
theorem jqi:jgr a b c d=jI c b (qx 3 3 a c λe=>jc 3 e λe=>kFN 175 [jb e 0] λf=>j4 f c λg=>kR f (jp .gtr false g (vi 0)) λg=>j4 f g λg=>ji g true λ_=>jN g (jb e 0) λh=>ji g true λ_=>jN g d λi=>jN g c λj=>kI g (jp .sub false j (vi 1)) λj=>kI g (jq 3 i j) λi=>kI g (yJ i 0) λi=>kI g (kJ i) λi=>kI g (jp .leq false h i) λh=>kR f (Jt g h (vb false)) λg=>j9 f (vb true) g λf=>ji f false λ_=>ji f false λ_=>Kc f 160 [A.agg [jb e 1,jb e 2]] λg=>kR f (JM .not g) λg=>j9 f (vb true) g λf=>ji f false λ_=>ji f false λ_=>j4 f (jb e 1) λg=>ji f false λ_=>j4 f (jb e 0) λe=>kR f (jp .eql false g e) λe=>zK f (vb true) e (je (vb false)) (jm c (vi 1) λc=>jgr a b c d)) (j6 d λa=>jbP a (vi 12) λa=>je a):=hq Tryz.func135
theorem jzw:G 136 [a,b,c,d]=jc 2 c λc=>jc 2 d λd=>j6 (jb d 1) λe=>zR e (vi 0) λe=>ji e true λ_=>jN e (jb d 0) λf=>kI e (Yg f) λf=>kI e (jp .gtr false f (vi 0)) λf=>j9 e f (vb false) λe=>ji e true λ_=>jN e (jb d 0) λf=>kI e (kP f (vi 0)) λf=>kI e (jp .geq false f (vy 65)) λf=>j9 e f (vb false) λe=>ji e true λ_=>jN e (jb d 0) λf=>kI e (kP f (vi 0)) λf=>kI e (jp .leq false f (vy 90)) λf=>zK e f (vb false) (kF 176 [kq c,jb d 0] λa=>je a) (ja1 a b (vi 0) (jb c 0) (jb c 1) (jb d 0) (jb d 1) []):=gq Tryz.func136
theorem jqj:ja1 a b c d e f g p=KE c g (qx 2 2 g c λh=>kF 136 [a,b,A.agg [d,e],h] λh=>brn (jK h) (brn (jB ((jh p)+(jh [[h]])) 8) (jm c (vi 1) λc=>ja1 a b c d e f g (jL p [[h]])) none) none) (kfn true (G 137 [a,f,A.sl 1 p]) λa=>(jp .rem false a b).bind λa=>je a):=hq Tryz.func136
theorem jzx:G 137 [a,b,c]=jgs a b c (vi 17) (vi 0):=gq Tryz.func137
theorem jqk:jgs a b c d e=kLS b λf=>jI e f (Qn (vi 31) d λd=>kIS b e λf=>(Js .i64 f).bind λf=>jm d f λd=>(jp .rem false d (vi 65521)).bind λd=>jm e (vi 1) λe=>jgs a b c d e) (jgt a c d (vi 0)):=hq Tryz.func137
theorem jql:jgt a b c d=KE d b (Qn (vi 37) c λc=>kIP 1 b d λe=>jm c e λc=>jm c (vi 1) λc=>(jp .rem false c (vi 65521)).bind λc=>jm d (vi 1) λd=>jgt a b c d) ((jp .rem false c (vi 53)).bind λb=>kF 177 [a,b] λb=>Qn (vi 13) b λb=>jm c b λb=>(jp .rem false c (vi 89)).bind λc=>kF 177 [a,c] λa=>jm b a λa=>jiJ a (vi 3) λa=>je a):=hq Tryz.func137
theorem jzy:G 138 [a,b,c]=jsC a b c:=gq Tryz.func138
theorem jzz:G 139 [a,b]=jc 1 a λa=>jc 2 b λb=>kF 178 [jX a,kq b] λa=>jc 2 a λa=>kF 157 [kq a] λb=>jsD b a:=gq Tryz.func139
theorem jxf:jhQ a p=jc 2 a λa=>j6 (jb a 1) λb=>zR b (vi 0) λb=>ji b true λ_=>jN b (jb a 0) λc=>kI b (Yg c) λc=>kI b (jp .gtr false c (vi 0)) λc=>j9 b c (vb false) λb=>ji b true λ_=>jN b (jb a 0) λc=>kI b (kP c (vi 0)) λc=>kI b (jp .geq false c (vy 65)) λc=>j9 b c (vb false) λb=>ji b true λ_=>jN b (jb a 0) λc=>kI b (kP c (vi 0)) λc=>kI b (jp .leq false c (vy 90)) λc=>zK b c (vb false) (YE (vi 0) (jb a 0) (jb a 1) p) (jcx (vi 0) (jb a 0) (jb a 1) p):=vq Tryz.func13
theorem jmF:YE a b c p=jI a (zv p) (qV (jh p) a λd=>kRP p d 0 λd=>kS d b (some (A.top,[A.sl 1 p])) (jm a (vi 1) λa=>YE a b c p)) (jsy b p):=hq Tryz.func13
theorem jtl:jcx a b c p=jsE a c p b:=hq Tryz.func13
theorem jg8:jcy a b c p=jsE a c p b:=hq Tryz.func13
theorem g14:G 14 [a,b,c]=jc 1 c λc=>Q0 a b (vi 1) (jb c 0):=gq Tryz.func14
theorem jun:Q0 a b c d=jI c (vi 4) (jlQ a b c (vb true) (vi 0) d) (je (vb true)):=hq Tryz.func14
theorem juo:jlQ a b c d e f=j6 b λg=>qA e g λg=>jN g d λh=>zK g h (vb false) (qx 1 1 b e λd=>kF 37 [c,d] λd=>jN d a λg=>jN d c λh=>jN d b λi=>jN d e λj=>kI d (jq 1 i j) λi=>kI d (jZ 1 i) λi=>zS d 38 [g,h,i] λg=>j9 d g (vb false) λd=>jm e (vi 1) λe=>jlQ a b c d e f) (jN d a λe=>jN d c λg=>ji d true λ_=>zS d 38 [e,g,A.agg [f]] λe=>kI d (JM .not e) λe=>zK d e (vb false) (je (vb false)) (jm c (vi 1) λc=>Q0 a b c f)):=hq Tryz.func14
theorem jzA:G 140 [a,b]=jc 2 a λa=>jc 2 b λb=>zR (jb a 0) (jb b 0) λc=>ji c true λ_=>jN c (jb a 1) λa=>ji c true λ_=>jN c (jb b 1) λb=>zS c 179 [a,b,A.fn 140 []] λa=>j9 c a (vb false) λa=>je a:=gq Tryz.func140
theorem jxF:G 141 [a]=jc 2 a λa=>kIS (jb a 0) (vi 0) λa=>kF 180 [a] λa=>je a:=gq Tryz.func141
theorem jzB:G 142 [a]=jc 4 a λa=>brn (jK (jb a 0)) (brn (jK (jb a 1)) (brn (jK (jb a 2)) (brn (jK (jb a 3)) (kFN 141 [kq a] λb=>ji b false λ_=>Kc b 141 [A.agg [jb a 2,jb a 3]] λc=>j4 b c λc=>ji c true λ_=>jN c (jb a 2) λd=>ji c true λ_=>jN c (jb a 0) λe=>kI c (jp .gtr false d e) λd=>kR b (Jt c d (vb false)) λc=>zK b (vb true) c (brn (jK (jb a 2)) (brn (jK (jb a 3)) (brn (jK (jb a 0)) (brn (jK (jb a 1)) (brn (jK (jb a 2)) (brn (jK (jb a 0)) (brn (jK (jb a 1)) (brn (jK (jb a 2)) (brn (jK (jb a 0)) (brn (jK (jb a 1)) (kFN 181 [jb a 2,kq a] λb=>ji b true λ_=>kI b ((G 135 [A.agg [A.sl 3 [[jb a 2,jb a 0,jb a 1]]]]).bind (fin true)) λc=>j9 b c (vb false) λb=>je (A.tup [A.agg [A.sl 3 [[jb a 2,jb a 0,jb a 1]]],b])) none) none) none) none) none) none) none) none) none) none) (brn (jK (jb a 0)) (brn (jK (jb a 2)) (brn (jK (jb a 3)) (brn (jK (jb a 0)) (brn (jK (jb a 2)) (brn (jK (jb a 3)) (kFN 181 [jb a 0,A.agg [jb a 2,jb a 3]] λb=>ji b true λ_=>kI b ((G 135 [A.agg [A.sl 3 [[jb a 0,jb a 2,jb a 3]]]]).bind (fin true)) λc=>j9 b c (vb false) λb=>je (A.tup [A.agg [A.sl 3 [[jb a 0,jb a 2,jb a 3]]],b])) none) none) none) none) none) none)) none) none) none) none:=gq Tryz.func142
theorem jzC:G 143 [a,b]=jc 1 a λa=>jc 1 b λb=>j6 (jb a 0) λc=>jcX (jb a 0) c (vi 0) (jb a 0) (jb b 0) [] []:=gq Tryz.func143
theorem jqm:jcX a b c d e p q=jI c b (qx 3 3 a c λf=>jc 3 f λf=>kF 178 [A.agg [e],A.agg [jb f 1,jb f 2]] λg=>jc 2 g λg=>qn (jb g 0) (jb f 0) (brn (jK (jb f 0)) (brn (jK (jb g 0)) (brn (jK (jb g 1)) (brn (jK (jb f 0)) (brn (jK (jb g 0)) (brn (jK (jb g 1)) (brn (jB ((jh q)+(jh [[jb f 0,jb g 0,jb g 1]])) 56) (jm c (vi 1) λc=>jcX a b c d e p (jL q [[jb f 0,jb g 0,jb g 1]])) none) none) none) none) none) none) none) (jm c (vi 1) λc=>jcX a b c d e p q)) (j6 e λa=>ja2 e a (vi 0) d p q):=hq Tryz.func143
theorem jqn:ja2 a b c d p q=jI c b (qx 3 3 a c λe=>jc 3 e λe=>kF2 182 [A.agg [d],jb e 0] λf g=>jc 2 f λ_=>KF g (kF 131 [A.agg [jb e 1,jb e 2]] λf=>(j7 (kD (K.at 143) 118) [sv [],sv [],A.sl 2 []] [(0,jb e 0),(1,f)]).bind λe=>jc 3 e λe=>brn (jB ((jh q)+(jh [[jb e 0,jb e 1,jb e 2]])) 56) (jm c (vi 1) λc=>ja2 a b c d p (jL q [[jb e 0,jb e 1,jb e 2]])) none) (jm c (vi 1) λc=>ja2 a b c d p q)) ((jkh q).bind λa=>Jl 3 a 0 λa=>kfn true (G 135 [A.agg [A.sl 3 a]]) λb=>KF b (je (A.tup [A.agg [A.sl 3 []],vb false])) (je (A.tup [A.agg [A.sl 3 a],vb true]))):=hq Tryz.func143
theorem jzD:G 144 [a,b]=jc 1 a λa=>j6 b λc=>jgu b c (vi 0) (jb a 0) [] []:=gq Tryz.func144
theorem jqo:jgu a b c d p q=jI c b (qx 3 3 a c λe=>jc 3 e λe=>(G 139 [A.agg [d],A.agg [jb e 1,jb e 2]]).bind λf=>zh f λf=>kH f 0 λg=>kH f 1 λf=>jc 2 g λg=>KF f (je (A.tup [A.agg [A.sl 3 []],vb false])) (brn (jK (jb e 0)) (brn (jK (jb g 0)) (brn (jK (jb g 1)) (brn (jK (jb e 0)) (brn (jK (jb g 0)) (brn (jK (jb g 1)) (brn (jB ((jh p)+(jh [[jb e 0,jb g 0,jb g 1]])) 48) (jm c (vi 1) λc=>jgu a b c d (jL p [[jb e 0,jb g 0,jb g 1]]) q) none) none) none) none) none) none) none)) ((G 120 [A.sl 3 p]).bind λa=>zh a λa=>(G 29 [a]).bind λa=>zh a λa=>kH a 0 λb=>kH a 1 λa=>jc 1 b λb=>je (A.tup [jX b,a])):=hq Tryz.func144
theorem jvL:jki a=jI a (vi 0) none (qB (vi 0) (vi 0) λb=>qB a b λa=>zD a (vi 0) (kB 0 0 (some (vi 0)) λ_=>kMk 48 a a λa=>brn (jB a 48) (kB (zx (J1 a [vb false,sv [],A.sl 2 []])) (kZ (J1 a [vb false,sv [],A.sl 2 []]) 0) (some (vi 0)) λb=>some (A.top,[A.sl 3 (List.take (jT b 0) (J1 a [vb false,sv [],A.sl 2 []]))])) none) (some (A.top,[A.sl 3 []]))):=vq Tryz.func145
theorem jvM:jkj a b p=kB 0 (kZ p 0) (some (zv p)) λc=>kB 0 c (some b) λc=>kB 0 c (some a) λ_=>kS a b (some (A.top,[A.sl 3 p])) (kB (zx p) (kZ p 0) (some a) λa=>kB (zx p) (kZ p 0) none λc=>kB 0 c (some b) λb=>brn (jfH 0 (jT a 0) (zC p (0+b) (jT c b)) p) (kB ((jT a 0)+(zx (zC p (0+b) (jT c b)))) (kZ (z8 p (0+(jT a 0)) (zC p (0+b) (jT c b))) 0) (some (zv p)) λd=>kB 0 d (some (nA ((jT a 0)+(zx (zC p (0+b) (jT c b)))))) λe=>some (A.top,[A.sl 3 (List.take ((jT a 0)+(zx (zC p (0+b) (jT c b)))) (z8 (z8 p (0+(jT a 0)) (zC p (0+b) (jT c b))) (0+e) (J1 (jT d e) [vb false,sv [],A.sl 2 []])))])) none):=vq Tryz.func146
theorem jvN:jkk a=(jrj a).bind λb=>brn (nz (zx b)) (bth (some (A.top,[A.sl 3 []])) (kRs 3 a λa=>brn (jB (jh a) 48) (some (A.top,[A.sl 3 a])) none)) (kRs 3 a λa=>brn (jB (jh a) 48) (some (A.top,[A.sl 3 a])) none):=vq Tryz.func147
theorem jzE:G 148 [a,b,c]=j6 a λd=>j6 b λe=>qn d e (je (vb false)) (j6 a λd=>jgv b c a d (vi 0)):=gq Tryz.func148
theorem jqp:jgv a b c d e=jI e d (qx 3 3 c e λf=>jc 3 f λf=>qx 3 3 a e λg=>jc 3 g λg=>(DX.run K (MM K) (.callc b [jg6 f,jg6 g] false)).bind λf=>KF f (je (vb false)) (jm e (vi 1) λe=>jgv a b c d e)) (je (vb true)):=hq Tryz.func148
theorem jzF:G 149 [a,b]=jc 3 a λa=>jc 3 b λb=>(jp .eql true (jb a 0) (jb b 0)).bind λc=>ji c true λ_=>ji c true λ_=>ji c true λ_=>ji c true λ_=>zS c 140 [A.agg [jb a 1,jb a 2],A.agg [jb b 1,jb b 2]] λa=>j9 c a (vb false) λa=>je a:=gq Tryz.func149
theorem g15:G 15 [a]=brn (jK a) (brn (jK a) ((jhR a (vi 0) (A.val (.int .u64 0))).bind λa=>jH a 0 λb=>jH a 1 λc=>jH a 2 λd=>jH a 3 λa=>jc 1 a λa=>(joY (jb a 0) b c d).bind λb=>jH b 0 λ_=>jH b 1 λ_=>jH b 2 λ_=>jH b 3 λb=>brn (jK (jb a 0)) (jc 1 b λb=>je (A.tup [jX a,jX b])) none) none) none:=gq Tryz.func15
theorem jzG:G 150 [a,b]=jc 1 a λa=>jc 2 b λb=>kFN 184 [jX a] λc=>ji c false λ_=>Kc c 185 [kq b] λd=>kR c (JM .not d) λd=>zK c (vb true) d (je (A.tup [A.agg [sv [],A.sl 2 []],vb false])) ((G 50 [jX a,kq b]).bind λa=>zh a λa=>jc 2 a λa=>kF 185 [kq a] λb=>jsD b a):=gq Tryz.func150
theorem jzH:G 151 [a,b]=jc 2 a λa=>jc 2 b λb=>KW (jb a 0) (jb b 0) λc=>ji c false λ_=>j4 c (jb a 1) λd=>kR c (zu d) λd=>ji c false λ_=>j4 c (jb b 1) λe=>kR c (zu e) λe=>kR c (jp .neq false d e) λd=>zK c (vb true) d (je (vb false)) (jgw (vi 0) (jb a 0) (jb a 1) (jb b 0) (jb b 1)):=gq Tryz.func151
theorem jqq:jgw a b c d e=KE a c (qx 2 2 c a λf=>qx 2 2 e a λg=>kF 151 [f,g] λf=>KF f (je (vb false)) (jm a (vi 1) λa=>jgw a b c d e)) (je (vb true)):=hq Tryz.func151
theorem jzI:G 152 [a,b,c]=jc 1 a λa=>jc 2 c λc=>kF 186 [kq c] λd=>kF 170 [d,b] λd=>yT d (brn (jK (jb a 0)) (je (A.tup [jX a,vb false])) none) ((jkf b (jb c 0) (jb c 1) []).bind λb=>Jl 3 b 0 λb=>(G 187 [jX a,A.agg [A.sl 3 b]]).bind λa=>zh a λa=>kH a 0 λb=>kH a 1 λa=>jc 1 b λb=>je (A.tup [jX b,a])):=gq Tryz.func152
theorem jzJ:G 153 [a,b]=jc 1 a λa=>jgx b (vi 0) (jb a 0) [] []:=gq Tryz.func153
theorem jqr:jgx a b c p q=KE b a (Kd 2 3 a b 1 λd=>(G 50 [A.agg [c],d]).bind λd=>zh d λd=>jc 2 d λd=>kF 76 [kq d] λe=>KF e (je (A.tup [A.agg [A.sl 3 []],vb false])) (jcr 3 a b 0 λe=>brn (jK e) (brn (jK (jb d 0)) (brn (jK (jb d 1)) (brn (jK e) (brn (jK (jb d 0)) (brn (jK (jb d 1)) (brn (jB ((jh p)+(jh [[e,jb d 0,jb d 1]])) 48) (jm b (vi 1) λb=>jgx a b c (jL p [[e,jb d 0,jb d 1]]) q) none) none) none) none) none) none) none)) ((G 53 [A.sl 3 p]).bind λa=>zh a λa=>jc 1 a λa=>kF 31 [jX a] λb=>jnA b a):=hq Tryz.func153
theorem jzK:G 154 [a]=Qm a (vy 97) λb=>jN b a λc=>kI b (jp .leq false c (vy 122)) λc=>j9 b c (vb false) λb=>j4 b a λc=>kR b (jp .geq false c (vy 48)) λc=>j4 b c λc=>jN c a λa=>kI c (jp .leq false a (vy 57)) λa=>kR b (Jt c a (vb false)) λa=>j9 b (vb true) a λa=>je a:=gq Tryz.func154
theorem jvO:jkl a b c=(JP a b c).bind λa=>jH a 0 λb=>jH a 1 λc=>jH a 2 λd=>jH a 3 λe=>Jl 2 a 4 λa=>brn (jK e) ((qh (vi 24) b c d).bind λb=>jH b 0 λc=>jH b 1 λd=>jH b 2 λf=>jH b 3 λb=>kS b (vi 0) ((yV c d f [[sv []],[sv [116,114,117,101]],[sv [116,114,117,116,104]],[sv [105,102]],[sv [88,121,122,57]],[sv [88,121,122,57,57]],[sv [120,65]],[sv [97,95,98]],[sv [97,98,99,100,101,102]],[sv [97,98,99,100,101,102,103]],[sv [95,97]],[sv [57]],[sv [88,95]],[sv [61]]]).bind λb=>jH b 0 λc=>jH b 1 λd=>jH b 2 λe=>jH b 3 λb=>brn (jK b) (jkL b c d e a) none) (kS b (vi 1) ((qh (vi 3) c d f).bind λa=>jH a 0 λb=>jH a 1 λc=>jH a 2 λd=>jH a 3 λa=>jm (vi 7) a λa=>(jkp a b c d).bind λa=>jH a 0 λb=>jH a 1 λc=>jH a 2 λd=>jH a 3 λe=>Jl 2 a 4 λa=>jkL e b c d a) (kS b (vi 2) ((jgj c d f).bind λa=>jH a 0 λb=>jH a 1 λc=>jH a 2 λd=>jH a 3 λa=>jc 2 a λa=>some (A.top,[b,c,d,kq a])) (kS b (vi 3) ((JP c d f).bind λb=>jH b 0 λc=>jH b 1 λd=>jH b 2 λf=>jH b 3 λg=>Jl 2 b 4 λb=>(JP c d f).bind λc=>jH c 0 λd=>jH c 1 λf=>jH c 2 λh=>jH c 3 λi=>Jl 2 c 4 λc=>(JP d f h).bind λd=>jH d 0 λf=>jH d 1 λh=>jH d 2 λj=>jH d 3 λk=>Jl 2 d 4 λd=>brn (jK g) (brn (jK i) (brn (jK k) (brn (jB ((jh a)+(jh [[g,A.sl 2 b],[i,A.sl 2 c],[k,A.sl 2 d]])) 40) (brn (jK e) (some (A.top,[f,h,j,A.agg [e,A.sl 2 (jL a [[g,A.sl 2 b],[i,A.sl 2 c],[k,A.sl 2 d]])]])) none) none) none) none) none) (kS b (vi 4) (zD (zv a) (vi 0) ((yV c d f [[sv [61]],[sv []],[sv [81,49]],[sv [98,50]]]).bind λb=>jH b 0 λc=>jH b 1 λd=>jH b 2 λf=>jH b 3 λb=>qV (jh a) (vi 0) λg=>kRP a g 1 λg=>(j7 (kD (K.at 155) 40) [sv [],A.sl 2 []] [(0,b),(1,g)]).bind λb=>qV (jh a) (vi 0) λg=>jc 2 b λb=>kRG a g λh=>brn (jK e) (some (A.top,[c,d,f,A.agg [e,A.sl 2 (J2 a g (Kh h 0 [jb b 0,jb b 1]))]])) none) (jkL e c d f a)) (jkL e c d f a)))))) none:=vq Tryz.func155
theorem jzL:G 156 [a]=jc 2 a λa=>zR (jb a 0) (sv [61]) λa=>je a:=gq Tryz.func156
theorem jzM:G 157 [a]=jc 2 a λa=>kF 190 [kq a] λb=>jbP b (vi 30) λb=>ji b true λ_=>zS b 191 [kq a] λa=>kI b (jp .leq false a (vi 8)) λa=>j9 b a (vb false) λa=>je a:=gq Tryz.func157
theorem jzN:G 158 [a]=jc 2 a λa=>kF 175 [jb a 0] λb=>yT b (j6 (jb a 1) λa=>zR a (vi 0) λa=>je a) (kF 159 [jb a 0] λb=>ji b true λ_=>jN b (jb a 1) λc=>kI b (zu c) λc=>kI b (jp .leq false c (vi 4)) λc=>j9 b c (vb false) λb=>ji b true λ_=>jN b (jb a 1) λa=>zS b 192 [a,A.fn 193 []] λa=>kI b (JM .not a) λa=>j9 b a (vb false) λa=>je a):=gq Tryz.func158
theorem jzO:G 159 [a]=kLS a λb=>jcY a b (vi 0):=gq Tryz.func159
theorem jg9:jcY a b c=jI c b (zR c (vi 0) λd=>jN d a λe=>jN d c λf=>kI d (kP e f) λe=>zS d 194 [e] λe=>kI d (JM .not e) λe=>j9 d e (vb false) λd=>j4 d a λe=>j4 d c λf=>kR d (kP e f) λe=>Kc d 194 [e] λe=>kR d (JM .not e) λe=>j4 d e λe=>jN e a λf=>jN e c λg=>kI e (kP f g) λf=>zS e 195 [f] λf=>kI e (JM .not f) λf=>kR d (Jt e f (vb false)) λe=>j4 d e λe=>jN e a λf=>jN e c λg=>kI e (kP f g) λf=>kI e (jp .neq false f (vy 95)) λf=>kR d (Jt e f (vb false)) λe=>zK d (vb true) e (je (vb false)) (jm c (vi 1) λc=>jcY a b c)) (kLS a λb=>kF 138 [b,vi 1,vi 6] λb=>zS b 196 [] λc=>jN b a λa=>zS b 166 [c,a] λa=>kI b (JM .not a) λa=>j9 b a (vb false) λa=>je a):=hq Tryz.func159
theorem g16:G 16 [a,b]=jc 1 a λa=>jc 1 b λb=>kFN 35 [jX a] λc=>ji c false λ_=>Kc c 35 [jX b] λd=>kR c (JM .not d) λd=>zK c (vb true) d (je (A.tup [A.sl 1 [],vb false])) (j6 (jb a 0) λc=>jcZ c (vi 0) (jb a 0) (jb b 0) []):=gq Tryz.func16
theorem jup:jcZ a b c d p=jI b a (j6 d λe=>jhU b a b e (vi 0) c d p) (je (A.tup [A.sl 1 p,vb true])):=hq Tryz.func16
theorem juq:jhU a b c d e f g p=jI e d (kF2 41 [A.agg [f],a,A.agg [g],e] λh i=>jc 1 h λh=>ji i true λ_=>ji i true λ_=>kI i ((G 42 [A.sl 1 p,jX h]).bind (fin true)) λj=>kI i (JM .not j) λj=>zK i j (vb false) (brn (jK (jb h 0)) (brn (jB ((jh p)+(jh [[jb h 0]])) 24) (jm e (vi 1) λe=>jhU a b c d e f g (jL p [[jb h 0]])) none) none) (jm e (vi 1) λe=>jhU a b c d e f g p)) (jm c (vi 1) λa=>jcZ b a f g p):=hq Tryz.func16
theorem jzP:G 160 [a]=jc 2 a λa=>kF 157 [kq a] λb=>ji b true λ_=>zS b 158 [kq a] λa=>j9 b a (vb false) λa=>je a:=gq Tryz.func160
theorem jzQ:G 161 [a,b,c]=j6 a λd=>jgy a b c a d (vi 0):=gq Tryz.func161
theorem jqs:jgy a b c d e f=jI f e (qx 2 2 d f λg=>jc 2 g λg=>j6 b λh=>jdE f h (je (vi 1)) (qx 2 2 b f λh=>jc 2 h λh=>(DX.run K (MM K) (.callc c [kq g,kq h] false)).bind λg=>qn g (vi 0) (je g) (jm f (vi 1) λf=>jgy a b c d e f))) (j6 a λa=>KE a b (je (vi (- 1))) (je (vi 0))):=hq Tryz.func161
theorem jxG:G 162 [a]=KW a a λa=>je a:=gq Tryz.func162
theorem jvQ:jkn p=jI (zv p) (vi 2) (some (A.top,[A.sl 3 p])) (Q1 (vi 1) p):=vq Tryz.func165
theorem jiM:Q1 a p=jI a (zv p) (qV (jh p) a λb=>kRN p b 0 3 λb=>qB a (vi 1) λc=>qV (jh p) c λc=>kRN p c 0 3 λc=>kF 149 [b,c] λb=>yT b (kB (zx p) (kZ p 0) none λb=>kB 0 b (some a) λc=>ZL a (nA (0+c)) (nA (jT b c)) (vi 1) p) (jm a (vi 1) λa=>Q1 a p)) (some (A.top,[A.sl 3 p])):=hq Tryz.func165
theorem jiN:ZL a b c d p=jI d (nA (kU c)) (qV (kU c) d λe=>kRN p ((kU b)+e) 0 3 λe=>qB d (vi 1) λf=>qV (kU c) f λf=>kRN p ((kU b)+f) 0 3 λf=>kF 149 [e,f] λe=>KF e (qV (kU c) d λe=>kRN p ((kU b)+e) 0 3 λe=>qV (jh p) a λf=>jc 3 e λe=>kRG p f λg=>jm a (vi 1) λa=>jm d (vi 1) λd=>ZL a (nA (kU b)) (nA (kU c)) d (J2 p f (Kh g 0 [jb e 0,jb e 1,jb e 2]))) (jm d (vi 1) λd=>ZL a (nA (kU b)) (nA (kU c)) d p)) (kB (zx p) (kZ p 0) none λb=>kB 0 b (some a) λc=>kB (zx (z8 p (0+c) (J1 (jT b c) [vb false,sv [],A.sl 2 []]))) (kZ (z8 p (0+c) (J1 (jT b c) [vb false,sv [],A.sl 2 []])) 0) (some a) λa=>some (A.top,[A.sl 3 (List.take (jT a 0) (z8 p (0+c) (J1 (jT b c) [vb false,sv [],A.sl 2 []])))])):=hq Tryz.func165
theorem jzR:G 166 [a,b]=kF 199 [a,b] λa=>Qm a (vi 0) λa=>je a:=gq Tryz.func166
theorem jzS:G 167 [a,b]=jc 2 a λa=>jgz b (vi 1) (vi 0) (jb a 0) (jb a 1):=gq Tryz.func167
theorem jk2:jgz a b c d e=j6 e λf=>qA c f λf=>jN f b λg=>jN f a λh=>kI f (jp .leq false g h) λg=>zK f g (vb false) (qx 2 2 e c λf=>qB a b λg=>kF 167 [f,g] λf=>jm b f λb=>jm c (vi 1) λc=>jgz a b c d e) (je b):=hq Tryz.func167
theorem jzT:G 168 [a]=jc 2 a λa=>jgA (vi 0) (vi 0) (jb a 0) (jb a 1):=gq Tryz.func168
theorem jqt:jgA a b c d=KE b d (qx 2 2 d b λe=>kF 168 [e] λe=>kF 94 [a,e] λa=>jm b (vi 1) λb=>jgA a b c d) (jm a (vi 1) λa=>je a):=hq Tryz.func168
theorem jzU:G 169 [a,b]=jI a b (je (vi (- 1))) (zD a b (je (vi 1)) (je (vi 0))):=gq Tryz.func169
theorem g17:G 17 [a,b]=jc 1 a λa=>jc 1 b λb=>kFN 43 [jX a] λc=>ji c false λ_=>Kc c 43 [jX b] λd=>kR c (JM .not d) λd=>zK c (vb true) d (je (A.tup [A.sl 1 [],vb false])) (kF 44 [jX a,jX b] λa=>je (A.tup [a,vb true])):=gq Tryz.func17
theorem jzV:G 170 [a,b]=jgB a b (vi 0):=gq Tryz.func170
theorem jqu:jgB a b c=KE c a (kIP 1 a c λd=>kS d b (je (vb true)) (jm c (vi 1) λc=>jgB a b c)) (je (vb false)):=hq Tryz.func170
theorem jvR:jko a=j6 a λb=>kS b (vi 0) (some (A.top,[A.sl 2 []])) (j6 a λb=>kMk 40 b b λb=>j6 a λc=>Q2 a c (vi 0) (J1 b [sv [],A.sl 2 []])):=vq Tryz.func171
theorem jiO:Q2 a b c p=jI c b (qx 2 2 a c λd=>jc 2 d λd=>kF 131 [kq d] λd=>qV (jh p) c λe=>jc 2 d λd=>kRG p e λf=>jm c (vi 1) λc=>Q2 a b c (J2 p e (Kh f 0 [jb d 0,jb d 1]))) (some (A.top,[A.sl 2 p])):=hq Tryz.func171
theorem jxH:G 174 [a]=KW a a λa=>je a:=gq Tryz.func174
theorem jzW:G 175 [a]=kLS a λb=>jc0 a b (vi 0):=gq Tryz.func175
theorem jha:jc0 a b c=jI c b (zR c (vi 0) λd=>jN d a λe=>jN d c λf=>kI d (kP e f) λe=>zS d 180 [e] λe=>kI d (JM .not e) λe=>j9 d e (vb false) λd=>j4 d c λe=>kR d (jp .gtr false e (vi 0)) λe=>j4 d e λe=>jN e a λf=>jN e c λg=>kI e (kP f g) λf=>zS e 194 [f] λf=>kI e (JM .not f) λf=>kR d (Jt e f (vb false)) λe=>j4 d e λe=>jN e a λf=>jN e c λg=>kI e (kP f g) λf=>zS e 195 [f] λf=>kI e (JM .not f) λf=>kR d (Jt e f (vb false)) λe=>zK d (vb true) e (je (vb false)) (jm c (vi 1) λc=>jc0 a b c)) (kLS a λa=>kF 138 [a,vi 1,vi 4] λa=>je a):=hq Tryz.func175
theorem jzX:G 176 [a,b]=jc 2 a λa=>j6 (jb a 0) λc=>qB c (vi 1) λc=>jgC b c (jb a 0) (jb a 1):=gq Tryz.func176
theorem jqv:jgC a b c d=jdE b (vi 0) (kIP 1 c b λe=>kS e a (kIP 1 d b λa=>je a) (qB b (vi 1) λb=>jgC a b c d)) (je (vi 0)):=hq Tryz.func176
theorem jzY:G 177 [a,b]=KE b a (kIP 1 a b λa=>(Js .i64 a).bind λa=>je a) (Qn b (vi 7) λb=>j6 a λa=>jm b a λa=>(jp .rem false a (vi 256)).bind λa=>je a):=gq Tryz.func177
theorem jzZ:G 178 [a,b]=jc 1 a λa=>jc 2 b λb=>j6 (jb b 1) λc=>kS c (vi 0) (kF2 182 [jX a,jb b 0] λa c=>jc 2 a λa=>yT c (kF 131 [kq a] λa=>jc 2 a λa=>je (kq a)) (jsF b)) (j6 (jb b 1) λc=>kMk 40 c c λc=>brn (jK (jb b 0)) (brn (jK (jb b 0)) (j6 (jb b 1) λd=>jkq (jb b 1) d (vi 0) (jb a 0) (sv []) (jb b 0) (J1 c [sv [],A.sl 2 []]) []) none) none):=gq Tryz.func178
theorem jwc:jkq a b c d e f p q=jsG c b a d p e f q:=hq Tryz.func178
theorem jqw:jkr a b c d e f p q=jsG c b a d q e f p:=hq Tryz.func178
theorem jz0:G 179 [a,b,c]=j6 a λd=>j6 b λe=>qn d e (je (vb false)) (j6 a λd=>jgD b c a d (vi 0)):=gq Tryz.func179
theorem jqx:jgD a b c d e=jI e d (qx 2 2 c e λf=>jc 2 f λf=>qx 2 2 a e λg=>jc 2 g λg=>(DX.run K (MM K) (.callc b [kq f,kq g] false)).bind λf=>KF f (je (vb false)) (jm e (vi 1) λe=>jgD a b c d e)) (je (vb true)):=hq Tryz.func179
theorem g18:G 18 [a]=kF 45 [a] λa=>kH a 0 λb=>kH a 1 λ_=>kH a 2 λ_=>jc 1 b λa=>brn (jK (jb a 0)) (je (jX a)) none:=gq Tryz.func18
theorem jz1:G 180 [a]=Qm a (vy 65) λb=>jN b a λa=>kI b (jp .leq false a (vy 90)) λa=>j9 b a (vb false) λa=>je a:=gq Tryz.func180
theorem jz2:G 181 [a,b]=jc 2 b λb=>kF 210 [kq b,a] λa=>jfo a (vi 0) λa=>je a:=gq Tryz.func181
theorem jz3:G 182 [a,b]=jc 1 a λa=>kF2 211 [jb a 0,b,A.fn 212 []] λb c=>KF c (je (A.tup [A.agg [sv [],A.sl 2 []],vb false])) (Kd 2 3 (jb a 0) b 1 λa=>jc 2 a λa=>je (A.tup [kq a,vb true])):=gq Tryz.func182
theorem jz4:G 183 [a,b]=jc 3 a λa=>jc 3 b λb=>kF 134 [jb a 0,jb b 0] λa=>je a:=gq Tryz.func183
theorem jz5:G 184 [a]=jc 1 a λa=>jgE (vi 0) (jb a 0):=gq Tryz.func184
theorem jqy:jgE a b=KE a b (qx 3 3 b a λc=>jc 3 c λc=>kFN 100 [jb c 0] λd=>ji d false λ_=>ji d false λ_=>Kc d 125 [A.agg [jb c 1,jb c 2]] λe=>kR d (JM .not e) λe=>j9 d (vb true) e λd=>ji d false λ_=>ji d false λ_=>j4 d (jb c 1) λe=>ji d false λ_=>j4 d (jb c 0) λf=>kR d (jp .eql false e f) λe=>j9 d (vb true) e λd=>j4 d a λe=>kR d (jp .gtr false e (vi 0)) λe=>j4 d e λe=>ji e true λ_=>jN e b λf=>jN e a λg=>kI e (jp .sub false g (vi 1)) λg=>kI e (jq 3 f g) λf=>kI e (yJ f 0) λf=>kI e (kJ f) λf=>ji e true λ_=>jN e (jb c 0) λc=>kI e (jp .geq false f c) λc=>kR d (Jt e c (vb false)) λc=>zK d (vb true) c (je (vb false)) (jm a (vi 1) λa=>jgE a b)) (j6 b λa=>jbP a (vi 12) λa=>je a):=hq Tryz.func184
theorem jz6:G 185 [a]=jc 2 a λa=>kF 125 [kq a] λb=>ji b false λ_=>Kc b 76 [kq a] λa=>j9 b (vb true) a λa=>je a:=gq Tryz.func185
theorem jz7:G 186 [a]=jc 2 a λa=>kF 213 [A.sl 1 [],kq a] λa=>je a:=gq Tryz.func186
theorem jz8:G 187 [a,b]=jc 1 a λa=>jc 1 b λb=>kFN 184 [jX a] λc=>ji c false λ_=>Kc c 184 [jX b] λd=>kR c (JM .not d) λd=>zK c (vb true) d (je (A.tup [A.agg [A.sl 3 []],vb false])) (kF 214 [jX a,jX b] λa=>jc 1 a λa=>kF 184 [jX a] λb=>jnA b a):=gq Tryz.func187
theorem jvS:jkp a b c d=(yV b c d [[sv [88]],[sv [97]]]).bind λb=>jH b 0 λc=>jH b 1 λd=>jH b 2 λe=>jH b 3 λb=>brn (jK b) (brn (jK b) (KN a (sv []) b c d e [] []) none) none:=vq Tryz.func188
theorem jdL:KN a b c d e f p q=zD a (vi 1) (brn (jK c) (qB a (vi 1) λa=>KN a b (sv [102]) d e f p [[c,A.sl 2 q]]) none) (e_5 c d e f q):=hq Tryz.func188
theorem jvT:jgj a b c=ZM (vi 0) a b c (sv []) (sv [103]) [] []:=vq Tryz.func189
theorem Z6:ZM a b c d e f p q=jI a (vi 4) (Q3 a (vi 0) b c d e f (sv [104]) p q []) ((KM (vi 2) b c d).bind λa=>jH a 0 λb=>jH a 1 λc=>jH a 2 λd=>jH a 3 λa=>yT a (kB (zx q) (kZ q 0) (some (vi 3)) λa=>(KM (vi 2) b c d).bind λb=>jH b 0 λc=>jH b 1 λd=>jH b 2 λe=>jH b 3 λb=>ji b true λ_=>ji b true λ_=>jN b (nA (jT a 0)) λg=>kI b (jp .eql false g (vi 3)) λg=>zK b g (vb false) (brn (jfH 0 (jT a 0) [[sv [102],A.sl 2 [[sv [98],A.sl 2 []]]]] q) (brn (jK f) (some (A.top,[c,d,e,A.agg [f,A.sl 2 (List.take ((jT a 0)+(zx [[sv [102],A.sl 2 [[sv [98],A.sl 2 []]]]])) (z8 q (0+(jT a 0)) [[sv [102],A.sl 2 [[sv [98],A.sl 2 []]]]]))]])) none) none) (brn (jK f) (some (A.top,[c,d,e,A.agg [f,A.sl 2 (List.take (jT a 0) q)]])) none)) ((KM (vi 2) b c d).bind λa=>jH a 0 λb=>jH a 1 λc=>jH a 2 λd=>jH a 3 λa=>ji a true λ_=>ji a true λ_=>jN a (zv q) λe=>kI a (jp .eql false e (vi 3)) λe=>zK a e (vb false) (brn (jB ((jh q)+(jh [[sv [102],A.sl 2 [[sv [98],A.sl 2 []]]]])) 40) (brn (jK f) (some (A.top,[b,c,d,A.agg [f,A.sl 2 (jL q [[sv [102],A.sl 2 [[sv [98],A.sl 2 []]]]])]])) none) none) (jkL f b c d q))):=hq Tryz.func189
theorem Z7:Q3 a b c d e f g h p q r=jI b (vi 4) (brn (jB ((jh r)+(jh [[sv [102],A.sl 2 [[sv [97],A.sl 2 []]]]])) 40) (jm b (vi 1) λb=>Q3 a b c d e f g h p q (jL r [[sv [102],A.sl 2 [[sv [97],A.sl 2 []]]]])) none) (brn (jK h) (brn (jB ((jh q)+(jh [[h,A.sl 2 r]])) 40) (jm a (vi 1) λa=>ZM a c d e f g p (jL q [[h,A.sl 2 r]])) none) none):=hq Tryz.func189
theorem g19:G 19 [a]=jc 1 a λa=>kF 35 [jX a] λb=>KF b (je (A.tup [A.sl 1 [],vb false])) (j6 (jb a 0) λb=>jc1 b (vi 0) (jb a 0) []):=gq Tryz.func19
theorem jur:jc1 a b c p=jI b a (j6 c λd=>jhV b a b d (vi 0) c p) (je (A.tup [A.sl 1 p,vb true])):=hq Tryz.func19
theorem jus:jhV a b c d e f p=jI e d (kF2 46 [A.agg [f],a,e] λg h=>jc 1 g λg=>ji h true λ_=>ji h true λ_=>kI h ((G 42 [A.sl 1 p,jX g]).bind (fin true)) λi=>kI h (JM .not i) λi=>zK h i (vb false) (brn (jK (jb g 0)) (brn (jB ((jh p)+(jh [[jb g 0]])) 24) (jm e (vi 1) λe=>jhV a b c d e f (jL p [[jb g 0]])) none) none) (jm e (vi 1) λe=>jhV a b c d e f p)) (jm c (vi 1) λa=>jc1 b a f p):=hq Tryz.func19
theorem jz9:G 190 [a]=jc 2 a λa=>j6 (jb a 1) λb=>jgF (vi 1) (jb a 1) b (vi 0):=gq Tryz.func190
theorem jk3:jgF a b c d=jI d c (qx 2 2 b d λe=>jc 2 e λe=>zD a (vi 30) (je a) (kF 190 [kq e] λe=>jm a e λa=>jm d (vi 1) λd=>jgF a b c d)) (je a):=hq Tryz.func190
theorem jAa:G 191 [a]=jc 2 a λa=>j6 (jb a 1) λb=>jgG (vi 0) (jb a 1) b (vi 0):=gq Tryz.func191
theorem jqz:jgG a b c d=jI d c (qx 2 2 b d λe=>jc 2 e λe=>kF 191 [kq e] λe=>(jli a e).bind λa=>jm d (vi 1) λd=>jgG a b c d) (jm a (vi 1) λa=>je a):=hq Tryz.func191
theorem jAb:G 192 [a,b]=kF 215 [a,b] λa=>Qm a (vi 0) λa=>je a:=gq Tryz.func192
theorem jAc:G 193 [a]=jc 2 a λa=>kFN 158 [kq a] λa=>je a:=gq Tryz.func193
theorem jAd:G 194 [a]=Qm a (vy 97) λb=>jN b a λa=>kI b (jp .leq false a (vy 122)) λa=>j9 b a (vb false) λa=>je a:=gq Tryz.func194
theorem jAe:G 195 [a]=Qm a (vy 48) λb=>jN b a λa=>kI b (jp .leq false a (vy 57)) λa=>j9 b a (vb false) λa=>je a:=gq Tryz.func195
theorem jAf:G 196 []=je (A.sl 1 [[sv [116,114,117,101]],[sv [102,97,108,115,101]],[sv [116,114,117,116,104]],[sv [98,111,116,104]],[sv [101,105,116,104,101,114]],[sv [105,102]],[sv [97,108,108]],[sv [115,111,109,101]]]):=gq Tryz.func196
theorem jAg:G 199 [a,b]=j6 a λc=>jgH a b c (vi 0):=gq Tryz.func199
theorem jqA:jgH a b c d=jI d c (kIP 1 a d λe=>kS b e (je d) (jm d (vi 1) λd=>jgH a b c d)) (je (vi (- 1))):=hq Tryz.func199
theorem g20:G 20 [a]=jc 1 a λa=>kF 43 [jX a] λb=>KF b (je (A.tup [A.sl 1 [],vb false])) (jc2 (vi 0) (jb a 0) []):=gq Tryz.func20
theorem jut:jc2 a b p=KE a b (jm a (vi 1) λc=>jhW a c b p) ((G 48 [A.sl 1 p]).bind λa=>zh a λa=>je (A.tup [a,vb true])):=hq Tryz.func20
theorem juu:jhW a b c p=KE b c (kF2 47 [A.agg [c],a,b] λd e=>jc 1 d λd=>yT e (brn (jK (jb d 0)) (brn (jB ((jh p)+(jh [[jb d 0]])) 24) (jm b (vi 1) λb=>jhW a b c (jL p [[jb d 0]])) none) none) (jm b (vi 1) λb=>jhW a b c p)) (jm a (vi 1) λa=>jc2 a c p):=hq Tryz.func20
theorem g21:G 21 [a]=brn (jK a) (brn (jK a) ((jhR a (vi 0) (A.val (.int .u64 0))).bind λa=>jH a 0 λb=>jH a 1 λc=>jH a 2 λd=>jH a 3 λa=>jc 1 a λa=>jp3 (vi 0) b c d (jb a 0) [] []) none) none:=gq Tryz.func21
theorem jwX:jp3 a b c d e p q=KE a e (jcr 3 e a 0 λf=>ji f false λ_=>ji f false λg=>brn g ((KM (vi 16) b c d).bind λb=>jH b 0 λc=>jH b 1 λd=>jH b 2 λg=>jH b 3 λb=>zK f (vb true) b (jm a (vi 1) λa=>jp3 a c d g e p q) (jpD c d g e a p q)) (zK f (vb true) (A.val undef) (jm a (vi 1) λa=>jp3 a b c d e p q) (jpD b c d e a p q))) (brn (jK e) (je (A.tup [A.agg [e],A.sl 1 p])) none):=hq Tryz.func21
theorem jAh:G 210 [a,b]=jc 2 a λa=>kS (jb a 0) b (j6 (jb a 1) λc=>jc3 b (vi 1) (jb a 1) c (vi 0)) (j6 (jb a 1) λc=>jc3 b (vi 0) (jb a 1) c (vi 0)):=gq Tryz.func210
theorem jqB:jc3 a b c d e=jI e d (qx 2 2 c e λf=>jc 2 f λf=>kF 210 [kq f,a] λf=>jm b f λb=>jm e (vi 1) λe=>jc3 a b c d e) (je b):=hq Tryz.func210
theorem jAi:G 211 [a,b,c]=j6 a λd=>jc4 a b c d (vi 0) d:=gq Tryz.func211
theorem jqC:jc4 a b c d e f=jI e f (jm e f λg=>(Js .u64 g).bind λg=>jmE g (A.val (.int .u64 1)) λg=>(Js .i64 g).bind λg=>qx 3 3 a g λh=>(DX.run K (MM K) (.callc c [h,b] false)).bind λh=>jI h (vi 0) (jm g (vi 1) λe=>jc4 a b c d e f) (jc4 a b c d e g)) (qA e d λd=>jN d c λc=>jN d a λa=>jN d e λf=>kI d (jq 3 a f) λa=>kI d (jZ 3 a) λa=>jN d b λb=>kI d (DX.run K (MM K) (.callc c [a,b] false)) λa=>kI d (jp .eql false a (vi 0)) λa=>j9 d a (vb false) λa=>je (A.tup [e,a])):=hq Tryz.func211
theorem jAj:G 212 [a,b]=jc 3 a λa=>kF 134 [jb a 0,b] λa=>je a:=gq Tryz.func212
theorem jAk:G 213 [a,b]=jc 2 b λb=>kF 100 [jb b 0] λc=>yT c (kF 233 [a,jb b 0] λa=>je a) (jgI a (vi 0) (jb b 0) (jb b 1)):=gq Tryz.func213
theorem jqD:jgI a b c d=KE b d (qx 2 2 d b λe=>kF 213 [a,e] λa=>jm b (vi 1) λb=>jgI a b c d) (je a):=hq Tryz.func213
theorem jAl:G 214 [a,b]=jc 1 a λa=>jc 1 b λb=>jgJ (vi 0) (jb a 0) (jb b 0) [] []:=gq Tryz.func214
theorem jqE:jgJ a b c p q=KE a b (jcr 3 b a 0 λd=>Kd 2 3 b a 1 λe=>(G 50 [A.agg [c],e]).bind λe=>zh e λe=>(jgd d e q).bind λd=>Jl 3 d 0 λd=>jm a (vi 1) λa=>jgJ a b c p d) (jc5 (vi 0) b c p q):=hq Tryz.func214
theorem jqF:jc5 a b c p q=KE a c (jcr 3 c a 0 λd=>kF 101 [A.agg [b],d] λd=>jI d (vi 0) (jcr 3 c a 0 λd=>Kd 2 3 c a 1 λe=>(jgd d e q).bind λd=>Jl 3 d 0 λd=>jm a (vi 1) λa=>jc5 a b c p d) (jm a (vi 1) λa=>jc5 a b c p q)) (je (A.agg [A.sl 3 q])):=hq Tryz.func214
theorem jAm:G 215 [a,b]=j6 a λc=>jgK a b c (vi 0):=gq Tryz.func215
theorem jqG:jgK a b c d=jI d c (qx 2 2 a d λe=>(DX.run K (MM K) (.callc b [e] false)).bind λe=>yT e (je d) (jm d (vi 1) λd=>jgK a b c d)) (je (vi (- 1))):=hq Tryz.func215
theorem g22:G 22 [a,b]=jc 1 a λa=>kFN 35 [jX a] λc=>j4 c b λd=>kR c (zu d) λd=>kR c (jp .gtr false d (vi 4)) λd=>zK c (vb true) d (je (A.tup [A.agg [A.sl 3 []],vb false])) (j6 (jb a 0) λc=>jv9 b (vi 0) (jb a 0) c (vi 0) (jb a 0) []):=gq Tryz.func22
theorem jAS:jv9 a b c d e f p=jI e d (qx 3 3 c e λg=>jc 3 g λg=>kF 54 [jb g 0] λg=>qB (vi 1) g λg=>jm b g λb=>jm e (vi 1) λe=>jv9 a b c d e f p) (j6 a λc=>KW b c λb=>j4 b a λc=>Kc b 55 [c,A.fn 56 []] λc=>zK b (vb true) c (je (A.tup [A.agg [A.sl 3 []],vb false])) (kF 59 [A.agg [f]] λb=>jc 1 b λb=>j6 a λc=>jyP a c (vi 0) (jb b 0) p)):=hq Tryz.func22
theorem jBs:jyP a b c d p=jI c b (qx 1 1 a c λe=>jc 1 e λe=>kF 60 [d,A.fn 58 []] λf=>kF2 61 [A.agg [d],f,jX e] λd e=>jc 1 d λd=>KF e (je (A.tup [A.agg [A.sl 3 []],vb false])) (brn (jK (jb d 0)) (jm c (vi 1) λc=>jyP a b c (jb d 0) p) none)) (brn (jK d) (je (A.tup [A.agg [d],vb true])) none):=hq Tryz.func22
theorem g23:G 23 [a,b]=jc 1 a λa=>kFN 43 [jX a] λc=>j4 c b λd=>kR c (zu d) λd=>kR c (jp .gtr false d (vi 4)) λd=>zK c (vb true) d (je (A.tup [A.agg [A.sl 3 []],vb false])) (jp4 b (vi 0) (vi 0) (jb a 0) []):=gq Tryz.func23
theorem jAT:jp4 a b c d p=KE c d (jcr 3 d c 0 λe=>KF e (jm b (vi 1) λb=>jm c (vi 1) λc=>jp4 a b c d p) (jm c (vi 1) λc=>jp4 a b c d p)) (j6 a λc=>qn b c (je (A.tup [A.agg [A.sl 3 []],vb false])) (jwQ a b (vi 0) d p)):=hq Tryz.func23
theorem jBY:jwQ a b c d p=jI c b (qx 1 1 a c λe=>kFN 43 [e] λe=>j4 e a λf=>j4 e c λg=>kR e (jq 1 f g) λf=>kR e (jZ 1 f) λf=>Kc e 62 [f] λf=>kR e (jp .geq false f (vi 0)) λf=>zK e (vb true) f (je (A.tup [A.agg [A.sl 3 []],vb false])) (jm c (vi 1) λc=>jwQ a b c d p)) (kF 63 [A.agg [d]] λc=>jc 1 c λc=>jy7 a b (vi 0) (jb c 0) p):=hq Tryz.func23
theorem jBt:jy7 a b c d p=jI c b (qx 1 1 a c λe=>kF2 64 [A.agg [d],e] λd e=>jc 1 d λd=>KF e (je (A.tup [A.agg [A.sl 3 []],vb false])) (brn (jK (jb d 0)) (jm c (vi 1) λc=>jy7 a b c (jb d 0) p) none)) (brn (jK d) (je (A.tup [A.agg [d],vb true])) none):=hq Tryz.func23
theorem jAn:G 233 [a,b]=jgL a b (vi 0):=gq Tryz.func233
theorem jqH:jgL a b c=j6 a λd=>qA c d λd=>jN d a λe=>jN d c λf=>kI d (jq 1 e f) λe=>kI d (kJ e) λe=>jN d b λf=>kI d (jp .lss false e f) λe=>zK d e (vb false) (jm c (vi 1) λc=>jgL a b c) (j6 a λd=>qA c d λd=>jN d a λe=>jN d c λf=>kI d (jq 1 e f) λe=>kI d (kJ e) λe=>jN d b λf=>kI d (jp .eql false e f) λe=>zK d e (vb false) (je a) (kSl 1 a none (some c) λd=>kRs 1 d λd=>brn (jB (jh d) 16) (brn (jK b) (brn (jB ((jh d)+(jh [[b]])) 16) (kSl 1 a (some c) none λa=>kRs 1 a λa=>brn (jB ((jh (jL d [[b]]))+(jh a)) 16) (je (A.sl 1 (jL (jL d [[b]]) a))) none) none) none) none)):=hq Tryz.func233
theorem g24:G 24 [a]=brn (jK a) (brn (jK a) ((qh (vi 5) a (vi 0) (A.val (.int .u64 0))).bind λa=>jH a 0 λb=>jH a 1 λc=>jH a 2 λd=>jH a 3 λa=>jwR a b c d []) none) none:=gq Tryz.func24
theorem jAX:jwR a b c d p=zD a (vi 0) ((jlN b c d).bind λb=>jH b 0 λc=>jH b 1 λd=>jH b 2 λe=>jH b 3 λf=>jH b 4 λg=>Jl 2 b 5 λb=>brn (jK f) (brn (jK g) (brn (jK f) (brn (jK g) ((G 53 [A.sl 3 [[f,g,A.sl 2 b]]]).bind λb=>zh b λb=>(G 32 [b]).bind λb=>zh b λb=>kH b 0 λf=>kH b 1 λ_=>jc 1 f λb=>brn (jK (jb b 0)) (brn (jB ((jh p)+(jh [[jb b 0]])) 24) ((KM (vi 3) c d e).bind λc=>jH c 0 λd=>jH c 1 λe=>jH c 2 λf=>jH c 3 λc=>yT c ((joY (jb b 0) d e f).bind λc=>jH c 0 λd=>jH c 1 λe=>jH c 2 λf=>jH c 3 λc=>jc 1 c λc=>brn (jB ((jh (jL p [[jb b 0]]))+(jh [[jb c 0]])) 24) (qB a (vi 1) λa=>jwR a d e f (jL (jL p [[jb b 0]]) [[jb c 0]])) none) (qB a (vi 1) λa=>jwR a d e f (jL p [[jb b 0]]))) none) none) none) none) none) none) ((KM (vi 16) b c d).bind λa=>jH a 0 λb=>jH a 1 λc=>jH a 2 λd=>jH a 3 λa=>yT a ((jo1 b c d).bind λa=>jH a 0 λ_=>jH a 1 λ_=>jH a 2 λ_=>jH a 3 λa=>jc 1 a λa=>brn (jB ((jh p)+(jh [[jb a 0]])) 24) (je (A.sl 1 (jL p [[jb a 0]]))) none) (je (A.sl 1 p))):=hq Tryz.func24
theorem g25:G 25 [a]=j6 a λb=>jfo b (vi 30) λb=>j4 b a λc=>Kc b 55 [c,A.fn 68 []] λc=>zK b (vb true) c (je (A.tup [vi 0,vi 0,vb false])) (j6 a λb=>jwS a a b (vi 0)):=gq Tryz.func25
theorem jBZ:jwS a b c d=jI d c (qx 1 1 b d λe=>jc 1 e λe=>jm d (vi 1) λf=>jwT a d f b c d (jb e 0)) (je (A.tup [vi 0,vi 0,vb false])):=hq Tryz.func25
theorem jwY:jwT a b c d e f g=KE c a (j6 g λh=>KW h (vi 1) λh=>j4 h a λi=>j4 h c λj=>kR h (jq 1 i j) λi=>kR h (yJ i 0) λi=>kR h (kJ i) λi=>kR h (zu i) λi=>kR h (jp .neq false i (vi 1)) λi=>zK h (vb true) i (jm c (vi 1) λc=>jwT a b c d e f g) (qx 1 1 a c λh=>kF2 41 [A.agg [g],vi 0,h,vi 0] λh i=>jc 1 h λh=>ji i true λ_=>jN i (jb h 0) λh=>kI i (zu h) λh=>kI i (jp .eql false h (vi 0)) λh=>zK i h (vb false) (je (A.tup [b,c,vb true])) (jm c (vi 1) λc=>jwT a b c d e f g))) (jm f (vi 1) λb=>jwS a d e b):=hq Tryz.func25
theorem g26:G 26 [a]=j6 a λb=>zD b (vi 30) (je (A.tup [vi 0,vi 0,vb false])) (jza a (vi 0)):=gq Tryz.func26
theorem jB0:jza a b=KE b a (qx 1 1 a b λc=>kF 43 [c] λc=>KF c (je (A.tup [vi 0,vi 0,vb false])) (jm b (vi 1) λb=>jza a b)) (jqU a (vi 0)):=hq Tryz.func26
theorem jB1:jqU a b=KE b a (jm b (vi 1) λc=>jwU a b c) (je (A.tup [vi 0,vi 0,vb false])):=hq Tryz.func26
theorem jxA:jwU a b c=KE c a (jcr 1 a b 0 λd=>j6 d λd=>KW d (vi 1) λd=>j4 d a λe=>j4 d c λf=>kR d (jq 1 e f) λe=>kR d (yJ e 0) λe=>kR d (kJ e) λe=>kR d (zu e) λe=>kR d (jp .neq false e (vi 1)) λe=>zK d (vb true) e (jm c (vi 1) λc=>jwU a b c) (qx 1 1 a b λd=>qx 1 1 a c λe=>kF2 69 [d,vi 0,e,vi 0] λd e=>jc 1 d λ_=>yT e (je (A.tup [b,c,vb true])) (jm c (vi 1) λc=>jwU a b c))) (jm b (vi 1) λb=>jqU a b):=hq Tryz.func26
theorem g28:G 28 [a]=jc 1 a λa=>j6 (jb a 0) λb=>jlR (jb a 0) b (vi 0) (jb a 0):=gq Tryz.func28
theorem juv:jlR a b c d=jI c b (qx 3 3 a c λe=>jc 3 e λe=>kFN 70 [jg6 e] λf=>j4 f c λg=>kR f (jp .gtr false g (vi 0)) λg=>j4 f g λg=>ji g true λ_=>jN g d λh=>jN g c λi=>kI g (jp .sub false i (vi 1)) λi=>kI g (jq 3 h i) λh=>kI g (jZ 3 h) λh=>ji g true λ_=>zS g 71 [h,jg6 e] λe=>kI g (jp .geq false e (vi 0)) λe=>kR f (Jt g e (vb false)) λe=>zK f (vb true) e (je (vb false)) (jm c (vi 1) λc=>jlR a b c d)) (j6 d λa=>jbP a (vi 8) λa=>je a):=hq Tryz.func28
theorem g29:G 29 [a]=jc 1 a λa=>kF 28 [jX a] λb=>jnA b a:=gq Tryz.func29
theorem g30:G 30 [a]=jc 1 a λa=>kF 59 [jX a] λa=>jc 1 a λa=>jlS (vi 0) (jb a 0) []:=gq Tryz.func30
theorem juw:jlS a b p=qA a (vi 10) λc=>ji c true λ_=>zS c 72 [A.agg [b]] λd=>kI c (JM .not d) λd=>zK c d (vb false) (kF 75 [A.agg [b]] λc=>kF 74 [c,sv [88]] λc=>(G 73 [A.agg [b],c]).bind λb=>zh b λb=>jc 1 b λb=>jm a (vi 1) λa=>jlS a (jb b 0) p) (brn (jK b) (je (A.agg [b])) none):=hq Tryz.func30
theorem g31:G 31 [a]=jc 1 a λa=>j6 (jb a 0) λb=>zD b (vi 8) (je (vb false)) (jlT (vi 0) (jb a 0)):=gq Tryz.func31
theorem jux:jlT a b=KE a b (Kd 2 3 b a 1 λc=>kFN 76 [c] λc=>j4 c a λd=>kR c (jp .gtr false d (vi 0)) λd=>j4 c d λd=>ji d true λ_=>jN d b λe=>jN d a λf=>kI d (jp .sub false f (vi 1)) λf=>kI d (jq 3 e f) λe=>kI d (jZ 3 e) λe=>ji d true λ_=>jN d b λf=>jN d a λg=>kI d (jq 3 f g) λf=>kI d (jZ 3 f) λf=>zS d 77 [e,f] λe=>kI d (jp .geq false e (vi 0)) λe=>kR c (Jt d e (vb false)) λd=>zK c (vb true) d (je (vb false)) (jm a (vi 1) λa=>jlT a b)) (je (vb true)):=hq Tryz.func31
theorem g32:G 32 [a]=jc 1 a λa=>(G 53 [jb a 0]).bind λa=>zh a λa=>jc 1 a λa=>jlU (vi 0) (jb a 0) []:=gq Tryz.func32
theorem juy:jlU a b p=qA a (vi 10) λc=>ji c true λ_=>zS c 78 [A.agg [b]] λd=>kI c (JM .not d) λd=>zK c d (vb false) (kF 80 [A.agg [b]] λc=>kF 79 [A.agg [b],c,sv [88]] λb=>jc 1 b λb=>jm a (vi 1) λa=>jlU a (jb b 0) p) (kF 31 [A.agg [b]] λa=>brn (jK b) (je (A.tup [A.agg [b],a])) none):=hq Tryz.func32
theorem g35:G 35 [a]=jc 1 a λa=>kF 28 [jX a] λb=>ji b true λ_=>zS b 72 [jX a] λa=>j9 b a (vb false) λa=>je a:=gq Tryz.func35
theorem g36:G 36 [a]=jc 1 a λa=>kF 75 [jX a] λb=>j6 b λc=>jlV b c (vi 0) (jb a 0) [] []:=gq Tryz.func36
theorem juz:jlV a b c d p q=jI c b (kIP 1 a c λe=>(JD e (some (vi 1)) none).bind λf=>jm (sv [89]) f λf=>(jof none p e f).bind λe=>jm c (vi 1) λc=>jlV a b c d e q) ((G 73 [A.agg [d],A.mp p]).bind λa=>zh a λa=>jc 1 a λa=>je (jX a)):=hq Tryz.func36
theorem g37:G 37 [a,b]=jc 1 b λb=>jlW a (vi 0) (jb b 0) []:=gq Tryz.func37
theorem juA:jlW a b c p=KE b c (Kd 2 3 c b 1 λd=>(jhQ d p).bind λd=>Jl 1 d 0 λd=>jm b (vi 1) λb=>jlW a b c d) (zR a (vi 1) λa=>ji a false λ_=>j4 a (zv p) λb=>kR a (jp .leq false b (vi 4)) λb=>j9 a (vb true) b λa=>je a):=hq Tryz.func37
theorem g38:G 38 [a,b,c]=jc 1 c λc=>jlX a b (vi 0) (jb c 0) []:=gq Tryz.func38
theorem juB:jlX a b c d p=KE c d (Kd 2 3 d c 1 λe=>(jhQ e p).bind λe=>Jl 1 e 0 λe=>jm c (vi 1) λc=>jlX a b c d e) (jhX a b (vi 1) (vi 0) d p):=hq Tryz.func38
theorem jqJ:jhX a b c d e p=qA d (zv p) λf=>jN f c λg=>kI f (jp .lss false g (vi 200)) λg=>zK f g (vb false) (Qn c b λc=>jm d (vi 1) λd=>jhX a b c d e p) (jc6 a b c (vi 0) e p):=hq Tryz.func38
theorem jqK:jc6 a b c d e p=jI d c (jlY a b c d d (vi 0) e p [] []) (je (vb true)):=hq Tryz.func38
theorem juC:jlY a b c d e f g p q r=jI f (zv p) (qV (jh p) f λh=>kRP p h 0 λh=>(jp .rem false e b).bind λi=>(jo2 h i q r).bind λh=>Jl 1 h 0 λ_=>Jl 1 h 1 λ_=>Jl 1 h 2 λi=>Jl 1 h 3 λh=>jiJ e b λe=>jm f (vi 1) λf=>jlY a b c d e f g p i h) (jhY a b c d (vb false) (vi 0) g p q r):=hq Tryz.func38
theorem juD:jhY a b c d e f g p q r=j6 g λh=>qA f h λh=>jN h e λi=>kI h (JM .not i) λi=>zK h i (vb false) (Kd 2 3 g f 1 λe=>kfn true (G 84 [a,b,A.agg [A.sl 1 q,A.sl 1 r],e]) λe=>jcr 3 g f 0 λh=>(jp .eql true e h).bind λe=>jm f (vi 1) λf=>jhY a b c d e f g p q r) (KF e (je (vb false)) (jm d (vi 1) λd=>jc6 a b c d g p)):=hq Tryz.func38
theorem jxg:jhR a b c=(KM (vi 16) a b c).bind λa=>jH a 0 λb=>jH a 1 λc=>jH a 2 λd=>jH a 3 λa=>yT a ((jo1 b c d).bind λa=>jsI a) (jsJ b c d):=vq Tryz.func39
theorem g4:G 4 [a]=kF 6 [a] λb=>yT b (je (vb true)) (kF2 15 [a] λb c=>jc 1 b λb=>jc 1 c λc=>kF2 16 [jX b,jX c] λd e=>kF2 17 [jX b,jX c] λf g=>(jp .neq true e g).bind λe=>j4 e d λg=>kR e (zu g) λg=>j4 e f λf=>kR e (zu f) λf=>kR e (jp .neq false g f) λf=>zK e (vb true) f (je (vb false)) (jsc a d (vi 0) (jb b 0) (jb c 0))):=gq Tryz.func4
theorem jxR:jsc a b c d e=KE c b (brn (jK d) (brn (jK e) (qx 1 1 b c λf=>kfn true (G 14 [a,A.sl 1 [[d],[e]],f]) λf=>KF f (je (vb false)) (jm c (vi 1) λc=>jsc a b c d e)) none) none) (kF 18 [a] λb=>jc 1 b λb=>kF2 19 [jX b] λc d=>kF2 20 [jX b] λ_ e=>(jp .neq true d e).bind λd=>yT d (je (vb false)) (jsd a c (vi 0) (jb b 0))):=hq Tryz.func4
theorem jxS:jsd a b c d=KE c b (brn (jK d) (qx 1 1 b c λe=>kfn true (G 14 [a,A.sl 1 [[d]],e]) λe=>KF e (je (vb false)) (jm c (vi 1) λc=>jsd a b c d)) none) (je (vb true)):=hq Tryz.func4
theorem jxh:joY a b c d=brn (jK a) (j6 a λe=>zR e (vi 0) λe=>ji e false λ_=>ji e false λf=>brn f ((KM (vi 6) b c d).bind λb=>jH b 0 λc=>jH b 1 λd=>jH b 2 λf=>jH b 3 λb=>zK e (vb true) b (jsK c d f) (jsL a c d f)) (zK e (vb true) (A.val undef) (jsK b c d) (jsL a b c d))) none:=vq Tryz.func40
theorem g41:G 41 [a,b,c,d]=jc 1 a λa=>jc 1 c λc=>kFN 87 [jX a,b] λe=>ji e false λ_=>j4 e d λf=>Kc e 87 [jX c,f] λf=>kR e (JM .not f) λf=>j9 e (vb true) f λe=>ji e false λ_=>j4 e (jb a 0) λf=>j4 e b λg=>kR e (jq 3 f g) λf=>kR e (yJ f 0) λf=>kR e (kJ f) λf=>ji e false λ_=>j4 e (jb c 0) λg=>j4 e d λh=>kR e (jq 3 g h) λg=>kR e (yJ g 0) λg=>kR e (kJ g) λg=>kR e (jp .eql true f g) λf=>zK e (vb true) f (je (A.tup [A.agg [A.sl 3 []],vb false])) (kF 36 [jX c] λc=>jc 1 c λc=>Kd 2 3 (jb a 0) b 1 λe=>Kd 2 3 (jb c 0) d 1 λf=>kF2 88 [e,f] λe f=>jc 1 e λe=>KF f (je (A.tup [A.agg [A.sl 3 []],vb false])) (kF 91 [jX a,b] λa=>kF 91 [jX c,d] λb=>brn (jK a) (brn (jK b) ((jlO [[a],[b]]).bind λa=>Jl 3 a 0 λa=>(G 89 [jX e,A.sl 3 a]).bind λa=>zh a λa=>kH a 0 λb=>kH a 1 λa=>jc 1 b λb=>je (A.tup [jX b,a])) none) none)):=gq Tryz.func41
theorem g42:G 42 [a,b]=jc 1 b λb=>kfn true (G 55 [a,A.fn 92 [A.elt [jb b 0] 0]]) λa=>je a:=gq Tryz.func42
theorem g43:G 43 [a]=jc 1 a λa=>kF 31 [jX a] λb=>ji b true λ_=>zS b 78 [jX a] λa=>j9 b a (vb false) λa=>je a:=gq Tryz.func43
theorem g44:G 44 [a,b]=jc 1 a λa=>jc 1 b λb=>jc7 (vi 0) (jb a 0) (jb b 0) []:=gq Tryz.func44
theorem juE:jc7 a b c p=KE a b (jhZ a (vi 0) b c p) ((G 48 [A.sl 1 p]).bind λa=>zh a λa=>je a):=hq Tryz.func44
theorem juF:jhZ a b c d p=KE b d (kF2 69 [A.agg [c],a,A.agg [d],b] λe f=>jc 1 e λe=>yT f (brn (jK (jb e 0)) (brn (jB ((jh p)+(jh [[jb e 0]])) 24) (jm b (vi 1) λb=>jhZ a b c d (jL p [[jb e 0]])) none) none) (jm b (vi 1) λb=>jhZ a b c d p)) (jm a (vi 1) λa=>jc7 a c d p):=hq Tryz.func44
theorem g45:G 45 [a]=brn (jK a) (brn (jK a) ((jhR a (vi 0) (A.val (.int .u64 0))).bind λa=>jH a 0 λb=>jH a 1 λc=>jH a 2 λd=>jH a 3 λa=>jc 1 a λa=>j6 (jb a 0) λe=>jfo e (vi 0) λe=>ji e true λ_=>ji e true λf=>brn f ((KM (vi 2) b c d).bind λb=>jH b 0 λc=>jH b 1 λd=>jH b 2 λf=>jH b 3 λb=>zK e b (vb false) (jsM a c d f) (jsN a c d f)) (zK e (A.val undef) (vb false) (jsM a b c d) (jsN a b c d))) none) none:=gq Tryz.func45
theorem g46:G 46 [a,b,c]=jc 1 a λa=>kFN 87 [jX a,b] λd=>ji d false λ_=>j4 d c λe=>Kc d 87 [jX a,e] λe=>kR d (JM .not e) λe=>j9 d (vb true) e λd=>j4 d b λe=>j4 d c λf=>kR d (jp .geq false e f) λe=>j9 d (vb true) e λd=>ji d false λ_=>j4 d (jb a 0) λe=>j4 d b λf=>kR d (jq 3 e f) λe=>kR d (yJ e 0) λe=>kR d (kJ e) λe=>ji d false λ_=>j4 d (jb a 0) λf=>j4 d c λg=>kR d (jq 3 f g) λf=>kR d (yJ f 0) λf=>kR d (kJ f) λf=>kR d (jp .neq true e f) λe=>zK d (vb true) e (je (A.tup [A.agg [A.sl 3 []],vb false])) (Kd 2 3 (jb a 0) b 1 λb=>Kd 2 3 (jb a 0) c 1 λd=>kF2 88 [b,d] λb d=>jc 1 b λb=>KF d (je (A.tup [A.agg [A.sl 3 []],vb false])) (kF 91 [jX a,c] λa=>(G 89 [jX b,a]).bind λa=>zh a λa=>kH a 0 λb=>kH a 1 λa=>jc 1 b λb=>je (A.tup [jX b,a]))):=gq Tryz.func46
theorem g47:G 47 [a,b,c]=jc 1 a λa=>j6 (jb a 0) λd=>qB d (vi 1) λd=>kFN 95 [b,vi 0,d] λd=>j4 d c λe=>j4 d b λf=>kR d (jp .add false f (vi 1)) λf=>ji d false λ_=>j4 d (jb a 0) λg=>kR d (zu g) λg=>kR d (jp .sub false g (vi 1)) λg=>Kc d 95 [e,f,g] λe=>kR d (JM .not e) λe=>j9 d (vb true) e λd=>ji d false λ_=>j4 d (jb a 0) λe=>j4 d b λf=>kR d (jq 3 e f) λe=>kR d (yJ e 0) λe=>kR d (kJ e) λe=>ji d false λ_=>j4 d (jb a 0) λf=>j4 d c λg=>kR d (jq 3 f g) λf=>kR d (yJ f 0) λf=>kR d (kJ f) λf=>kR d (jp .neq true e f) λe=>zK d (vb true) e (je (A.tup [A.agg [A.sl 3 []],vb false])) (Kd 2 3 (jb a 0) b 1 λb=>Kd 2 3 (jb a 0) c 1 λd=>kF2 96 [b,d] λb d=>jc 1 b λb=>KF d (je (A.tup [A.agg [A.sl 3 []],vb false])) ((jhS (jb a 0) c).bind λa=>Jl 3 a 0 λa=>(G 97 [jX b,A.sl 3 a]).bind λa=>zh a λa=>kH a 0 λb=>kH a 1 λa=>jc 1 b λb=>je (A.tup [jX b,a]))):=gq Tryz.func47
theorem g48:G 48 [a]=jc8 a (vi 0) []:=gq Tryz.func48
theorem juG:jc8 a b p=KE b a (jh0 a b (vb false) (vi 0) p) (je (A.sl 1 p)):=hq Tryz.func48
theorem juH:jh0 a b c d p=jI d (zv p) (ji c false λ_=>j4 c d λe=>ji c false λf=>brn f (qV (jh p) e λe=>kR c (z7 p e 0 1) λe=>jsO c a b e d p) (kR c (jZ 1 (A.val undef)) λe=>jsO c a b e d p)) (KF c (qx 1 1 a b λc=>jc 1 c λc=>brn (jB ((jh p)+(jh [[jb c 0]])) 24) (jm b (vi 1) λb=>jc8 a b (jL p [[jb c 0]])) none) (jm b (vi 1) λb=>jc8 a b p)):=hq Tryz.func48
theorem jxi:KM a b c d=(qh a b c d).bind λa=>jH a 0 λb=>jH a 1 λc=>jH a 2 λd=>jH a 3 λa=>zR a (vi 0) λa=>some (A.top,[b,c,d,a]):=vq Tryz.func49
theorem g5:G 5 [a]=kF 6 [a] λb=>yT b (je (vb true)) (kF2 21 [a] λb c=>jc 1 b λb=>kF2 22 [jX b,c] λd e=>jc 1 d λd=>kF2 23 [jX b,c] λf g=>jc 1 f λ_=>(jp .neq true e g).bind λf=>yT f (je (vb false)) (jN e a λf=>ji e true λ_=>ji e true λg=>brn g (brn (jK (jb b 0)) (jN e c λc=>ji e true λg=>brn g (kRs 1 c λc=>brn (jB ((jh [[jb b 0]])+(jh c)) 24) (ji e true λ_=>kI e ((G 14 [f,A.sl 1 (jL [[jb b 0]] c),jX d]).bind (fin true)) λb=>jsP e b a d) none) (jsQ e f d a)) none) (jN e c λ_=>ji e true λb=>brn b none (jsQ e f d a)))):=gq Tryz.func5
theorem jCv:jyT a b c=KE b c (jcr 3 c b 0 λd=>KF d (je (vb false)) (jm b (vi 1) λb=>jyT a b c)) (kF 24 [a] λb=>kF 25 [b] λc=>kH c 0 λd=>kH c 1 λe=>kH c 2 λc=>kF 26 [b] λf=>kH f 0 λ_=>kH f 1 λ_=>kH f 2 λf=>(jp .neq true c f).bind λf=>yT f (je (vb false)) (QA c λc=>j4 c d λf=>j4 c e λg=>kR c (jp .lss false f g) λf=>j4 c f λf=>jN f a λa=>jN f b λg=>jN f d λd=>kI f (jq 1 g d) λd=>kI f (jZ 1 d) λd=>jN f b λb=>jN f e λe=>kI f (jq 1 b e) λb=>kI f (jZ 1 b) λb=>ji f true λe=>brn e (jc 1 d λd=>jc 1 b λb=>ji f true λe=>brn e (kI f ((G 14 [a,A.sl 1 [[jb d 0],[jb b 0]],A.agg [A.sl 3 []]]).bind (fin true)) λa=>kR c (Jt f a (vb false)) λa=>j9 c (vb true) a λa=>je a) (kI f ((G 14 [a,A.sl 1 [[jb d 0],[jb b 0]],A.val undef]).bind (fin true)) λa=>kR c (Jt f a (vb false)) λa=>j9 c (vb true) a λa=>je a)) (ji f true λb=>brn b (zS f 14 [a,A.val undef,A.agg [A.sl 3 []]] λa=>kR c (Jt f a (vb false)) λa=>j9 c (vb true) a λa=>je a) (zS f 14 [a,A.val undef,A.val undef] λa=>kR c (Jt f a (vb false)) λa=>j9 c (vb true) a λa=>je a)))):=hq Tryz.func5
theorem g50:G 50 [a,b]=jc 1 a λa=>jc 2 b λb=>kF 100 [jb b 0] λc=>yT c (kF 101 [jX a,jb b 0] λc=>jdE c (vi 0) (Kd 2 3 (jb a 0) c 1 λa=>(G 102 [a]).bind λa=>zh a λa=>jc 2 a λa=>je (kq a)) (jsF b)) (brn (jK (jb b 0)) (brn (jK (jb b 0)) (jlZ (vi 0) (jb a 0) (jb b 0) (jb b 1) (sv []) (jb b 0) [] []) none) none):=gq Tryz.func50
theorem juI:jlZ a b c d e f p q=KE a d (qx 2 2 d a λg=>(G 50 [A.agg [b],g]).bind λg=>zh g λg=>jc 2 g λg=>brn (jB ((jh q)+(jh [[jb g 0,jb g 1]])) 40) (jm a (vi 1) λa=>jlZ a b c d e f p (jL q [[jb g 0,jb g 1]])) none) (brn (jK f) (je (A.agg [f,A.sl 2 q])) none):=hq Tryz.func50
theorem jxj:jlM a b c=Q4 (zv [[sv [85]],[sv [88]],[sv [89]],[sv [90]]]) (vi 0) a b c [[sv [85]],[sv [88]],[sv [89]],[sv [90]]] [] []:=vq Tryz.func51
theorem jmH:Q4 a b c d e p q r=jI b a (qV (jh p) b λf=>kRP p f 0 λf=>(KM (vi 2) c d e).bind λc=>jH c 0 λd=>jH c 1 λe=>jH c 2 λg=>jH c 3 λc=>yT c ((JP d e g).bind λc=>jH c 0 λd=>jH c 1 λe=>jH c 2 λg=>jH c 3 λh=>Jl 2 c 4 λc=>(jkg f h r c).bind λc=>Jl 3 c 0 λc=>jm b (vi 1) λb=>Q4 a b d e g p q c) (jm b (vi 1) λb=>Q4 a b d e g p q r)) (some (A.top,[c,d,e,A.agg [A.sl 3 r]])):=hq Tryz.func51
theorem jxk:joZ a b c=(qh (vi 8) a b c).bind λa=>jH a 0 λb=>jH a 1 λc=>jH a 2 λd=>jH a 3 λa=>zR a (vi 0) λe=>yT e (yT e (jsR b c d) (jsS a b c d)) (kS a (vi 1) (jsR b c d) (jsS a b c d)):=vq Tryz.func52
theorem g53:G 53 [a]=je7 a (vi 0) [] []:=gq Tryz.func53
theorem juJ:je7 a b p q=KE b a (jl0 a b (vi 0) p q) (je (A.agg [A.sl 3 p])):=hq Tryz.func53
theorem juK:jl0 a b c p q=qA c (zv p) λd=>ji d true λ_=>jN d c λe=>ji d true λf=>brn f (qV (jh p) e λe=>kI d (z7 p e 0 3) λe=>jsV d a b e c p q) (kI d (jZ 3 (A.val undef)) λe=>jsV d a b e c p q):=hq Tryz.func53
theorem jxl:jo0 p=YF (vi 0) p [] []:=vq Tryz.func53
theorem jmI:YF a p q r=jI a (zv p) (jcz a (vi 0) p q r) (some (A.top,[A.sl 3 q])):=hq Tryz.func53
theorem jmJ:jcz a b p q r=qA b (zv q) λc=>ji c true λ_=>jN c b λd=>ji c true λe=>brn e (qV (jh q) d λd=>kI c (z7 q d 0 3) λd=>jsX c a p d b q r) (kI c (jZ 3 (A.val undef)) λd=>jsX c a p d b q r):=hq Tryz.func53
theorem g54:G 54 [a]=yT a (je (vi 1)) (je (vi 0)):=gq Tryz.func54
theorem g55:G 55 [a,b]=kF 106 [a,b] λa=>Qm a (vi 0) λa=>je a:=gq Tryz.func55
theorem g56:G 56 [a]=jc 1 a λa=>kFN 35 [jX a] λb=>ji b false λ_=>j4 b (jb a 0) λa=>Kc b 57 [a,A.fn 58 []] λa=>j9 b (vb true) a λa=>je a:=gq Tryz.func56
theorem g57:G 57 [a,b]=kF 60 [a,b] λa=>Qm a (vi 0) λa=>je a:=gq Tryz.func57
theorem g58:G 58 [a]=jc 3 a λa=>QA (jb a 0) λa=>je a:=gq Tryz.func58
theorem g59:G 59 [a]=jc 1 a λa=>j6 (jb a 0) λb=>jl1 (jb a 0) b (vi 0) [] []:=gq Tryz.func59
theorem juL:jl1 a b c p q=jI c b (qx 3 3 a c λd=>jc 3 d λd=>kF 107 [jg6 d] λd=>jc 3 d λd=>brn (jB ((jh q)+(jh [[jb d 0,jb d 1,jb d 2]])) 48) (jm c (vi 1) λc=>jl1 a b c p (jL q [[jb d 0,jb d 1,jb d 2]])) none) (je (A.agg [A.sl 3 q])):=hq Tryz.func59
theorem g6:G 6 [a]=j6 a λa=>jfo a (vi 65536) λa=>je a:=gq Tryz.func6
theorem g60:G 60 [a,b]=j6 a λc=>jAo a b c (vi 0):=gq Tryz.func60
theorem jB2:jAo a b c d=jI d c (qx 3 3 a d λe=>(DX.run K (MM K) (.callc b [e] false)).bind λe=>yT e (je d) (jm d (vi 1) λd=>jAo a b c d)) (je (vi (- 1))):=hq Tryz.func60
theorem g61:G 61 [a,b,c]=jc 1 a λa=>jc 1 c λc=>j6 (jb c 0) λd=>jAt b d (vi 0) (jb a 0) (jb c 0) []:=gq Tryz.func61
theorem jB3:jAt a b c d e p=jI c b (kF2 41 [A.agg [d],a,A.agg [e],c] λf g=>jc 1 f λf=>yT g (brn (jK (jb f 0)) (je (A.tup [jX f,vb true])) none) (jm c (vi 1) λc=>jAt a b c d e p)) (je (A.tup [A.agg [A.sl 3 []],vb false])):=hq Tryz.func61
theorem g62:G 62 [a]=jc 1 a λa=>jAy (vi 0) (jb a 0):=gq Tryz.func62
theorem jB4:jAy a b=KE a b (jcr 3 b a 0 λc=>KF c (je a) (jm a (vi 1) λa=>jAy a b)) (je (vi (- 1))):=hq Tryz.func62
theorem g63:G 63 [a]=jc 1 a λa=>jAz (vi 0) (jb a 0) [] []:=gq Tryz.func63
theorem jB5:jAz a b p q=KE a b (jcr 3 b a 0 λc=>Kd 2 3 b a 1 λd=>(G 102 [d]).bind λd=>zh d λd=>(j7 (kD (K.at 63) 42) [vb false,sv [],A.sl 2 []] [(0,c),(1,d)]).bind λc=>jc 3 c λc=>brn (jB ((jh q)+(jh [[jb c 0,jb c 1,jb c 2]])) 48) (jm a (vi 1) λa=>jAz a b p (jL q [[jb c 0,jb c 1,jb c 2]])) none) (je (A.agg [A.sl 3 q])):=hq Tryz.func63
theorem g64:G 64 [a,b]=jc 1 a λa=>jc 1 b λb=>kF 62 [jX a] λc=>jwV c (vi 0) (jb a 0) (jb b 0) []:=gq Tryz.func64
theorem jBu:jwV a b c d p=j6 d λe=>qA b e λe=>jN e a λf=>kI e (jp .geq false f (vi 0)) λf=>zK e f (vb false) (kF2 69 [A.agg [c],a,A.agg [d],b] λe f=>jc 1 e λe=>yT f (brn (jK (jb e 0)) (je (A.tup [jX e,vb true])) none) (jm b (vi 1) λb=>jwV a b c d p)) (je (A.tup [A.agg [A.sl 3 []],vb false])):=hq Tryz.func64
theorem jxm:qh a b c d=jdF a (vi 1) (some (A.top,[b,c,d,vi 0])) ((jge b c d).bind λb=>jH b 0 λc=>jH b 1 λd=>jH b 2 λe=>jH b 3 λb=>zD a (vi 200) (Qn b (vi 256) λb=>(jge c d e).bind λc=>jH c 0 λd=>jH c 1 λe=>jH c 2 λf=>jH c 3 λc=>jm b c λb=>js1 b a d e f) (js1 b a c d e)):=vq Tryz.func65
theorem jxn:jlN a b c=(KM (vi 2) a b c).bind λa=>jH a 0 λb=>jH a 1 λc=>jH a 2 λd=>jH a 3 λa=>(joZ b c d).bind λb=>jH b 0 λc=>jH b 1 λd=>jH b 2 λe=>jH b 3 λf=>Jl 2 b 4 λb=>brn (jK a) (brn (jK f) (brn (jK a) (brn (jK f) (some (A.top,[c,d,e,a,f,A.sl 2 b])) none) none) none) none:=vq Tryz.func66
theorem jxo:jo1 a b c=(jgf a b c).bind λa=>jH a 0 λb=>jH a 1 λc=>jH a 2 λd=>Jl 3 a 3 λa=>(qh (vi 20) b c d).bind λb=>jH b 0 λc=>jH b 1 λd=>jH b 2 λe=>jH b 3 λb=>kS b (vi 0) ((jgg c d e).bind λb=>jH b 0 λc=>jH b 1 λd=>jH b 2 λe=>jH b 3 λb=>js2 b a c d e) (kS b (vi 1) (zD (zv a) (vi 1) (qV (jh a) (vi 0) λb=>kRN a b 0 3 λb=>jc 3 b λb=>qV (jh a) (vi 1) λf=>kRN a f 0 3 λf=>qV (jh a) (vi 0) λg=>jc 3 f λf=>kRG a g λh=>qV (jh (J2 a g (Kh h 0 [jb f 0,jb f 1,jb f 2]))) (vi 1) λi=>brn (jK (jb b 0)) (brn (jK (jb b 1)) (brn (jK (jb b 2)) (kRG (J2 a g (Kh h 0 [jb f 0,jb f 1,jb f 2])) i λj=>some (A.top,[c,d,e,A.agg [A.sl 3 (J2 (J2 a g (Kh h 0 [jb f 0,jb f 1,jb f 2])) i (Kh j 0 [jb b 0,jb b 1,jb b 2]))]])) none) none) none) (some (A.top,[c,d,e,A.agg [A.sl 3 a]]))) (kS b (vi 2) (YG (vi 0) c d e [] []) (kS b (vi 3) (zD (zv a) (vi 0) (qB (zv a) (vi 1) λb=>qV (jh a) b λb=>kRN a b 0 3 λb=>js2 b a c d e) (some (A.top,[c,d,e,A.agg [A.sl 3 a]]))) (some (A.top,[c,d,e,A.agg [A.sl 3 a]]))))):=vq Tryz.func67
theorem jhe:YG a b c d p q=(qh (vi 2) b c d).bind λb=>jH b 0 λc=>jH b 1 λd=>jH b 2 λe=>jH b 3 λb=>jm (vi 8) b λb=>jI a b (kF 111 [a] λb=>jm (sv [112]) b λb=>(yV c d e [[sv [88]],[sv [89]]]).bind λc=>jH c 0 λd=>jH c 1 λe=>jH c 2 λf=>jH c 3 λc=>brn (jK c) (brn (jK c) (brn (jK b) (brn (jK b) (brn (jK b) (brn (jB ((jh p)+(jh [[vb true,b,A.sl 2 [[c,A.sl 2 []]]]])) 48) (jm a (vi 1) λa=>YG a d e f (jL p [[vb true,b,A.sl 2 [[c,A.sl 2 []]]]]) q) none) none) none) none) none) none) (some (A.top,[c,d,e,A.agg [A.sl 3 p]])):=hq Tryz.func67
theorem g68:G 68 [a]=jc 1 a λa=>kFN 35 [jX a] λa=>je a:=gq Tryz.func68
theorem g69:G 69 [a,b,c,d]=jc 1 a λa=>jc 1 c λc=>kF 113 [jX c] λc=>jc 1 c λc=>j6 (jb a 0) λe=>qB e (vi 1) λe=>kFN 95 [b,vi 0,e] λe=>j4 e d λf=>ji e false λ_=>j4 e (jb c 0) λg=>kR e (zu g) λg=>kR e (jp .sub false g (vi 1)) λg=>Kc e 95 [f,vi 0,g] λf=>kR e (JM .not f) λf=>j9 e (vb true) f λe=>ji e false λ_=>j4 e (jb a 0) λf=>j4 e b λg=>kR e (jq 3 f g) λf=>kR e (yJ f 0) λf=>kR e (kJ f) λf=>ji e false λ_=>j4 e (jb c 0) λg=>j4 e d λh=>kR e (jq 3 g h) λg=>kR e (yJ g 0) λg=>kR e (kJ g) λg=>kR e (jp .eql true f g) λf=>zK e (vb true) f (je (A.tup [A.agg [A.sl 3 []],vb false])) (Kd 2 3 (jb a 0) b 1 λe=>Kd 2 3 (jb c 0) d 1 λf=>kF2 96 [e,f] λe f=>jc 1 e λe=>KF f (je (A.tup [A.agg [A.sl 3 []],vb false])) ((jhS (jb a 0) b).bind λa=>Jl 3 a 0 λa=>(jhS (jb c 0) d).bind λb=>Jl 3 b 0 λb=>brn (jB ((jh a)+(jh b)) 48) ((G 97 [jX e,A.sl 3 (jL a b)]).bind λa=>zh a λa=>kH a 0 λb=>kH a 1 λa=>jc 1 b λb=>je (A.tup [jX b,a])) none)):=gq Tryz.func69
theorem g70:G 70 [a]=jc 3 a λa=>kF 114 [A.agg [jb a 1,jb a 2]] λa=>je a:=gq Tryz.func70
theorem g71:G 71 [a,b]=jc 3 a λa=>jc 3 b λb=>kF 116 [A.agg [jb a 1,jb a 2],A.agg [jb b 1,jb b 2]] λc=>kF 54 [jb a 0] λa=>kF 54 [jb b 0] λb=>kF 117 [a,b] λa=>brn (jK c) (brn (jK a) (kfn true (G 115 [A.sl 1 [[c],[a]]]) λa=>je a) none) none:=gq Tryz.func71
theorem g72:G 72 [a]=jc 1 a λa=>kF 75 [jX a] λa=>j6 a λb=>jl2 a b (vi 0):=gq Tryz.func72
theorem juM:jl2 a b c=jI c b (kIP 1 a c λd=>kF 118 [c] λe=>jm (sv [88]) e λe=>qn d e (je (vb false)) (jm c (vi 1) λc=>jl2 a b c)) (je (vb true)):=hq Tryz.func72
theorem g73:G 73 [a,b]=jc 1 a λa=>j6 (jb a 0) λc=>jl3 b (jb a 0) c (vi 0) [] []:=gq Tryz.func73
theorem juN:jl3 a b c d p q=jI d c (qx 3 3 b d λe=>jc 3 e λe=>kF 119 [A.agg [jb e 1,jb e 2],a] λf=>(j7 (kD (K.at 73) 42) [vb false,sv [],A.sl 2 []] [(0,jb e 0),(1,f)]).bind λe=>jc 3 e λe=>brn (jB ((jh p)+(jh [[jb e 0,jb e 1,jb e 2]])) 48) (jm d (vi 1) λd=>jl3 a b c d (jL p [[jb e 0,jb e 1,jb e 2]]) q) none) ((G 120 [A.sl 3 p]).bind λa=>zh a λa=>jc 1 a λa=>je (jX a)):=hq Tryz.func73
theorem g74:G 74 [a,b]=j6 a λc=>jl4 b a c (vi 0) []:=gq Tryz.func74
theorem juO:jl4 a b c d p=jI d c (kIP 1 b d λe=>kF 118 [d] λf=>jm a f λf=>(jof none p e f).bind λe=>jm d (vi 1) λd=>jl4 a b c d e) (je (A.mp p)):=hq Tryz.func74
theorem g75:G 75 [a]=jc 1 a λa=>j6 (jb a 0) λb=>jh1 (jb a 0) b (vi 0) []:=gq Tryz.func75
theorem juP:jh1 a b c p=jI c b (qx 3 3 a c λd=>jc 3 d λd=>(jgh (jb d 1) (jb d 2) p).bind λd=>Jl 1 d 0 λd=>jm c (vi 1) λc=>jh1 a b c d) (je (A.sl 1 p)):=hq Tryz.func75
theorem g76:G 76 [a]=jc 2 a λa=>kS (jb a 0) (sv [61]) (j6 (jb a 1) λb=>zR b (vi 2) λb=>ji b true λ_=>zS b 122 [kq a] λc=>j9 b c (vb false) λb=>ji b true λ_=>jN b (jb a 1) λc=>kI b (jq 2 c (vi 0)) λc=>kI b (jZ 2 c) λc=>zS b 123 [c] λc=>j9 b c (vb false) λb=>ji b true λ_=>jN b (jb a 1) λa=>kI b (jq 2 a (vi 1)) λa=>kI b (jZ 2 a) λa=>zS b 123 [a] λa=>j9 b a (vb false) λa=>je a) (kF 124 [jb a 0] λb=>ji b true λ_=>zS b 125 [kq a] λa=>j9 b a (vb false) λa=>je a):=gq Tryz.func76
theorem g77:G 77 [a,b]=jc 3 a λa=>jc 3 b λb=>kF 126 [A.agg [jb a 1,jb a 2],A.agg [jb b 1,jb b 2]] λc=>qn c (vi 0) (je c) (QA (jb a 0) λc=>ji c true λ_=>jN c (jb b 0) λd=>zK c d (vb false) (je (vi (- 1))) (ji (jb a 0) true λ_=>jN (jb a 0) (jb b 0) λb=>kI (jb a 0) (JM .not b) λb=>zK (jb a 0) b (vb false) (je (vi 1)) (je (vi 0)))):=gq Tryz.func77
theorem g78:G 78 [a]=jc 1 a λa=>kF 80 [jX a] λa=>jl5 a (vi 0):=gq Tryz.func78
theorem juQ:jl5 a b=KE b a (kIP 1 a b λc=>kF 111 [b] λd=>jm (sv [88]) d λd=>qn c d (je (vb false)) (jm b (vi 1) λb=>jl5 a b)) (je (vb true)):=hq Tryz.func78
theorem g79:G 79 [a,b,c]=jc 1 a λa=>jl6 b c (vi 0) (jb a 0) [] []:=gq Tryz.func79
theorem juR:jl6 a b c d p q=KE c d (jcr 3 d c 0 λe=>Kd 2 3 d c 1 λf=>kF 127 [f,a,b] λf=>(j7 (kD (K.at 79) 42) [vb false,sv [],A.sl 2 []] [(0,e),(1,f)]).bind λe=>jc 3 e λe=>brn (jB ((jh p)+(jh [[jb e 0,jb e 1,jb e 2]])) 48) (jm c (vi 1) λc=>jl6 a b c d (jL p [[jb e 0,jb e 1,jb e 2]]) q) none) ((G 53 [A.sl 3 p]).bind λa=>zh a λa=>jc 1 a λa=>je (jX a)):=hq Tryz.func79
theorem g80:G 80 [a]=jc 1 a λa=>jh2 (vi 0) (jb a 0) []:=gq Tryz.func80
theorem juS:jh2 a b p=KE a b (Kd 2 3 b a 1 λc=>(jgi c p).bind λc=>Jl 1 c 0 λc=>jm a (vi 1) λa=>jh2 a b c) (je (A.sl 1 p)):=hq Tryz.func80
theorem jxp:jo2 a b p q=brn (jB (jh p) 16) (brn (jK a) (brn (jB ((jh p)+(jh [[a]])) 16) (brn (jB (jh q) 8) (brn (jK b) (brn (jB ((jh q)+(jh [[b]])) 8) (some (A.top,[A.sl 1 p,A.sl 1 q,A.sl 1 (jL p [[a]]),A.sl 1 (jL q [[b]])])) none) none) none) none) none) none:=vq Tryz.func83
theorem g84:G 84 [a,b,c,d]=jc 2 c λc=>jc 2 d λd=>jh3 a b (vi 0) (jb c 0) (jb c 1) (jb d 0) (jb d 1) []:=gq Tryz.func84
theorem juT:jh3 a b c d e f g p=KE c g (qx 2 2 g c λh=>kF 136 [a,b,A.agg [d,e],h] λh=>brn (jK h) (brn (jB ((jh p)+(jh [[h]])) 8) (jm c (vi 1) λc=>jh3 a b c d e f g (jL p [[h]])) none) none) (zR f (sv [61]) λb=>ji b true λ_=>jN b (zv p) λc=>kI b (jp .eql false c (vi 2)) λc=>zK b c (vb false) (qV (jh p) (vi 0) λa=>kRP p a 0 λa=>qV (jh p) (vi 1) λb=>kRP p b 0 λb=>zR a b λa=>je a) (jm (sv [126]) f λb=>kfn true (G 137 [a,b,A.sl 1 p]) λa=>(jp .rem false a (vi 2)).bind λa=>zR a (vi 1) λa=>je a)):=hq Tryz.func84
theorem jxq:jo3 a b c=(jgf a b c).bind λa=>jH a 0 λb=>jH a 1 λc=>jH a 2 λd=>Jl 3 a 3 λa=>(G 32 [A.agg [A.sl 3 a]]).bind λa=>jnB a b c d:=vq Tryz.func85
theorem jxr:je5 a b c d=jm a (vi 1) λa=>(qh a b c d).bind λa=>jH a 0 λb=>jH a 1 λc=>jH a 2 λd=>jH a 3 λa=>YH a b c d []:=vq Tryz.func86
theorem jcF:YH a b c d p=zD a (vi 0) ((jlN b c d).bind λb=>jH b 0 λc=>jH b 1 λd=>jH b 2 λe=>jH b 3 λf=>jH b 4 λg=>Jl 2 b 5 λb=>brn (jK f) (brn (jK g) (brn (jB ((jh p)+(jh [[f,g,A.sl 2 b]])) 48) (qB a (vi 1) λa=>YH a c d e (jL p [[f,g,A.sl 2 b]])) none) none) none) (jfo (zv p) (vi 0) λa=>ji a true λ_=>ji a true λe=>brn e ((KM (vi 8) b c d).bind λb=>jH b 0 λc=>jH b 1 λd=>jH b 2 λe=>jH b 3 λb=>zK a b (vb false) (js3 p c d e) (some (A.top,[c,d,e,A.sl 3 p]))) (zK a (A.val undef) (vb false) (js3 p b c d) (some (A.top,[b,c,d,A.sl 3 p])))):=hq Tryz.func86
theorem g87:G 87 [a,b]=jc 1 a λa=>j6 (jb a 0) λa=>qB a (vi 1) λa=>kF 138 [b,vi 0,a] λa=>je a:=gq Tryz.func87
theorem g88:G 88 [a,b]=jc 2 a λa=>jc 2 b λb=>brn (jK (jb a 0)) (brn (jK (jb a 1)) (brn (jK (jb b 0)) (brn (jK (jb b 1)) (brn (jK (jb a 0)) (brn (jK (jb a 1)) (brn (jK (jb b 0)) (brn (jK (jb b 1)) (jo5 [[jb a 0,jb a 1,jb b 0,jb b 1]] [] []) none) none) none) none) none) none) none) none:=gq Tryz.func88
theorem jxT:jo5 p q r=js4 p r q:=hq Tryz.func88
theorem juU:jh4 a b p q r=zD (nA (kU b)) (vi 0) (qV (kU b) (vi 0) λc=>kRN p ((kU a)+c) 0 2 λc=>(G 139 [A.agg [A.sl 3 r],c]).bind λc=>zh c λc=>kH c 0 λd=>kH c 1 λc=>jc 2 d λd=>qV (kU b) (vi 0) λe=>kRN p ((kU a)+e) 2 2 λe=>(G 139 [A.agg [A.sl 3 r],e]).bind λe=>zh e λe=>kH e 0 λf=>kH e 1 λe=>jc 2 f λf=>kB (kU b) (kZ p (kU a)) none λb=>kB 0 b (some (vi 1)) λg=>QA c λc=>j4 c e λe=>kR c (JM .not e) λe=>zK c (vb true) e (je (A.tup [A.agg [A.sl 3 []],vb false])) (kF 140 [kq d,kq f] λc=>yT c (jh4 (nA ((kU a)+g)) (nA (jT b g)) p q r) (kF 141 [kq d] λc=>ji c false λ_=>Kc c 141 [kq f] λe=>zK c (vb true) e (brn (jK (jb d 0)) (brn (jK (jb d 1)) (brn (jK (jb f 0)) (brn (jK (jb f 1)) (kF2 142 [A.agg [jb d 0,jb d 1,jb f 0,jb f 1]] λc d=>jc 1 c λc=>KF d (je (A.tup [A.agg [A.sl 3 []],vb false])) ((G 143 [A.agg [A.sl 3 r],jX c]).bind λc=>js6 c a g b p q)) none) none) none) none) (KW (jb d 0) (jb f 0) λc=>ji c false λ_=>j4 c (jb d 1) λe=>kR c (zu e) λe=>ji c false λ_=>j4 c (jb f 1) λh=>kR c (zu h) λh=>kR c (jp .neq false e h) λe=>zK c (vb true) e (je (A.tup [A.agg [A.sl 3 []],vb false])) (j6 (jb d 1) λc=>jl7 (nA ((kU a)+g)) (nA (jT b g)) (jb d 1) c (vi 0) (jb f 0) (jb f 1) p q r []))))) (je (A.tup [A.agg [A.sl 3 r],vb true])):=hq Tryz.func88
theorem juV:ZN a b c p q=zD (nA (kU b)) (vi 0) (qV (kU b) (vi 0) λd=>kRN p ((kU a)+d) 0 2 λd=>(G 139 [A.agg [c],d]).bind λd=>zh d λd=>kH d 0 λe=>kH d 1 λd=>jc 2 e λe=>qV (kU b) (vi 0) λf=>kRN p ((kU a)+f) 2 2 λf=>(G 139 [A.agg [c],f]).bind λf=>zh f λf=>kH f 0 λg=>kH f 1 λf=>jc 2 g λg=>kB (kU b) (kZ p (kU a)) none λb=>kB 0 b (some (vi 1)) λh=>QA d λd=>j4 d f λf=>kR d (JM .not f) λf=>zK d (vb true) f (je (A.tup [A.agg [A.sl 3 []],vb false])) (kF 140 [kq e,kq g] λd=>yT d (ZN (nA ((kU a)+h)) (nA (jT b h)) c p q) (kF 141 [kq e] λd=>ji d false λ_=>Kc d 141 [kq g] λf=>zK d (vb true) f (brn (jK (jb e 0)) (brn (jK (jb e 1)) (brn (jK (jb g 0)) (brn (jK (jb g 1)) (kF2 142 [A.agg [jb e 0,jb e 1,jb g 0,jb g 1]] λd e=>jc 1 d λd=>KF e (je (A.tup [A.agg [A.sl 3 []],vb false])) ((G 143 [A.agg [c],jX d]).bind λc=>js6 c a h b p q)) none) none) none) none) (KW (jb e 0) (jb g 0) λd=>ji d false λ_=>j4 d (jb e 1) λf=>kR d (zu f) λf=>ji d false λ_=>j4 d (jb g 1) λi=>kR d (zu i) λi=>kR d (jp .neq false f i) λf=>zK d (vb true) f (je (A.tup [A.agg [A.sl 3 []],vb false])) (j6 (jb e 1) λd=>jl8 (nA ((kU a)+h)) (nA (jT b h)) (jb e 1) d (vi 0) c (jb g 0) (jb g 1) p q []))))) (brn (jK c) (je (A.tup [A.agg [c],vb true])) none):=hq Tryz.func88
theorem jxU:jl7 a b c d e f g p q r s=js7 e d c g s a b f p q r:=hq Tryz.func88
theorem jxV:jl8 a b c d e f g h p q r=jpE e d c h r a b f g p q:=hq Tryz.func88
theorem juW:jo6 a b c d e f g p q r s=js7 e d c g q a b f p r s:=hq Tryz.func88
theorem jqL:jc9 p q r=js4 p r q:=hq Tryz.func88
theorem juX:jo7 a b c d e f g h p q r=jpE e d c h q a b f g p r:=hq Tryz.func88
theorem juY:je8 a p q=zD (zv p) (vi 0) (qV (jh p) (vi 0) λb=>kRN p b 0 2 λb=>(G 139 [A.agg [a],b]).bind λb=>zh b λb=>kH b 0 λc=>kH b 1 λb=>jc 2 c λc=>qV (jh p) (vi 0) λd=>kRN p d 2 2 λd=>(G 139 [A.agg [a],d]).bind λd=>zh d λd=>kH d 0 λe=>kH d 1 λd=>jc 2 e λe=>kB (zx p) (kZ p 0) none λf=>kB 0 f (some (vi 1)) λg=>QA b λb=>j4 b d λd=>kR b (JM .not d) λd=>zK b (vb true) d (je (A.tup [A.agg [A.sl 3 []],vb false])) (kF 140 [kq c,kq e] λb=>yT b (ZN (nA (0+g)) (nA (jT f g)) a p q) (kF 141 [kq c] λb=>ji b false λ_=>Kc b 141 [kq e] λd=>zK b (vb true) d (brn (jK (jb c 0)) (brn (jK (jb c 1)) (brn (jK (jb e 0)) (brn (jK (jb e 1)) (kF2 142 [A.agg [jb c 0,jb c 1,jb e 0,jb e 1]] λb c=>jc 1 b λb=>KF c (je (A.tup [A.agg [A.sl 3 []],vb false])) ((G 143 [A.agg [a],jX b]).bind λa=>js5 a g f p q)) none) none) none) none) (KW (jb c 0) (jb e 0) λb=>ji b false λ_=>j4 b (jb c 1) λd=>kR b (zu d) λd=>ji b false λ_=>j4 b (jb e 1) λh=>kR b (zu h) λh=>kR b (jp .neq false d h) λd=>zK b (vb true) d (je (A.tup [A.agg [A.sl 3 []],vb false])) (j6 (jb c 1) λb=>jl8 (nA (0+g)) (nA (jT f g)) (jb c 1) b (vi 0) a (jb e 0) (jb e 1) p q []))))) (brn (jK a) (je (A.tup [A.agg [a],vb true])) none):=hq Tryz.func88
theorem g89:G 89 [a,b]=jc 1 a λa=>(G 144 [jX a,b]).bind λa=>zh a λa=>kH a 0 λb=>kH a 1 λa=>jc 1 b λb=>KF a (je (A.tup [A.agg [A.sl 3 []],vb false])) (kF 30 [jX b] λa=>jc 1 a λa=>kF 35 [jX a] λb=>jnA b a):=gq Tryz.func89
theorem jxs:jlO p=jcA (vi 0) (zv p) (vi 0) p:=vq Tryz.func90
theorem jmK:jcA a b c p=jI c b (qV (jh p) c λd=>kRP p d 0 λd=>j6 d λd=>jm a d λa=>jI a (vi 0) none (jm c (vi 1) λc=>jcA a b c p)) ((jki a).bind λa=>Jl 3 a 0 λa=>Q5 (zv p) (vi 0) a p):=hq Tryz.func90
theorem jmL:Q5 a b p q=jI b a (qV (jh q) b λc=>kRP q c 0 λc=>kRs 3 c λc=>brn (jB ((jh p)+(jh c)) 48) (jm b (vi 1) λb=>Q5 a b (jL p c) q) none) (some (A.top,[A.sl 3 p])):=hq Tryz.func90
theorem g91:G 91 [a,b]=jc 1 a λa=>(jkk (jb a 0)).bind λa=>Jl 3 a 0 λa=>jm b (vi 1) λc=>(jkj b c a).bind λa=>Jl 3 a 0 λa=>je (A.sl 3 a):=gq Tryz.func91
theorem g92:G 92 [a,b]=jc 1 a λa=>kLN 1 b λb=>kF 93 [jX a,b] λa=>je a:=gq Tryz.func92
theorem g93:G 93 [a,b]=jc 1 a λa=>jc 1 b λb=>kF 148 [jb a 0,jb b 0,A.fn 149 []] λa=>je a:=gq Tryz.func93
theorem g94:G 94 [a,b]=zD a b (je a) (je b):=gq Tryz.func94
theorem g95:G 95 [a,b,c]=jsC a b c:=gq Tryz.func95
theorem g96:G 96 [a,b]=jc 2 a λa=>jc 2 b λb=>brn (jK (jb a 0)) (brn (jK (jb a 1)) (brn (jK (jb b 0)) (brn (jK (jb b 1)) (brn (jK (jb a 0)) (brn (jK (jb a 1)) (brn (jK (jb b 0)) (brn (jK (jb b 1)) (jo8 [[jb a 0,jb a 1,jb b 0,jb b 1]] [] [] []) none) none) none) none) none) none) none) none:=gq Tryz.func96
theorem jxW:jo8 p q r s=js8 p s r q:=hq Tryz.func96
theorem juZ:jh5 a b p q r s=zD (nA (kU b)) (vi 0) (qV (kU b) (vi 0) λc=>kRN p ((kU a)+c) 0 2 λc=>(G 150 [A.agg [A.sl 3 s],c]).bind λc=>zh c λc=>kH c 0 λd=>kH c 1 λc=>jc 2 d λd=>qV (kU b) (vi 0) λe=>kRN p ((kU a)+e) 2 2 λe=>(G 150 [A.agg [A.sl 3 s],e]).bind λe=>zh e λe=>kH e 0 λf=>kH e 1 λe=>jc 2 f λf=>QA c λc=>j4 c e λe=>kR c (JM .not e) λe=>zK c (vb true) e (je (A.tup [A.agg [A.sl 3 r],vb false])) (kB (kU b) (kZ p (kU a)) none λb=>kB 0 b (some (vi 1)) λc=>kF 151 [kq d,kq f] λe=>yT e (KF (vb true) (je (A.tup [A.agg [A.sl 3 r],vb false])) (jh5 (nA ((kU a)+c)) (nA (jT b c)) p q r s)) (kF 100 [jb d 0] λe=>ji e true λ_=>jN e (jb f 0) λg=>zS e 100 [g] λg=>j9 e g (vb false) λe=>ji e true λ_=>jN e (jb d 0) λg=>ji e true λ_=>jN e (jb f 0) λh=>kI e (jp .lss false g h) λg=>zK e g (vb false) (jpG s f d r a c b p q) (kF 100 [jb d 0] λe=>yT e (jpG s d f r a c b p q) (kF 100 [jb f 0] λe=>yT e (jpG s f d r a c b p q) (KW (jb d 0) (jb f 0) λe=>ji e false λ_=>j4 e (jb d 1) λg=>kR e (zu g) λg=>ji e false λ_=>j4 e (jb f 1) λh=>kR e (zu h) λh=>kR e (jp .neq false g h) λg=>zK e (vb true) g (je (A.tup [A.agg [A.sl 3 r],vb false])) (jl9 (nA ((kU a)+c)) (nA (jT b c)) (vb true) (vi 0) (jb d 0) (jb d 1) (jb f 0) (jb f 1) p q r s []))))))) (je (A.tup [A.agg [A.sl 3 s],vb true])):=hq Tryz.func96
theorem ju0:ZO a b c p q r=zD (nA (kU b)) (vi 0) (qV (kU b) (vi 0) λd=>kRN p ((kU a)+d) 0 2 λd=>(G 150 [A.agg [c],d]).bind λd=>zh d λd=>kH d 0 λe=>kH d 1 λd=>jc 2 e λe=>qV (kU b) (vi 0) λf=>kRN p ((kU a)+f) 2 2 λf=>(G 150 [A.agg [c],f]).bind λf=>zh f λf=>kH f 0 λg=>kH f 1 λf=>jc 2 g λg=>QA d λd=>j4 d f λf=>kR d (JM .not f) λf=>zK d (vb true) f (je (A.tup [A.agg [A.sl 3 r],vb false])) (kB (kU b) (kZ p (kU a)) none λb=>kB 0 b (some (vi 1)) λd=>kF 151 [kq e,kq g] λf=>yT f (KF (vb true) (je (A.tup [A.agg [A.sl 3 r],vb false])) (ZO (nA ((kU a)+d)) (nA (jT b d)) c p q r)) (kF 100 [jb e 0] λf=>ji f true λ_=>jN f (jb g 0) λh=>zS f 100 [h] λh=>j9 f h (vb false) λf=>ji f true λ_=>jN f (jb e 0) λh=>ji f true λ_=>jN f (jb g 0) λi=>kI f (jp .lss false h i) λh=>zK f h (vb false) (jtb c g e r a d b p q) (kF 100 [jb e 0] λf=>yT f (jtb c e g r a d b p q) (kF 100 [jb g 0] λf=>yT f (jtb c g e r a d b p q) (KW (jb e 0) (jb g 0) λf=>ji f false λ_=>j4 f (jb e 1) λh=>kR f (zu h) λh=>ji f false λ_=>j4 f (jb g 1) λi=>kR f (zu i) λi=>kR f (jp .neq false h i) λh=>zK f (vb true) h (je (A.tup [A.agg [A.sl 3 r],vb false])) (jma (nA ((kU a)+d)) (nA (jT b d)) (vb true) (vi 0) c (jb e 0) (jb e 1) (jb g 0) (jb g 1) p q r []))))))) (brn (jK c) (je (A.tup [A.agg [c],vb true])) none):=hq Tryz.func96
theorem jxX:jl9 a b c d e f g h p q r s t=jpH d f h t a b c e g p q r s:=hq Tryz.func96
theorem jxY:jma a b c d e f g h i p q r s=jBN d g i s a b c e f h p q r:=hq Tryz.func96
theorem ju1:jo9 a b c d e f g h p q r s t=jpH d f h q a b c e g p r s t:=hq Tryz.func96
theorem jqM:jda p q r s=js8 p s r q:=hq Tryz.func96
theorem ju2:jpa a b c d e f g h i p q r s=jBN d g i q a b c e f h p r s:=hq Tryz.func96
theorem ju3:je9 a p q r=zD (zv p) (vi 0) (qV (jh p) (vi 0) λb=>kRN p b 0 2 λb=>(G 150 [A.agg [a],b]).bind λb=>zh b λb=>kH b 0 λc=>kH b 1 λb=>jc 2 c λc=>qV (jh p) (vi 0) λd=>kRN p d 2 2 λd=>(G 150 [A.agg [a],d]).bind λd=>zh d λd=>kH d 0 λe=>kH d 1 λd=>jc 2 e λe=>QA b λb=>j4 b d λd=>kR b (JM .not d) λd=>zK b (vb true) d (je (A.tup [A.agg [A.sl 3 r],vb false])) (kB (zx p) (kZ p 0) none λb=>kB 0 b (some (vi 1)) λd=>kF 151 [kq c,kq e] λf=>yT f (KF (vb true) (je (A.tup [A.agg [A.sl 3 r],vb false])) (ZO (nA (0+d)) (nA (jT b d)) a p q r)) (kF 100 [jb c 0] λf=>ji f true λ_=>jN f (jb e 0) λg=>zS f 100 [g] λg=>j9 f g (vb false) λf=>ji f true λ_=>jN f (jb c 0) λg=>ji f true λ_=>jN f (jb e 0) λh=>kI f (jp .lss false g h) λg=>zK f g (vb false) (jBn a e c r d b p q) (kF 100 [jb c 0] λf=>yT f (jBn a c e r d b p q) (kF 100 [jb e 0] λf=>yT f (jBn a e c r d b p q) (KW (jb c 0) (jb e 0) λf=>ji f false λ_=>j4 f (jb c 1) λg=>kR f (zu g) λg=>ji f false λ_=>j4 f (jb e 1) λh=>kR f (zu h) λh=>kR f (jp .neq false g h) λg=>zK f (vb true) g (je (A.tup [A.agg [A.sl 3 r],vb false])) (jma (nA (0+d)) (nA (jT b d)) (vb true) (vi 0) a (jb c 0) (jb c 1) (jb e 0) (jb e 1) p q r []))))))) (brn (jK a) (je (A.tup [A.agg [a],vb true])) none):=hq Tryz.func96
theorem g97:G 97 [a,b]=jc 1 a λa=>(G 153 [jX a,b]).bind λa=>zh a λa=>kH a 0 λb=>kH a 1 λa=>jc 1 b λb=>KF a (je (A.tup [A.agg [A.sl 3 []],vb false])) ((G 32 [jX b]).bind λa=>zh a λa=>kH a 0 λb=>kH a 1 λa=>jc 1 b λb=>QA a λa=>ji a false λ_=>Kc a 78 [jX b] λc=>kR a (JM .not c) λc=>zK a (vb true) c (je (A.tup [A.agg [A.sl 3 []],vb false])) (brn (jK (jb b 0)) (je (A.tup [jX b,vb true])) none)):=gq Tryz.func97
theorem jxt:jhS a b=kSl 3 a none (some b) λc=>kRs 3 c λc=>brn (jB (jh c) 48) (jm b (vi 1) λb=>kSl 3 a (some b) none λa=>kRs 3 a λa=>brn (jB ((jh c)+(jh a)) 48) (some (A.top,[A.sl 3 (jL c a)])) none) none:=vq Tryz.func98
theorem g99:G 99 [a,b]=jc 1 a λa=>jc 1 b λb=>j6 (jb a 0) λc=>j6 (jb b 0) λd=>qn c d (je (vb false)) (jmb (vi 0) (jb a 0) (jb b 0)):=gq Tryz.func99
theorem ju4:jmb a b c=KE a b (jcr 3 b a 0 λd=>jcr 3 c a 0 λe=>(jp .neq true d e).bind λd=>ji d false λ_=>j4 d b λe=>j4 d a λf=>kR d (jq 3 e f) λe=>kR d (yJ e 1) λe=>kR d (jZ 2 e) λe=>ji d false λ_=>j4 d c λf=>j4 d a λg=>kR d (jq 3 f g) λf=>kR d (yJ f 1) λf=>kR d (jZ 2 f) λf=>Kc d 151 [e,f] λe=>kR d (JM .not e) λe=>zK d (vb true) e (je (vb false)) (jm a (vi 1) λa=>jmb a b c)) (je (vb true)):=hq Tryz.func99
end
end
end Go.Proofs.YtdbgbieenhcldaaGreatDoor
