/- Pq -/
import Derived.Test.YtmmnimiohoammaaGreatDoorKt
import Derived.KernelRfl
set_option linter.unusedVariables false
namespace Go.Proofs.YtmmnimiohoammaaGreatDoor
open Go Go.RowKit Go.Proofs.YtmmnimiohoammaaGreatDoor.Abs
set_option linter.unusedSimpArgs false
set_option linter.unusedVariables false
noncomputable section
def vT:V:=V.top
def vD (a:A):V:=V.d a
def vP (i:Nat):V:=V.ptr i 0
def vR (i:Nat):V:=V.row i
def tp (n:Nat):List V:=List.replicate n vT
def pth:Nat->Nat->List Nat
 | 0,_=>[]
 | k+1,n=>if Nat.ble n 1 then [] else pth k (n/10)++[n%10]
def hs (sh:Option (List Nat)) (f p:Nat) (l:List V) (n:Nat) (ob:List Abs.Obj):Option Out:=MM K (.head f (pth 60 p) (l++tp n) ob sh)
def hd (f p:Nat) (l:List V) (n:Nat) (ob:List Abs.Obj):Option Out:=hs none f p l n ob
theorem gq {f:FuncId} {fn:Func} {l:List A} {r:Option Out} (h3:Tryz.prog.funcs[f]? = some fn) (h2:K.pureF f=true:=by exact rfl) (h4:fn.body.isSome=true:=by exact rfl) (h5:Nat.ble l.length fn.ntmps=true:=by exact rfl) (h1:K.ext f=none:=by exact rfl) (e:evC K (MM K) f (codeOf fn) [] (qv fn l) (yY K f fn)=r:=by kernel_rfl):G f l=r:=(jm7 h2 h3 h4 h5 h1).trans e
theorem vq {f:FuncId} {fn:Func} {l:List V} {ob:List Abs.Obj} {r:Option Out} (h3:Tryz.prog.funcs[f]? = some fn) (h1:K.extv f=none:=by exact rfl) (h4:fn.body.isSome=true:=by exact rfl) (h5:Nat.ble l.length fn.ntmps=true:=by exact rfl) (e:evC K (MM K) f (codeOf fn) [] (Kj fn l ob) (yY K f fn)=r:=by kernel_rfl):MM K (.callv f l ob)=r:=(jnb h1 h3 h4 h5).trans e
theorem hq {f:FuncId} {fn:Func} {p:List Nat} {l:List V} {ob:List Abs.Obj} {sh:Option (List Nat)} {r:Option Out} (h3:Tryz.prog.funcs[f]? = some fn) (h4:fn.body.isSome=true:=by exact rfl) (e:evAt K (MM K) f (codeOf fn) p [] (St.of fn.ntmps l ob sh) (yY K f fn)=r:=by kernel_rfl):MM K (.head f p l ob sh)=r:=(jm9 h3 h4).trans e
section
variable {B:Type}
def jl (n:Nat) (a:A) (k0:List A->Option B):Option B:=(YZ n a).bind k0
def jW (t x y:A) (k0:A->Option B):Option B:=(y8 t x y).bind k0
def jZ (t:A) (w:Bool) (k0:Bool->Option B):Option B:=(ya t w).bind k0
def j5 (l:A) (k0:A->Option B):Option B:=(KO l).bind k0
def j4 (t x:A) (k0:A->Option B):Option B:=(pG t true (some x)).bind k0
def zH (t x:A) (k0:A->Option B):Option B:=(pG t false (some x)).bind k0
def zO (t:A) (x:Option A) (k0:A->Option B):Option B:=(pG t true x).bind k0
def JP (t:A) (x:Option A) (k0:A->Option B):Option B:=(pG t false x).bind k0
def zQ (t:A) (n:Nat) (l:List A) (k0:A->Option B):Option B:=(pG t true ((G n l).bind (fin false))).bind k0
def jaW (t:A) (n:Nat) (l:List A) (k0:A->Option B):Option B:=(pG t false ((G n l).bind (fin false))).bind k0
def kF (n:Nat) (l:List A) (k0:A->Option B):Option B:=((G n l).bind (fin false)).bind k0
def kfn (b:Bool) (x:Option Out) (k0:A->Option B):Option B:=(x.bind (fin b)).bind k0
def jiJ (x:A) (k0:A->Option B):Option B:=(K2 .not x).bind k0
def kIx (n:Nat) (i:A) (k0:Nat->Option B):Option B:=(pIx n i).bind k0
def kRG (l:List (List A)) (i:Nat) (k0:List A->Option B):Option B:=(ji6 l i).bind k0
def kIS (a i:A) (k0:A->Option B):Option B:=(jT a i).bind k0
def kMk (n:Nat) (a b:A) (k0:Nat->Option B):Option B:=(jab n a b).bind k0
def kLS (a:A) (k0:A->Option B):Option B:=(KP a).bind k0
def jp (x y:A) (k0:A->Option B):Option B:=(js .add false x y).bind k0
def z8 (x y:A) (k0:A->Option B):Option B:=(js .eql false x y).bind k0
def JQ (x y:A) (k0:A->Option B):Option B:=(js .geq false x y).bind k0
def YE (x y:A) (k0:A->Option B):Option B:=(js .leq false x y).bind k0
def jg1 (x y:A) (k0:A->Option B):Option B:=(js .lss false x y).bind k0
def jcf (x y:A) (k0:A->Option B):Option B:=(js .neq false x y).bind k0
def jg2 (x y:A) (k0:A->Option B):Option B:=(js .quo false x y).bind k0
def YF (x y:A) (k0:A->Option B):Option B:=(js .sub false x y).bind k0
def Kn (t:A) (X Y:Option B):Option B:=(kP t).bind λu=>brn u X Y
def Q2 (c x y:A) (X Y:Option B):Option B:=(y8 c x y).bind λt=>(kP t).bind λu=>brn u X Y
def kbN (x:A) (X Y:Option B):Option B:=(K2 .not x).bind λt=>(kP t).bind λu=>brn u X Y
def Q1 (i l:A) (X Y:Option B):Option B:=(KO l).bind λn=>(js .lss false i n).bind λt=>(kP t).bind λu=>brn u X Y
def kF2 (n:Nat) (l:List A) (k:A->A->Option B):Option B:=((G n l).bind (fin false)).bind λt=>(QK t 0).bind λa=>(QK t 1).bind λb=>k a b
def kFN (n:Nat) (l:List A) (k:A->Option B):Option B:=((G n l).bind (fin false)).bind λt=>(K2 .not t).bind k
def Jv (n m:Nat) (x i:A) (k:A->Option B):Option B:=(jk m x i).bind λt=>(kJ n t).bind k
def kIP (m:Nat) (x i:A) (k:A->Option B):Option B:=(jk m x i).bind λt=>(qZ t).bind k
def jkY (n m:Nat) (x i:A) (o:Nat) (k:A->Option B):Option B:=(jk m x i).bind λt=>(jdK t o).bind λt=>(kJ n t).bind k
def jH (x y:A) (X Y:Option B):Option B:=(js .lss false x y).bind λt=>(kP t).bind λu=>brn u X Y
def yw (x y:A) (X Y:Option B):Option B:=(js .gtr false x y).bind λt=>(kP t).bind λu=>brn u X Y
def jdA (x y:A) (X Y:Option B):Option B:=(js .geq false x y).bind λt=>(kP t).bind λu=>brn u X Y
def zq (x y:A) (X Y:Option B):Option B:=(js .eql false x y).bind λt=>(kP t).bind λu=>brn u X Y
def zi (x y:A) (X Y:Option B):Option B:=(js .neq false x y).bind λt=>(kP t).bind λu=>brn u X Y
def jg (x:A):Option Out:=some (x,[])
def yf (t:List A):A:=A.agg [je t 0,je t 1]
def jg3 (t:List A):A:=A.agg [je t 0,je t 1,je t 2]
def jcg (t:List A):A:=A.agg [je t 0,je t 1,je t 2,je t 3]
end
section
variable (a b c d e f g h i j k l m n o aa ab ac ad ae af ag ah ai aj ak al am:A) (p q r s t u v w x y z:List (List A))
def jaD:=hd 101 111010 [vD a,vD b,vT,vT,vT,vD c] 21 []
def jaE:=hd 102 11010 ([vD a,vD b]++tp 5++[vD c,vD d]) 10 []
def jaF:=hd 103 11010 ([vD a,vD b]++tp 5++[vD c,vD d]) 10 []
def jd7:=hd 12 11010 [vD a,vT,vT,vD b] 15 []
def jd8:=hd 13 111010 [vT,vP 0,vT,vD a] 38 [.box [vD b]]
def Yd:=hd 15 111010 [vD a,vT,vT,vD b,vD c] 20 []
def Ye:=hd 16 111010 [vT,vP 0,vT,vD a,vD b] 22 [.box [vD c]]
def jd9:=hd 17 111010 [vD a,vT,vT,vR 0,vD b] 17 [.row 1 p]
def jea:=hd 21 11010 ([vT,vP 0]++tp 4++[vD a,vD b,vD c]) 27 [.box [vD d]]
def jeb:=hd 23 1111010 ([vT,vT,vT,vR 0]++tp 6++[vD a,vD b,vD c]) 11 [.row 1 p]
def jec:=hd 24 1111010 ([vT,vT,vT,vR 0]++tp 8++[vD a,vD b,vD c]) 11 [.row 1 p]
def jed:=hd 25 111010 [vD a,vD b,vT,vT,vT,vD c] 20 []
def jbx:=hd 27 1111010 [vD a,vD b,vT,vT,vT,vD c] 21 []
def jee:=hd 32 111010 [vD a,vT,vT,vR 0,vD b] 18 [.row 3 p]
def jef:=hd 40 111010 [vD a,vD b,vT,vT,vT,vD c] 21 []
def jeg:=hd 43 1111010 [vT,vP 0,vT,vD a] 31 [.box [vD b,vD c]]
def yT:=hd 44 1111010 [vD a,vT,vT,vD b] 41 []
def jby:=hd 46 1111010 [vT,vT,vP 0,vP 1,vT,vT,vT,vD a] 67 [.box [vD b,vD c],.box [vD d,vD e]]
def QP:=hd 47 1111010 [vT,vP 0,vT,vD a,vD b] 45 [.box [vD c,vD d]]
def jeh:=hd 49 11010 ([vD a,vD b]++tp 5++[vD c,vD d]) 10 []
def jbz:=hd 51 111010 [vT,vT,vT,vD a,vT,vT,vD b,vD c,vD d] 9 []
def jei:=hd 59 11111010 ([vT,vP 0,vT,vR 1]++tp 24++[vD a,vD b,vD c]) 16 [.box [vD d,vD e],.row 1 p]
def jej:=hd 63 111010 [vT,vD a,vP 0,vT,vT,vD b,vD c] 24 [.box [vD d,vD e]]
def jek:=hd 64 111010 [vT,vP 0,vT,vD a,vD b] 17 [.box [vD c,vD d]]
def QQ:=hd 65 111010 [vD a,vT,vT,vD b] 25 []
def jbA:=hd 71 11010 ([vD a]++tp 4++[vD b,vD c]) 41 []
def jel:=hd 75 11010 ([vD a,vD b,vD c]++tp 8++[vD d,vD e,vD f]) 25 []
def jbB:=hd 81 1111010 [vD a,vD b,vT,vT,vT,vD c] 21 []
def jem:=hd 83 111010 [vD a,vT,vT,vR 0,vD b] 18 [.row 2 p]
def jen:=hd 84 111010 [vT,vT,vT,vD a,vT,vT,vT,vD b,vD c,vD d] 12 []
def jeo:=hd 85 111010 [vT,vT,vT,vD a,vT,vT,vT,vD b,vD c,vD d] 10 []
def jbC:=hd 86 11010 ([vD a]++tp 4++[vD b,vD c]) 33 []
def e_0 (a:A) (b:A) (c:A):Option Out:=JQ a b λb=>j4 b a λa=>j4 b c λc=>zO b (js .leq false a c) λa=>jW b a (vb false) λa=>jg a
def e_1 (a:A) (b:A) (c:A) (d:A):Option Out:=Jv 2 2 a b λe=>kF 47 [e] λe=>jp c e λc=>jp b (vi 1) λb=>QP c b d a
def e_2 (a:A) (b:A) (c:A) (d:A):Option Out:=Kn a (Kn b (jg (vi 0)) (jg (vi (- 1)))) (Kn b (jg (vi 1)) (jH c d (jg (vi (- 1))) (yw c d (jg (vi 1)) (jg (vi 0)))))
theorem cev:type_of% (And.intro @jl.eq_1 (And.intro @jW.eq_1 (And.intro @jZ.eq_1 (And.intro @j5.eq_1 (And.intro @j4.eq_1 (And.intro @zH.eq_1 (And.intro @zO.eq_1 (And.intro @JP.eq_1 (And.intro @zQ.eq_1 (And.intro @jaW.eq_1 (And.intro @kF.eq_1 (And.intro @kfn.eq_1 (And.intro @jiJ.eq_1 (And.intro @kIx.eq_1 (And.intro @kRG.eq_1 (And.intro @kIS.eq_1 (And.intro @kMk.eq_1 (And.intro @kLS.eq_1 (And.intro @jp.eq_1 (And.intro @z8.eq_1 (And.intro @JQ.eq_1 (And.intro @YE.eq_1 (And.intro @jg1.eq_1 (And.intro @jcf.eq_1 (And.intro @jg2.eq_1 (And.intro @YF.eq_1 (And.intro @Kn.eq_1 (And.intro @Q2.eq_1 (And.intro @kbN.eq_1 (And.intro @Q1.eq_1 (And.intro @kF2.eq_1 (And.intro @kFN.eq_1 (And.intro @Jv.eq_1 (And.intro @kIP.eq_1 (And.intro @jkY.eq_1 (And.intro @jH.eq_1 (And.intro @yw.eq_1 (And.intro @jdA.eq_1 (And.intro @zq.eq_1 (And.intro @zi.eq_1 (And.intro @jg.eq_1 (And.intro @yf.eq_1 (And.intro @jg3.eq_1 (And.intro @jcg.eq_1 (And.intro @e_0.eq_1 (And.intro @e_1.eq_1 (@e_2.eq_1))))))))))))))))))))))))))))))))))))))))))))))):=And.intro @jl.eq_1 (And.intro @jW.eq_1 (And.intro @jZ.eq_1 (And.intro @j5.eq_1 (And.intro @j4.eq_1 (And.intro @zH.eq_1 (And.intro @zO.eq_1 (And.intro @JP.eq_1 (And.intro @zQ.eq_1 (And.intro @jaW.eq_1 (And.intro @kF.eq_1 (And.intro @kfn.eq_1 (And.intro @jiJ.eq_1 (And.intro @kIx.eq_1 (And.intro @kRG.eq_1 (And.intro @kIS.eq_1 (And.intro @kMk.eq_1 (And.intro @kLS.eq_1 (And.intro @jp.eq_1 (And.intro @z8.eq_1 (And.intro @JQ.eq_1 (And.intro @YE.eq_1 (And.intro @jg1.eq_1 (And.intro @jcf.eq_1 (And.intro @jg2.eq_1 (And.intro @YF.eq_1 (And.intro @Kn.eq_1 (And.intro @Q2.eq_1 (And.intro @kbN.eq_1 (And.intro @Q1.eq_1 (And.intro @kF2.eq_1 (And.intro @kFN.eq_1 (And.intro @Jv.eq_1 (And.intro @kIP.eq_1 (And.intro @jkY.eq_1 (And.intro @jH.eq_1 (And.intro @yw.eq_1 (And.intro @jdA.eq_1 (And.intro @zq.eq_1 (And.intro @zi.eq_1 (And.intro @jg.eq_1 (And.intro @yf.eq_1 (And.intro @jg3.eq_1 (And.intro @jcg.eq_1 (And.intro @e_0.eq_1 (And.intro @e_1.eq_1 (@e_2.eq_1))))))))))))))))))))))))))))))))))))))))))))))
theorem g10:G 10 [a,b]=jl 1 a λa=>kF 27 [je a 0,b] λa=>jH a (vi 0) (jg (vi (- 1))) (jg a):=gq Tryz.func10
theorem jnt:G 101 [a,b]=j5 a λc=>j5 b λd=>zi c d (jg (vb false)) (jaD a b (vi 0)):=gq Tryz.func101
theorem jg4:jaD a b c=Q1 c a (Jv 2 2 a c λd=>Jv 2 2 b c λe=>kF 80 [d,e] λd=>kbN d (jg (vb false)) (jp c (vi 1) λc=>jaD a b c)) (jg (vb true)):=hq Tryz.func101
theorem jnu:G 102 [a,b]=j5 a λc=>jaE a b c (vi 0):=gq Tryz.func102
theorem jg5:jaE a b c d=jH d c (Jv 2 2 a d λe=>(DX.run K (MM K) (.callc b [e] false)).bind λe=>Kn e (jg d) (jp d (vi 1) λd=>jaE a b c d)) (jg (vi (- 1))):=hq Tryz.func102
theorem jnv:G 103 [a,b]=j5 a λc=>jaF a b c (vi 0):=gq Tryz.func103
theorem jg6:jaF a b c d=jH d c (kIP 1 a d λe=>zq b e (jg d) (jp d (vi 1) λd=>jaF a b c d)) (jg (vi (- 1))):=hq Tryz.func103
theorem g11:G 11 [a,b,c]=e_0 a b c:=gq Tryz.func11
theorem g12:G 12 [a]=jd7 a (vi 0):=gq Tryz.func12
theorem jjR:jd7 a b=Q1 b a (kIP 1 a b λc=>kF 11 [c,vi 0,vi 99] λc=>kbN c (jg (vb false)) (jp b (vi 1) λb=>jd7 a b)) (j5 a λa=>YE a (vi 12) λa=>jg a):=hq Tryz.func12
theorem g13:G 13 [a]=jl 1 a λa=>j5 (je a 0) λb=>yw b (vi 8) (jg (vb false)) (jd8 (vi 0) (je a 0)):=gq Tryz.func13
theorem jjS:jd8 a b=Q1 a b (jkY 2 3 b a 1 λc=>kFN 28 [c] λc=>zH c a λd=>JP c (js .gtr false d (vi 0)) λd=>zH c d λd=>jZ d true λ_=>j4 d b λe=>j4 d a λf=>zO d (js .sub false f (vi 1)) λf=>zO d (jk 3 e f) λe=>zO d (kJ 3 e) λe=>jZ d true λ_=>j4 d b λf=>j4 d a λg=>zO d (jk 3 f g) λf=>zO d (kJ 3 f) λf=>zQ d 29 [e,f] λe=>zO d (js .geq false e (vi 0)) λe=>JP c (y8 d e (vb false)) λd=>Q2 c (vb true) d (jg (vb false)) (jp a (vi 1) λa=>jd8 a b)) (jg (vb true)):=hq Tryz.func13
theorem g14:G 14 []=jg (A.sl 1 [[sv []],[sv [105,110,112,117,116]],[sv [114,101,115,111,108,118,101]],[sv [102,97,99,116,111,114]],[sv [115,117,112,101,114,112,111,115,101]],[sv [114,101,102,108,101,120,105,118,101]],[sv [114,101,119,114,105,116,101]]]):=gq Tryz.func14
theorem g15:G 15 [a]=Yd a (sv []) (vi 0):=gq Tryz.func15
theorem jjT:Yd a b c=Q1 c a (yw c (vi 0) (jp b (sv [44]) λb=>kIP 1 a c λd=>kF 30 [d] λd=>jp b d λb=>jp c (vi 1) λc=>Yd a b c) (kIP 1 a c λd=>kF 30 [d] λd=>jp b d λb=>jp c (vi 1) λc=>Yd a b c)) (zq b (sv []) (jg (sv [45])) (jg b)):=hq Tryz.func15
theorem g16:G 16 [a]=jl 1 a λa=>Ye (sv []) (vi 0) (je a 0):=gq Tryz.func16
theorem jjU:Ye a b c=Q1 b c (yw b (vi 0) (jp a (sv [32,124,32]) λa=>Jv 3 3 c b λd=>kF 31 [d] λd=>jp a d λa=>jp b (vi 1) λb=>Ye a b c) (Jv 3 3 c b λd=>kF 31 [d] λd=>jp a d λa=>jp b (vi 1) λb=>Ye a b c)) (zq a (sv []) (jg (sv [36,102,97,108,115,101])) (jg a)):=hq Tryz.func16
theorem g17:G 17 [a]=j5 a λb=>kMk 8 b b λb=>jd9 a (vi 0) (QL b [vi 0]):=gq Tryz.func17
theorem jjV:jd9 a b p=Q1 b a (kIP 1 a b λc=>kIx (yB p) b λd=>brn (kU c) (kRG p d λe=>jp b (vi 1) λb=>jd9 a b (ZV p d (Yk e 0 [c]))) none) (jg (A.sl 1 p)):=hq Tryz.func17
theorem g18:G 18 [a]=jl 1 a λa=>kF 32 [je a 0] λa=>brn (kU a) (brn (kU a) (jg (A.agg [a])) none) none:=gq Tryz.func18
theorem g19:G 19 [a,b,c]=e_0 a b c:=gq Tryz.func19
theorem g20:G 20 [a]=j5 a λb=>YE b (vi 12) λb=>j4 b a λa=>zQ b 33 [a,A.fn 34 []] λa=>zO b (K2 .not a) λa=>jW b a (vb false) λa=>jg a:=gq Tryz.func20
theorem g21:G 21 [a]=jl 1 a λa=>j5 (je a 0) λb=>jea (je a 0) b (vi 0) (je a 0):=gq Tryz.func21
theorem jjW:jea a b c d=jH c b (Jv 3 3 a c λe=>jl 3 e λe=>kFN 35 [jg3 e] λf=>zH f c λg=>JP f (js .gtr false g (vi 0)) λg=>zH f g λg=>jZ g true λ_=>j4 g d λh=>j4 g c λi=>zO g (js .sub false i (vi 1)) λi=>zO g (jk 3 h i) λh=>zO g (kJ 3 h) λh=>jZ g true λ_=>zQ g 36 [h,jg3 e] λe=>zO g (js .geq false e (vi 0)) λe=>JP f (y8 g e (vb false)) λe=>Q2 f (vb true) e (jg (vb false)) (jp c (vi 1) λc=>jea a b c d)) (j5 d λa=>YE a (vi 8) λa=>jg a):=hq Tryz.func21
theorem g22:G 22 []=jg (A.sl 1 [[sv []],[sv [105,110,112,117,116]],[sv [114,101,115,111,108,118,101]],[sv [102,97,99,116,111,114]],[sv [115,117,112,101,114,112,111,115,101]],[sv [114,101,102,108,101,120,105,118,101]],[sv [114,101,119,114,105,116,101]]]):=gq Tryz.func22
theorem g23:G 23 [a]=j5 a λb=>zq b (vi 0) (jg (sv [45])) (j5 a λb=>jeb a b (vi 0) []):=gq Tryz.func23
theorem jjX:jeb a b c p=jH c b (kIP 1 a c λd=>kF 37 [d] λd=>brn (kU d) (brn (Zh ((yB p)+(yB [[d]])) 16) (jp c (vi 1) λc=>jeb a b c (jhL p [[d]])) none) none) (kfn true (G 38 [A.sl 1 p,sv [44]]) λa=>jg a):=hq Tryz.func23
theorem g24:G 24 [a]=jl 1 a λa=>j5 (je a 0) λb=>zq b (vi 0) (jg (sv [36,102,97,108,115,101])) (j5 (je a 0) λb=>jec (je a 0) b (vi 0) []):=gq Tryz.func24
theorem jjY:jec a b c p=jH c b (Jv 3 3 a c λd=>jl 3 d λd=>kF 39 [jg3 d] λd=>brn (kU d) (brn (Zh ((yB p)+(yB [[d]])) 16) (jp c (vi 1) λc=>jec a b c (jhL p [[d]])) none) none) (kfn true (G 38 [A.sl 1 p,sv [32,124,32]]) λa=>jg a):=hq Tryz.func24
theorem g25:G 25 [a,b]=j5 a λc=>j5 b λd=>zi c d (jg (vb false)) (jed a b (vi 0)):=gq Tryz.func25
theorem jjZ:jed a b c=Q1 c a (kIP 1 a c λd=>kIP 1 b c λe=>zi d e (jg (vb false)) (jp c (vi 1) λc=>jed a b c)) (jg (vb true)):=hq Tryz.func25
theorem g26:G 26 [a,b]=jl 1 a λa=>jl 1 b λb=>kF 40 [je a 0,je b 0] λa=>kbN a (jg (vb false)) (jg (vb true)):=gq Tryz.func26
theorem g27:G 27 [a,b]=j5 a λc=>YF b c λb=>jH b (vi 0) (jg (vi (- 1))) (jbx a b (vi 0)):=gq Tryz.func27
theorem jj0:jbx a b c=Q1 c a (Jv 3 3 a c λd=>kF 41 [d,b] λb=>jH b (vi 0) (jg (vi (- 1))) (jp c (vi 1) λc=>jbx a b c)) (jg b):=hq Tryz.func27
theorem g28:G 28 [a]=jl 2 a λa=>zq (je a 0) (sv [61]) (j5 (je a 1) λb=>z8 b (vi 2) λb=>jZ b true λ_=>zQ b 42 [yf a] λc=>jW b c (vb false) λb=>jZ b true λ_=>j4 b (je a 1) λc=>zO b (jk 2 c (vi 0)) λc=>zO b (kJ 2 c) λc=>zQ b 43 [c] λc=>jW b c (vb false) λb=>jZ b true λ_=>j4 b (je a 1) λa=>zO b (jk 2 a (vi 1)) λa=>zO b (kJ 2 a) λa=>zQ b 43 [a] λa=>jW b a (vb false) λa=>jg a) (kF 44 [je a 0] λb=>jZ b true λ_=>zQ b 45 [yf a] λa=>jW b a (vb false) λa=>jg a):=gq Tryz.func28
theorem g29:G 29 [a,b]=jl 3 a λa=>jl 3 b λb=>kF 46 [A.agg [je a 1,je a 2],A.agg [je b 1,je b 2]] λc=>zi c (vi 0) (jg c) (jiJ (je a 0) λc=>jZ c true λ_=>j4 c (je b 0) λd=>Q2 c d (vb false) (jg (vi (- 1))) (jZ (je a 0) true λ_=>j4 (je a 0) (je b 0) λb=>zO (je a 0) (K2 .not b) λb=>Q2 (je a 0) b (vb false) (jg (vi 1)) (jg (vi 0)))):=gq Tryz.func29
theorem g3:G 3 [a]=jl 4 a λa=>kF 4 [jcg a,vi 1048576] λb=>jH b (vi 0) (jg (vb true)) (kF 6 [jcg a] λb=>kF2 5 [b] λb c=>kF 6 [jcg a] λd=>jl 4 d λd=>kF2 7 [jcg d] λe f=>jcf e b λb=>zH b f λe=>zH b c λc=>JP b (js .neq true e c) λc=>Q2 b (vb true) c (jg (vb false)) (kF 6 [jcg a] λa=>kF 8 [jcg d,a] λa=>kbN a (jg (vb false)) (jg (vb true)))):=gq Tryz.func3
theorem g30:G 30 [a]=jH a (vi 0) ((K2 .neg a).bind λa=>kF 30 [a] λa=>jp (sv [45]) a λa=>jg a) (jH a (vi 10) (jp a (vi 1) λb=>(qk (sv [48,49,50,51,52,53,54,55,56,57]) (some a) (some b)).bind λa=>jg a) (jg2 a (vi 10) λb=>kF 30 [b] λb=>(js .rem false a (vi 10)).bind λc=>(js .rem false a (vi 10)).bind λa=>jp a (vi 1) λa=>(qk (sv [48,49,50,51,52,53,54,55,56,57]) (some c) (some a)).bind λa=>jp b a λa=>jg a)):=gq Tryz.func30
theorem g31:G 31 [a]=jl 3 a λa=>Kn (je a 0) (kF 47 [A.agg [je a 1,je a 2]] λa=>jg a) (zq (je a 1) (sv [61]) (Jv 2 2 (je a 2) (vi 0) λb=>kF 47 [b] λb=>jp b (sv [32,33,61,32]) λb=>Jv 2 2 (je a 2) (vi 1) λa=>kF 47 [a] λa=>jp b a λa=>jg a) (kF 47 [A.agg [je a 1,je a 2]] λa=>jp (sv [126]) a λa=>jg a)):=gq Tryz.func31
theorem g32:G 32 [a]=j5 a λb=>kMk 48 b b λb=>jee a (vi 0) (QL b [vb false,sv [],A.sl 2 []]):=gq Tryz.func32
theorem jj1:jee a b p=Q1 b a (Jv 3 3 a b λc=>kF 48 [c] λc=>kIx (yB p) b λd=>jl 3 c λc=>kRG p d λe=>jp b (vi 1) λb=>jee a b (ZV p d (Yk e 0 [je c 0,je c 1,je c 2]))) (jg (A.sl 3 p)):=hq Tryz.func32
theorem g33:G 33 [a,b]=kF 49 [a,b] λa=>JQ a (vi 0) λa=>jg a:=gq Tryz.func33
theorem g34:G 34 [a]=kFN 19 [a,vi 0,vi 99] λa=>jg a:=gq Tryz.func34
theorem g35:G 35 [a]=jl 3 a λa=>kF 50 [A.agg [je a 1,je a 2]] λa=>jg a:=gq Tryz.func35
theorem g36:G 36 [a,b]=jl 3 a λa=>jl 3 b λb=>kF 52 [A.agg [je a 1,je a 2],A.agg [je b 1,je b 2]] λc=>kF 54 [je a 0] λa=>kF 54 [je b 0] λb=>kF 53 [a,b] λa=>brn (kU c) (brn (kU a) (kfn true (G 51 [A.sl 1 [[c],[a]]]) λa=>jg a) none) none:=gq Tryz.func36
theorem g39:G 39 [a]=jl 3 a λa=>Kn (je a 0) (kF 59 [A.agg [je a 1,je a 2]] λa=>jg a) (kF 60 [A.agg [je a 1,je a 2]] λb=>Kn b (Jv 2 2 (je a 2) (vi 0) λb=>kF 59 [b] λb=>jp b (sv [32,33,61,32]) λb=>Jv 2 2 (je a 2) (vi 1) λa=>kF 59 [a] λa=>jp b a λa=>jg a) (kF 59 [A.agg [je a 1,je a 2]] λa=>jp (sv [126]) a λa=>jg a)):=gq Tryz.func39
theorem g4:G 4 [a,b]=jl 4 a λa=>kF 9 [je a 1,b] λb=>jH b (vi 0) (jg (vi (- 1))) (kF 9 [je a 2,b] λb=>jH b (vi 0) (jg (vi (- 1))) (kF 10 [A.agg [je a 3],b] λa=>jH a (vi 0) (jg (vi (- 1))) (jg a))):=gq Tryz.func4
theorem g40:G 40 [a,b]=j5 a λc=>j5 b λd=>zi c d (jg (vb false)) (jef a b (vi 0)):=gq Tryz.func40
theorem jj2:jef a b c=Q1 c a (Jv 3 3 a c λd=>Jv 3 3 b c λe=>kF 61 [d,e] λd=>kbN d (jg (vb false)) (jp c (vi 1) λc=>jef a b c)) (jg (vb true)):=hq Tryz.func40
theorem g41:G 41 [a,b]=jl 3 a λa=>kF 62 [A.agg [je a 1,je a 2],b] λa=>jH a (vi 0) (jg (vi (- 1))) (jg a):=gq Tryz.func41
theorem g42:G 42 [a]=jl 2 a λa=>kF 63 [yf a,vi 30] λb=>YE b (vi 30) λb=>jZ b true λ_=>zQ b 64 [yf a] λa=>zO b (js .leq false a (vi 8)) λa=>jW b a (vb false) λa=>jg a:=gq Tryz.func42
theorem g43:G 43 [a]=jl 2 a λa=>kF 65 [je a 0] λb=>Kn b (j5 (je a 1) λa=>z8 a (vi 0) λa=>jg a) (kFN 44 [je a 0] λb=>jZ b false λ_=>zH b (je a 1) λc=>JP b (KO c) λc=>JP b (js .gtr false c (vi 4)) λc=>Q2 b (vb true) c (jg (vb false)) (jeg (vi 0) (je a 0) (je a 1))):=gq Tryz.func43
theorem jj3:jeg a b c=Q1 a c (Jv 2 2 c a λd=>kF 43 [d] λd=>kbN d (jg (vb false)) (jp a (vi 1) λa=>jeg a b c)) (jg (vb true)):=hq Tryz.func43
theorem g44:G 44 [a]=kLS a λb=>kFN 11 [b,vi 1,vi 6] λb=>zH b a λc=>JP b (jT c (vi 0)) λc=>JP b (js .lss false c (vy 97)) λc=>jW b (vb true) c λb=>zH b a λc=>JP b (jT c (vi 0)) λc=>JP b (js .gtr false c (vy 122)) λc=>Q2 b (vb true) c (jg (vb false)) (z8 a (sv [116,114,117,101]) λb=>Kn b (Kn b (jg (vb false)) (yT a (vi 1))) (z8 a (sv [102,97,108,115,101]) λb=>Kn b (Kn b (jg (vb false)) (yT a (vi 1))) (z8 a (sv [116,114,117,116,104]) λb=>Kn b (Kn b (jg (vb false)) (yT a (vi 1))) (z8 a (sv [98,111,116,104]) λb=>Kn b (Kn b (jg (vb false)) (yT a (vi 1))) (z8 a (sv [101,105,116,104,101,114]) λb=>Kn b (Kn b (jg (vb false)) (yT a (vi 1))) (z8 a (sv [105,102]) λb=>Kn b (Kn b (jg (vb false)) (yT a (vi 1))) (z8 a (sv [97,108,108]) λb=>Kn b (Kn b (jg (vb false)) (yT a (vi 1))) (zq a (sv [115,111,109,101]) (jg (vb false)) (yT a (vi 1)))))))))):=gq Tryz.func44
theorem jj4:yT a b=kLS a λc=>jH b c (kIS a b λc=>kFN 66 [c] λc=>j4 c a λd=>j4 c b λe=>zO c (jT d e) λd=>zO c (js .neq false d (vy 95)) λd=>Q2 c d (vb false) (jg (vb false)) (jp b (vi 1) λb=>yT a b)) (jg (vb true)):=hq Tryz.func44
theorem g45:G 45 [a]=jl 2 a λa=>kF 42 [yf a] λb=>jZ b true λ_=>zQ b 43 [yf a] λa=>jW b a (vb false) λa=>jg a:=gq Tryz.func45
theorem g46:G 46 [a,b]=jl 2 a λa=>jl 2 b λb=>kF 65 [je a 0] λc=>kF 65 [je b 0] λd=>j4 c d λe=>zO c (K2 .not e) λe=>Q2 c e (vb false) (jg (vi (- 1))) (jiJ c λc=>j4 c d λd=>Q2 c d (vb false) (jg (vi 1)) (zi (je a 0) (je b 0) (kF 67 [je a 0,je b 0] λa=>jg a) (j5 (je a 1) λc=>Q1 c (je b 1) (jg (vi (- 1))) (j5 (je a 1) λc=>j5 (je b 1) λd=>yw c d (jg (vi 1)) (jby (vi 0) (je a 0) (je a 1) (je b 0) (je b 1)))))):=gq Tryz.func46
theorem jj5:jby a b c d e=Q1 a c (Jv 2 2 c a λf=>Jv 2 2 e a λg=>kF 46 [f,g] λf=>zi f (vi 0) (jg f) (jp a (vi 1) λa=>jby a b c d e)) (jg (vi 0)):=hq Tryz.func46
theorem g47:G 47 [a]=jl 2 a λa=>zq (je a 0) (sv [61]) (Jv 2 2 (je a 1) (vi 0) λb=>kF 47 [b] λb=>jp b (sv [32,61,32]) λb=>Jv 2 2 (je a 1) (vi 1) λa=>kF 47 [a] λa=>jp b a λa=>jg a) (QP (je a 0) (vi 0) (je a 0) (je a 1)):=gq Tryz.func47
theorem jj6:QP a b c d=Q1 b d (zq b (vi 0) (jp a (sv [40]) λa=>e_1 d b a c) (jp a (sv [44]) λa=>e_1 d b a c)) (j5 d λb=>yw b (vi 0) (jp a (sv [41]) λa=>jg a) (jg a)):=hq Tryz.func47
theorem g48:G 48 [a]=jl 3 a λa=>brn (kU (je a 0)) (kF 68 [A.agg [je a 1,je a 2]] λb=>jl 2 b λb=>brn (kU (je a 0)) (brn (kU (je b 0)) (brn (kU (je b 1)) (jg (A.agg [je a 0,je b 0,je b 1])) none) none) none) none:=gq Tryz.func48
theorem g49:G 49 [a,b]=j5 a λc=>jeh a b c (vi 0):=gq Tryz.func49
theorem jj7:jeh a b c d=jH d c (kIP 1 a d λe=>(DX.run K (MM K) (.callc b [e] false)).bind λe=>Kn e (jg d) (jp d (vi 1) λd=>jeh a b c d)) (jg (vi (- 1))):=hq Tryz.func49
theorem g5:G 5 [a]=jl 4 a λa=>kFN 11 [je a 0,vi 1,vi 6] λb=>jZ b false λ_=>zH b (je a 1) λc=>jaW b 12 [c] λc=>JP b (K2 .not c) λc=>jW b (vb true) c λb=>jZ b false λ_=>zH b (je a 2) λc=>jaW b 12 [c] λc=>JP b (K2 .not c) λc=>jW b (vb true) c λb=>jZ b false λ_=>jZ b false λ_=>jaW b 13 [A.agg [je a 3]] λc=>JP b (K2 .not c) λc=>Q2 b (vb true) c (jg (A.tup [sv [],vb false])) (kF 14 [] λb=>kIP 1 b (je a 0) λb=>jp b (sv [32]) λb=>kF 15 [je a 1] λc=>jp b c λb=>jp b (sv [32,97,116,32]) λb=>kF 15 [je a 2] λc=>jp b c λb=>jp b (sv [58,32]) λb=>kF 16 [A.agg [je a 3]] λa=>jp b a λa=>jg (A.tup [a,vb true])):=gq Tryz.func5
theorem g50:G 50 [a]=jl 2 a λa=>kF 60 [yf a] λb=>Kn b (j5 (je a 1) λb=>z8 b (vi 2) λb=>jZ b true λ_=>zQ b 69 [yf a] λc=>jW b c (vb false) λb=>jZ b true λ_=>j4 b (je a 1) λc=>zO b (jk 2 c (vi 0)) λc=>zO b (kJ 2 c) λc=>zQ b 70 [c] λc=>jW b c (vb false) λb=>jZ b true λ_=>j4 b (je a 1) λa=>zO b (jk 2 a (vi 1)) λa=>zO b (kJ 2 a) λa=>zQ b 70 [a] λa=>jW b a (vb false) λa=>jg a) (kF 71 [je a 0] λb=>jZ b true λ_=>zQ b 72 [yf a] λa=>jW b a (vb false) λa=>jg a):=gq Tryz.func50
theorem g51:G 51 [a]=j5 a λb=>jbz (vi 0) a b (vi 0):=gq Tryz.func51
theorem jg7:jbz a b c d=jH d c (kIP 1 b d λe=>zi e a (jg e) (jp d (vi 1) λd=>jbz a b c d)) (jg a):=hq Tryz.func51
theorem g52:G 52 [a,b]=jl 2 a λa=>jl 2 b λb=>kF 73 [yf a] λc=>kF 73 [yf b] λd=>j4 c d λe=>zO c (K2 .not e) λe=>Q2 c e (vb false) (jg (vi (- 1))) (j4 d c λc=>zO d (K2 .not c) λc=>Q2 d c (vb false) (jg (vi 1)) (kF 74 [je a 0,je b 0] λc=>j5 (je a 1) λd=>j5 (je b 1) λe=>kF 53 [d,e] λd=>brn (kU c) (brn (kU d) (kfn true (G 51 [A.sl 1 [[c],[d]]]) λc=>zi c (vi 0) (jg c) (kF 75 [je a 1,je b 1,A.fn 52 []] λa=>jg a)) none) none)):=gq Tryz.func52
theorem g53:G 53 [a,b]=kF 76 [a] λc=>kF 76 [b] λd=>e_2 c d a b:=gq Tryz.func53
theorem g54:G 54 [a]=Kn a (jg (vi 1)) (jg (vi 0)):=gq Tryz.func54
theorem g59:G 59 [a]=jl 2 a λa=>kF 60 [yf a] λb=>Kn b (Jv 2 2 (je a 1) (vi 0) λb=>kF 59 [b] λb=>jp b (sv [32,61,32]) λb=>Jv 2 2 (je a 1) (vi 1) λa=>kF 59 [a] λa=>jp b a λa=>jg a) (j5 (je a 1) λb=>zq b (vi 0) (jg (je a 0)) (j5 (je a 1) λb=>jei (je a 1) b (vi 0) (je a 0) (je a 1) [])):=gq Tryz.func59
theorem jj8:jei a b c d e p=jH c b (Jv 2 2 a c λf=>jl 2 f λf=>kF 59 [yf f] λf=>brn (kU f) (brn (Zh ((yB p)+(yB [[f]])) 16) (jp c (vi 1) λc=>jei a b c d e (jhL p [[f]])) none) none) (jp d (sv [40]) λa=>kfn true (G 38 [A.sl 1 p,sv [44]]) λb=>jp a b λa=>jp a (sv [41]) λa=>jg a):=hq Tryz.func59
theorem g6:G 6 [a]=jl 4 a λa=>brn (kU (je a 0)) (kF 17 [je a 1] λb=>brn (kU b) (kF 17 [je a 2] λc=>brn (kU c) (kF 18 [A.agg [je a 3]] λd=>jl 1 d λd=>brn (kU (je a 0)) (brn (kU b) (brn (kU c) (brn (kU (je d 0)) (jg (A.agg [je a 0,b,c,je d 0])) none) none) none) none) none) none) none:=gq Tryz.func6
theorem g60:G 60 [a]=jl 2 a λa=>z8 (je a 0) (sv [61]) λa=>jg a:=gq Tryz.func60
theorem g61:G 61 [a,b]=jl 3 a λa=>jl 3 b λb=>(js .neq true (je a 0) (je b 0)).bind λc=>Kn c (jg (vb false)) (kF 80 [A.agg [je a 1,je a 2],A.agg [je b 1,je b 2]] λa=>kbN a (jg (vb false)) (jg (vb true))):=gq Tryz.func61
theorem g62:G 62 [a,b]=jl 2 a λa=>kLS (je a 0) λc=>YF b c λb=>jH b (vi 0) (jg (vi (- 1))) (kF 81 [je a 1,b] λa=>jH a (vi 0) (jg (vi (- 1))) (jg a)):=gq Tryz.func62
theorem g63:G 63 [a,b]=jl 2 a λa=>jej b (vi 1) (vi 0) (je a 0) (je a 1):=gq Tryz.func63
theorem jg8:jej a b c d e=j5 e λf=>jg1 c f λf=>j4 f b λg=>j4 f a λh=>zO f (js .leq false g h) λg=>Q2 f g (vb false) (Jv 2 2 e c λf=>YF a b λg=>kF 63 [f,g] λf=>jp b f λb=>jp c (vi 1) λc=>jej a b c d e) (jg b):=hq Tryz.func63
theorem g64:G 64 [a]=jl 2 a λa=>jek (vi 0) (vi 0) (je a 0) (je a 1):=gq Tryz.func64
theorem jj9:jek a b c d=Q1 b d (Jv 2 2 d b λe=>kF 64 [e] λe=>kF 82 [a,e] λa=>jp b (vi 1) λb=>jek a b c d) (jp a (vi 1) λa=>jg a):=hq Tryz.func64
theorem g65:G 65 [a]=kLS a λb=>kFN 11 [b,vi 1,vi 4] λb=>zH b a λc=>JP b (jT c (vi 0)) λc=>JP b (js .lss false c (vy 65)) λc=>jW b (vb true) c λb=>zH b a λc=>JP b (jT c (vi 0)) λc=>JP b (js .gtr false c (vy 90)) λc=>Q2 b (vb true) c (jg (vb false)) (QQ a (vi 1)):=gq Tryz.func65
theorem jka:QQ a b=kLS a λc=>jH b c (kIS a b λc=>kF 66 [c] λc=>kbN c (jg (vb false)) (jp b (vi 1) λb=>QQ a b)) (jg (vb true)):=hq Tryz.func65
theorem g66:G 66 [a]=JQ a (vy 97) λb=>j4 b a λc=>zO b (js .leq false c (vy 122)) λc=>jW b c (vb false) λb=>zH b a λc=>JP b (js .geq false c (vy 48)) λc=>zH b c λc=>j4 c a λa=>zO c (js .leq false a (vy 57)) λa=>JP b (y8 c a (vb false)) λa=>jW b (vb true) a λa=>jg a:=gq Tryz.func66
theorem g67:G 67 [a,b]=jH a b (jg (vi (- 1))) (yw a b (jg (vi 1)) (jg (vi 0))):=gq Tryz.func67
theorem g68:G 68 [a]=jl 2 a λa=>brn (kU (je a 0)) (kF 83 [je a 1] λb=>brn (kU b) (brn (kU (je a 0)) (brn (kU b) (jg (A.agg [je a 0,b])) none) none) none) none:=gq Tryz.func68
theorem g69:G 69 [a]=jl 2 a λa=>kF 84 [yf a] λb=>YE b (vi 30) λb=>jZ b true λ_=>zQ b 85 [yf a] λa=>zO b (js .leq false a (vi 8)) λa=>jW b a (vb false) λa=>jg a:=gq Tryz.func69
theorem g7:G 7 [a]=jl 4 a λa=>kFN 19 [je a 0,vi 1,vi 6] λb=>jZ b false λ_=>zH b (je a 1) λc=>jaW b 20 [c] λc=>JP b (K2 .not c) λc=>jW b (vb true) c λb=>jZ b false λ_=>zH b (je a 2) λc=>jaW b 20 [c] λc=>JP b (K2 .not c) λc=>jW b (vb true) c λb=>jZ b false λ_=>jZ b false λ_=>jaW b 21 [A.agg [je a 3]] λc=>JP b (K2 .not c) λc=>Q2 b (vb true) c (jg (A.tup [sv [],vb false])) (kF 22 [] λb=>kIP 1 b (je a 0) λb=>jp b (sv [32]) λb=>kF 23 [je a 1] λc=>jp b c λb=>jp b (sv [32,97,116,32]) λb=>kF 23 [je a 2] λc=>jp b c λb=>jp b (sv [58,32]) λb=>kF 24 [A.agg [je a 3]] λa=>jp b a λa=>jg (A.tup [a,vb true])):=gq Tryz.func7
theorem g70:G 70 [a]=jl 2 a λa=>kF 86 [je a 0] λb=>Kn b (j5 (je a 1) λa=>z8 a (vi 0) λa=>jg a) (kF 71 [je a 0] λb=>jZ b true λ_=>j4 b (je a 1) λc=>zO b (KO c) λc=>zO b (js .leq false c (vi 4)) λc=>jW b c (vb false) λb=>jZ b true λ_=>j4 b (je a 1) λa=>zQ b 87 [a,A.fn 88 []] λa=>zO b (K2 .not a) λa=>jW b a (vb false) λa=>jg a):=gq Tryz.func70
theorem g71:G 71 [a]=kLS a λb=>jbA a b (vi 0):=gq Tryz.func71
theorem jeO:jbA a b c=jH c b (z8 c (vi 0) λd=>j4 d a λe=>j4 d c λf=>zO d (jT e f) λe=>zQ d 89 [e] λe=>zO d (K2 .not e) λe=>jW d e (vb false) λd=>zH d a λe=>zH d c λf=>JP d (jT e f) λe=>jaW d 89 [e] λe=>JP d (K2 .not e) λe=>zH d e λe=>j4 e a λf=>j4 e c λg=>zO e (jT f g) λf=>zQ e 90 [f] λf=>zO e (K2 .not f) λf=>JP d (y8 e f (vb false)) λe=>zH d e λe=>j4 e a λf=>j4 e c λg=>zO e (jT f g) λf=>zO e (js .neq false f (vy 95)) λf=>JP d (y8 e f (vb false)) λe=>Q2 d (vb true) e (jg (vb false)) (jp c (vi 1) λc=>jbA a b c)) (kLS a λb=>kF 19 [b,vi 1,vi 6] λb=>zQ b 92 [] λc=>j4 b a λa=>zQ b 91 [c,a] λa=>zO b (K2 .not a) λa=>jW b a (vb false) λa=>jg a):=hq Tryz.func71
theorem g72:G 72 [a]=jl 2 a λa=>kF 69 [yf a] λb=>jZ b true λ_=>zQ b 70 [yf a] λa=>jW b a (vb false) λa=>jg a:=gq Tryz.func72
theorem g73:G 73 [a]=jl 2 a λa=>kIS (je a 0) (vi 0) λa=>kF 93 [a] λa=>jg a:=gq Tryz.func73
theorem g74:G 74 [a,b]=kF 94 [a] λc=>kF 94 [b] λd=>e_2 c d a b:=gq Tryz.func74
theorem g75:G 75 [a,b,c]=j5 a λd=>jel a b c a d (vi 0):=gq Tryz.func75
theorem jkb:jel a b c d e f=jH f e (Jv 2 2 d f λg=>jl 2 g λg=>j5 b λh=>jdA f h (jg (vi 1)) (Jv 2 2 b f λh=>jl 2 h λh=>(DX.run K (MM K) (.callc c [yf g,yf h] false)).bind λg=>zi g (vi 0) (jg g) (jp f (vi 1) λf=>jel a b c d e f))) (j5 a λa=>Q1 a b (jg (vi (- 1))) (jg (vi 0))):=hq Tryz.func75
theorem g76:G 76 [a]=jcf a a λa=>jg a:=gq Tryz.func76
theorem g8:G 8 [a,b]=jl 4 a λa=>jl 4 b λb=>zi (je a 0) (je b 0) (jg (vb false)) (kF 25 [je a 1,je b 1] λc=>kbN c (jg (vb false)) (kF 25 [je a 2,je b 2] λc=>kbN c (jg (vb false)) (kF 26 [A.agg [je a 3],A.agg [je b 3]] λa=>kbN a (jg (vb false)) (jg (vb true))))):=gq Tryz.func8
theorem g80:G 80 [a,b]=jl 2 a λa=>jl 2 b λb=>zi (je a 0) (je b 0) (jg (vb false)) (kF 101 [je a 1,je b 1] λa=>kbN a (jg (vb false)) (jg (vb true))):=gq Tryz.func80
theorem g81:G 81 [a,b]=j5 a λc=>YF b c λb=>jH b (vi 0) (jg (vi (- 1))) (jbB a b (vi 0)):=gq Tryz.func81
theorem jkc:jbB a b c=Q1 c a (Jv 2 2 a c λd=>kF 62 [d,b] λb=>jH b (vi 0) (jg (vi (- 1))) (jp c (vi 1) λc=>jbB a b c)) (jg b):=hq Tryz.func81
theorem g82:G 82 [a,b]=yw a b (jg a) (jg b):=gq Tryz.func82
theorem g83:G 83 [a]=j5 a λb=>kMk 40 b b λb=>jem a (vi 0) (QL b [sv [],A.sl 2 []]):=gq Tryz.func83
theorem jkd:jem a b p=Q1 b a (Jv 2 2 a b λc=>kF 68 [c] λc=>kIx (yB p) b λd=>jl 2 c λc=>kRG p d λe=>jp b (vi 1) λb=>jem a b (ZV p d (Yk e 0 [je c 0,je c 1]))) (jg (A.sl 2 p)):=hq Tryz.func83
theorem g84:G 84 [a]=jl 2 a λa=>j5 (je a 1) λb=>jen (vi 1) (je a 1) b (vi 0):=gq Tryz.func84
theorem jg9:jen a b c d=jH d c (Jv 2 2 b d λe=>jl 2 e λe=>yw a (vi 30) (jg a) (kF 84 [yf e] λe=>jp a e λa=>jp d (vi 1) λd=>jen a b c d)) (jg a):=hq Tryz.func84
theorem g85:G 85 [a]=jl 2 a λa=>j5 (je a 1) λb=>jeo (vi 0) (je a 1) b (vi 0):=gq Tryz.func85
theorem jke:jeo a b c d=jH d c (Jv 2 2 b d λe=>jl 2 e λe=>kF 85 [yf e] λe=>(jdN a e).bind λa=>jp d (vi 1) λd=>jeo a b c d) (jp a (vi 1) λa=>jg a):=hq Tryz.func85
theorem g86:G 86 [a]=kLS a λb=>jbC a b (vi 0):=gq Tryz.func86
theorem jeP:jbC a b c=jH c b (z8 c (vi 0) λd=>j4 d a λe=>j4 d c λf=>zO d (jT e f) λe=>zQ d 93 [e] λe=>zO d (K2 .not e) λe=>jW d e (vb false) λd=>zH d c λe=>JP d (js .gtr false e (vi 0)) λe=>zH d e λe=>j4 e a λf=>j4 e c λg=>zO e (jT f g) λf=>zQ e 89 [f] λf=>zO e (K2 .not f) λf=>JP d (y8 e f (vb false)) λe=>zH d e λe=>j4 e a λf=>j4 e c λg=>zO e (jT f g) λf=>zQ e 90 [f] λf=>zO e (K2 .not f) λf=>JP d (y8 e f (vb false)) λe=>Q2 d (vb true) e (jg (vb false)) (jp c (vi 1) λc=>jbC a b c)) (kLS a λa=>kF 19 [a,vi 1,vi 4] λa=>jg a):=hq Tryz.func86
theorem g87:G 87 [a,b]=kF 102 [a,b] λa=>JQ a (vi 0) λa=>jg a:=gq Tryz.func87
theorem g88:G 88 [a]=jl 2 a λa=>kFN 70 [yf a] λa=>jg a:=gq Tryz.func88
theorem g89:G 89 [a]=JQ a (vy 97) λb=>j4 b a λa=>zO b (js .leq false a (vy 122)) λa=>jW b a (vb false) λa=>jg a:=gq Tryz.func89
theorem g9:G 9 [a,b]=j5 a λa=>YF b a λa=>jH a (vi 0) (jg (vi (- 1))) (jg a):=gq Tryz.func9
theorem g90:G 90 [a]=JQ a (vy 48) λb=>j4 b a λa=>zO b (js .leq false a (vy 57)) λa=>jW b a (vb false) λa=>jg a:=gq Tryz.func90
theorem g91:G 91 [a,b]=kF 103 [a,b] λa=>JQ a (vi 0) λa=>jg a:=gq Tryz.func91
theorem g92:G 92 []=jg (A.sl 1 [[sv [116,114,117,101]],[sv [102,97,108,115,101]],[sv [116,114,117,116,104]],[sv [98,111,116,104]],[sv [101,105,116,104,101,114]],[sv [105,102]],[sv [97,108,108]],[sv [115,111,109,101]]]):=gq Tryz.func92
theorem g93:G 93 [a]=JQ a (vy 65) λb=>j4 b a λa=>zO b (js .leq false a (vy 90)) λa=>jW b a (vb false) λa=>jg a:=gq Tryz.func93
theorem g94:G 94 [a]=jcf a a λa=>jg a:=gq Tryz.func94
end
end
end Go.Proofs.YtmmnimiohoammaaGreatDoor
