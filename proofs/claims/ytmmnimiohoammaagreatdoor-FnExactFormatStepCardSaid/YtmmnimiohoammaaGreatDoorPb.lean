/- Pb -/
import Derived.Test.YtmmnimiohoammaaGreatDoorPa
import Derived.Lib.Join
namespace Go.Proofs.YtmmnimiohoammaaGreatDoor
open Go Go.RowKit Go.Proofs.YtmmnimiohoammaaGreatDoor.Abs
set_option linter.unusedSimpArgs false
set_option linter.unusedVariables false
set_option maxHeartbeats 1000000
def Bx (t:T):Prop:=(t.name = [61]/\t.args.length=2/\ ∀u∈t.args,zS u=true)\/(zL t.name=true/\zS t=true)
theorem Bx.rx {t:T} (h:Bx t):Rx' t:=h.elim (λh=>Or.inr ⟨h.1,h.2.2⟩) λh=>Or.inl h.2
theorem Bx.ax {t:T} (h:Bx t):zS t=true\/(t.name = [61]/\t.args.length=2/\ ∀u∈t.args,zS u=true):=h.elim Or.inr λh=>Or.inl h.2
theorem Bx.args {t:T} (h:Bx t):∀u∈t.args,zS u=true:=h.elim (λh=>h.2.2) λh=>yy h.2
theorem jls {n:List UInt8} (h:zL n=true):jw n=false:=by
 cases hv:jw n with
 | false=>rfl
 | true=>rw [jd2 hv] at h;cases h
theorem Bx.nv {t:T} (h:Bx t):jw t.name=false:=h.elim (λh=>by rw [h.1];decide) λh=>jls h.1
theorem qL {t:T} (h:t.args.length=2):t.args = [zf t,zP t]:=by
 obtain ⟨n,us⟩:=t
 match us,h with
 | [a,b],_=>rfl
theorem Kt {t:T} :kE t=true↔Bx t/\j7 t=true:=by
 unfold kE Bx;by_cases he:t.name = [61]
 .rw [if_pos he];unfold jbW;rw [Bool.and_eq_true,Bool.and_eq_true,Bool.and_eq_true,decide_eq_true_eq];constructor
  .rintro ⟨h1,h2,h3,h4⟩;refine ⟨Or.inl ⟨he,h1,λu hu=> ?_⟩,h2⟩;rw [qL h1] at hu;simp only [List.mem_cons,List.not_mem_nil,or_false] at hu;rcases hu with rfl|rfl
   .exact h3
   .exact h4
  .rintro ⟨h|h,h2⟩
   .obtain ⟨_,_,ma,mb⟩:=K7 h.2.1;exact ⟨h.2.1,h2,h.2.2 _ ma,h.2.2 _ mb⟩
   .rw [he] at h;exact absurd h.1 (by decide)
 .rw [if_neg he];unfold zZ;rw [Bool.and_eq_true,Bool.and_eq_true];constructor
  .rintro ⟨h1,h2,h3⟩;exact ⟨Or.inr ⟨h1,h3⟩,h2⟩
  .rintro ⟨h|h,h2⟩
   .exact absurd h.1 he
   .exact ⟨h.1,h2,h.2⟩
theorem Bx.atom {t:T} (h:Bx t):kE t=j7 t:=by
 cases hs:j7 t with
 | true=>exact Kt.2 ⟨h,hs⟩
 | false=>
  cases ha:kE t with
  | false=>rfl
  | true=>rw [(Kt.1 ha).2] at hs;cases hs
theorem Bx.tsz {t:T} (h:Bx t):tsz t<=10 * nodes t:=by
 rcases h with h|h
 .rw [kh,jR,h.1,h.2.1];have:=jiX h.2.2;simp only [List.length_cons,List.length_nil];omega
 .exact jdI t h.2
theorem Bx.tz {t:T} (h:Bx t) (hn:nodes t<=100000):Tz t:=by have:=h.tsz;unfold Tz;omega
theorem Bx.sub {s:kr} (hs:Km s=true) {t:T} (h:Bx t):Bx (sub s t):=by
 obtain ⟨_,_,hv⟩:=K0 hs;have ho:∀q∈s,zS q.2=true:=λq hq=>jaz (hv q hq).2.1;have hn:=h.nv;rcases h with h|h
 .left;rw [Qp hn,jc1 hn,List.length_map];refine ⟨h.1,h.2.1,λu hu=> ?_⟩;obtain ⟨a,ha,rfl⟩:=List.mem_map.1 hu;exact jbq ho a (h.2.2 a ha)
 .right;rw [Qp hn];exact ⟨h.1,jbq ho t h.2⟩
mutual
theorem jal (f:List UInt8->List UInt8):∀t:T,nodes (qB f t)<=nodes t
 | .mk n us=>by
  rw [qB];split
  .have:=jfD (.mk n us);show 1+0<=_;omega
  .have:=Qi f us;simp only [nodes];omega
theorem Qi (f:List UInt8->List UInt8):∀ts:List T,jv (zV f ts)<=jv ts
 | []=>Nat.le_refl _
 | t::ts=>by have:=jal f t;have:=Qi f ts;simp only [zV,jv];omega
end
mutual
theorem jjc (f:List UInt8->List UInt8):∀t:T,ZZ (qB f t)<=ZZ t
 | .mk n us=>by
  rw [qB];split
  .rw [jaM (.mk n us)];show 1+0<=_;omega
  .have:=jcJ f us;simp only [ZZ];omega
theorem jcJ (f:List UInt8->List UInt8):∀ts:List T,J0 (zV f ts)<=J0 ts
 | []=>Nat.le_refl _
 | t::ts=>by have:=jjc f t;have:=jcJ f ts;simp only [zV,J0];omega
end
theorem Qh {f:List UInt8->List UInt8} {t:T} (h:jw t.name=false):(qB f t).name=t.name:=by rw [jbi,h,if_neg Bool.false_ne_true];rfl
theorem jcI {f:List UInt8->List UInt8} {t:T} (h:jw t.name=false):(qB f t).args=t.args.map (qB f):=by rw [jbi,h,if_neg Bool.false_ne_true];rfl
theorem jhP {f:List UInt8->List UInt8} (hf:∀n,jw n=true->jw (f n)=true):∀t:T,zS t=true->zS (qB f t)=true:=by
 refine T.ind λt ih h=> ?_;cases hv:jw t.name with
 | true=>rw [jbi,hv,if_pos rfl];exact jhi _ (hf _ hv)
 | false=>
  have hk:=h;rw [zU,hv,if_neg Bool.false_ne_true,Bool.and_eq_true,Bool.and_eq_true,decide_eq_true_eq] at h;rw [zU,Qh hv,jcI hv,hv,if_neg Bool.false_ne_true,Bool.and_eq_true,Bool.and_eq_true,decide_eq_true_eq,List.length_map,y5,List.all_eq_true];refine ⟨h.1,h.2.1,λu hu=> ?_⟩;obtain ⟨a,ha,rfl⟩:=List.mem_map.1 hu;exact ih a ha (yy hk a ha)
theorem Bx.ren {f:List UInt8->List UInt8} (hf:∀n,jw n=true->jw (f n)=true) {t:T} (h:Bx t):Bx (qB f t):=by
 have hn:=h.nv;rcases h with h|h
 .left;rw [Qh hn,jcI hn,List.length_map];refine ⟨h.1,h.2.1,λu hu=> ?_⟩;obtain ⟨a,ha,rfl⟩:=List.mem_map.1 hu;exact jhP hf a (h.2.2 a ha)
 .right;rw [Qh hn];exact ⟨h.1,jhP hf t h.2⟩
theorem Zb:∀d:Nat,d < 10->kL (UInt8.ofNat (48+d))=true:=by decide
theorem qR {u:Nat} (h:u < 10):Lib.decDigits u = [UInt8.ofNat (48+u)]:=Lib.decDigits_one h
theorem Yn {u:Nat} (h:¬u < 10):Lib.decDigits u=Lib.decDigits (u / 10)++[UInt8.ofNat (48+u % 10)]:=by rw [Lib.decDigits,dif_neg h]
theorem yc:∀(k u:Nat),u < 10 ^ (k+1)->(Lib.decDigits u).all kL=true/\(Lib.decDigits u).length<=k+1
 | 0,u,h=>by rw [qR (by omega)];exact ⟨by rw [List.all_cons,Zb u (by omega),List.all_nil];rfl,by simp⟩
 | k+1,u,h=>by
  by_cases hu:u < 10
  .rw [qR hu];exact ⟨by rw [List.all_cons,Zb u hu,List.all_nil];rfl,by simp⟩
  .obtain ⟨h1,h2⟩:=yc k (u / 10) (by rw [Nat.pow_succ] at h;omega)
   rw [Yn hu,List.all_append,h1,List.length_append];exact ⟨by rw [List.all_cons,Zb (u % 10) (by omega),List.all_nil];rfl,by simp only [List.length_cons,List.length_nil];omega⟩
theorem jhg {p:UInt8} (hp:upc p=true) {i:Nat} (hi:i < 1000):jw (jk6 p i)=true:=by
 obtain ⟨h1,h2⟩:=yc 2 i (by omega);show (upc p && ((Lib.decDigits i).all kL && decide ((Lib.decDigits i).length<=3)))=true;rw [hp,h1,decide_eq_true (by omega)];rfl
theorem jjC {l:List (List UInt8)} {n x:List UInt8} :x∈vnA l n↔x∈l\/x=n:=by
 unfold vnA;split
 .rename_i h;rw [List.contains_iff_mem] at h;exact ⟨Or.inl,λh'=>h'.elim id λe=>e ▸ h⟩
 .simp
theorem jgm {l:List (List UInt8)} {n:List UInt8} (h:l.Nodup):(vnA l n).Nodup:=by
 unfold vnA;split
 .exact h
 .rename_i hc;rw [List.contains_iff_mem] at hc;refine List.nodup_append.2 ⟨h,by simp,λa ha b hb=> ?_⟩;simp only [List.mem_singleton] at hb;rintro rfl;exact hc (hb ▸ ha)
mutual
theorem jhn:∀(t:T) (l:List (List UInt8)) (x:List UInt8),x∈YX l t↔x∈l\/x∈Qs t
 | .mk n us,l,x=>by
  rw [YX,Qs];split
  .rw [jjC];simp
  .exact jcx us l x
theorem jcx:∀(ts:List T) (l:List (List UInt8)) (x:List UInt8),x∈YV l ts↔x∈l\/x∈Qt ts
 | [],l,x=>by simp [YV,Qt]
 | t::ts,l,x=>by rw [YV,Qt,jcx ts,jhn t,List.mem_append,or_assoc]
end
mutual
theorem jdJ:∀(t:T) {l:List (List UInt8)},l.Nodup->(YX l t).Nodup
 | .mk n us,l,h=>by
  rw [YX];split
  .exact jgm h
  .exact YW us h
theorem YW:∀(ts:List T) {l:List (List UInt8)},l.Nodup->(YV l ts).Nodup
 | [],l,h=>h
 | t::ts,l,h=>by rw [YV];exact YW ts (jdJ t h)
end
def CN (c:zm):Prop:=c.length<=8/\ ∀l∈c,Bx l.2/\nodes l.2<=30
theorem jdF {c:zm} (h:CN c):(qj c).length<=240:=by
 have:∀(c:zm) (l:List (List UInt8)),(∀y∈c,nodes y.2<=30)->(c.foldl (λl x=>YX l x.2) l).length<=l.length+30 * c.length:=by
  intro c;induction c with
  | nil=>intro l _;simp
  | cons y c ih=>
   intro l h;have h1:=ji1 y.2 l;have h2:=h y (by simp);have h3:=ih (YX l y.2) λz hz=>h z (by simp [hz]);rw [List.foldl_cons,List.length_cons];omega
 have h2:=this c [] λy hy=>(h.2 y hy).2;have h3:=h.1;rw [List.length_nil] at h2;unfold qj;omega
theorem jfl {p:UInt8} (hp:upc p=true) {l:List (List UInt8)} (hl:l.length<=1000) {n:List UInt8} (hn:jw n=true):jw (Yj p l n)=true:=by
 unfold Yj;split
 .rename_i i h;have:=(List.findIdx?_eq_some_iff_getElem.1 h).1;exact jhg hp (by omega)
 .exact hn
theorem jgW {α:Type} (c:α->α->Int) (l:List α) (x:α):(QE c l x).length<=l.length+1:=by
 unfold QE;split
 .omega
 .have:=congrArg List.length (List.takeWhile_append_dropWhile (p:=λa=>decide (c a x < 0)) (l:=l));rw [List.length_append] at this;rw [List.length_append,List.length_cons];omega
theorem jfy {α:Type} (c:α->α->Int) (l:List α):(JS c l).length<=l.length:=by
 have:∀(l m:List α),(l.foldl (QE c) m).length<=m.length+l.length:=by
  intro l;induction l with
  | nil=>intro m;simp
  | cons x l ih=>
   intro m;have h1:=jgW c m x;have h2:=ih (QE c m x);rw [List.foldl_cons,List.length_cons];omega
 have:=this l [];simpa [JS] using this
theorem jfz {l:zm} {x:Lt} :x∈JS cmpL l↔x∈l:=(jfx jbQ l).2 x
theorem CN.make {l:zm} (hl:l.length<=8) (h:∀x∈l,Bx x.2/\nodes x.2<=30):CN (JS cmpL l):=⟨by have:=jfy cmpL l;omega,λx hx=>h x (jfz.1 hx)⟩
theorem CN.ren {p:UInt8} (hp:upc p=true) {c:zm} (h:CN c):∀x∈c.map (λl=>(l.1,qB (Yj p (qj c)) l.2)),Bx x.2/\nodes x.2<=30:=by
 intro x hx;obtain ⟨l,hl,rfl⟩:=List.mem_map.1 hx;have hn:=jdF h;have:=jal (Yj p (qj c)) l.2;have:=(h.2 l hl).2;exact ⟨(h.2 l hl).1.ren λn hn=>jfl hp (by omega) hn,by show nodes (qB (Yj p (qj c)) l.2)<=30;omega⟩
theorem CN.renC {p:UInt8} (hp:upc p=true) {c:zm} (h:CN c):CN (renC p c):=CN.make (by rw [List.length_map];exact h.1) (h.ren hp)
theorem CN.normF:∀(k:Nat) {c:zm},CN c->CN (normF k c)
 | 0,c,h=>h
 | k+1,c,h=>by
  rw [Go.Proofs.YtmmnimiohoammaaGreatDoor.normF];split
  .exact h
  .exact CN.normF k (CN.renC (by decide) h)
theorem CN.normC {c:zm} (h:CN c):CN (normC c):=CN.normF 10 h
theorem jbw {c:zm} (h:qy c=true):CN c/\Asc cmpL c/\(∀l∈c,kE l.2=true):=by
 unfold qy at h;rw [Bool.and_eq_true,Bool.and_eq_true,List.all_eq_true,decide_eq_true_eq,jbJ] at h;exact ⟨⟨h.2.2,λl hl=>⟨(Kt.1 (h.1 l hl)).1,jcV (Kt.1 (h.1 l hl)).2⟩⟩,h.2.1,h.1⟩
theorem CN.tz {c:zm} (h:CN c):∀l∈c,Tz l.2:=λl hl=>(h.2 l hl).1.tz (by have:=(h.2 l hl).2;omega)
theorem CN.rx {c:zm} (h:CN c):∀l∈c,Rx' l.2:=λl hl=>(h.2 l hl).1.rx
theorem Rx'.va {t:T} (h:Rx' t) (hv:jw t.name=true):t.args = []:=h.elim (λh=>jh8 h hv) λh=>by rw [h.1] at hv;exact absurd hv (by decide)
def jnn (d:zm):zm:=d.map λl=>(l.1,qB (Yj 89 (qj d)) l.2)
def jiU (c:zm):Bool:=qy c && jeI c
open Classical in
noncomputable def jnU (a b:T):Option kr:=if h:∃r k,jkt k [] [(a,b)]=some r then h.choose else none
noncomputable def jkF (s:kr) (l:zm):Option zm:=if (l.all λx=>j7 (sub s x.2)) && qy (JS cmpL (l.map λx=>(x.1,sub s x.2))) then some (JS cmpL (l.map λx=>(x.1,sub s x.2))) else none
noncomputable def jpu (s:kr) (l:zm):Option zm:=(jkF s l).bind λc=>if jiU (normC c) then some (normC c) else none
abbrev cz:A:= .agg [.sl 3 []]
def jpn (o:Option zm):Option Out:=match o with|some c=>some (.tup [cm c,vb true],[])|none=>some (.tup [cz,vb false],[])
def atI:List Int->T->Option T
 | [],t=>some t
 | i::p,t=>if 0<=i/\i < (t.args.length:Int) then atI p (t.args.getD i.toNat (.mk [] [])) else none
def cmb (n:List UInt8) (xs:List (List UInt8)):List UInt8:=
 if n = [61] then xs.getD 0 []++[32,61,32]++xs.getD 1 []
 else if xs = [] then n else n++[40]++Lib.join xs [44]++[41]
mutual
def jC:T->List UInt8
 | .mk n us=>cmb n (jiE us)
def jiE:List T->List (List UInt8)
 | []=>[]
 | t::ts=>jC t::jiE ts
end
theorem jb0:∀us:List T,jiE us=us.map jC
 | []=>rfl
 | t::ts=>by rw [jiE,jb0 ts];rfl
theorem Z1 (t:T):jC t=cmb t.name (t.args.map jC):=by
 cases t with
 | mk n us=>rw [jC,jb0];rfl
theorem Z3 (sep:List UInt8) (c:Nat) (hs:sep.length<=c):∀(xs:List (List UInt8)),(Lib.join xs sep).length<=(xs.map λx=>x.length+c).sum
 | []=>by rw [Lib.join_nil];exact Nat.zero_le _
 | x::r=>by
  have:∀r:List (List UInt8),(Lib.joinTail sep r).length<=(r.map λx=>x.length+c).sum:=by
   intro r;induction r with
   | nil=>simp [Lib.joinTail]
   | cons y r ih=>
    have:(Lib.joinTail sep (y::r)).length=sep.length+y.length+(Lib.joinTail sep r).length:=by simp [Lib.joinTail];omega
    rw [this,List.map_cons,List.sum_cons];omega
  rw [Lib.join_cons,List.length_append,List.map_cons,List.sum_cons];have:=this r;omega
theorem Yu:∀us:List T,(∀u∈us,(jC u).length<=6 * tsz u+5)->((us.map jC).map λx=>x.length+1).sum<=6 * us.length+6 * zj us
 | [],_=>by simp
 | u::us,h=>by
  have h1:=h u (by simp);have h2:=Yu us λv hv=>h v (by simp [hv]);simp only [List.map_cons,List.sum_cons,List.length_cons,zj];omega
theorem zG:∀t:T,(jC t).length<=6 * tsz t+5:=by
 refine T.ind λt ih=> ?_;rw [Z1,kh];have hs:=Yu t.args ih;unfold cmb;split
 .rename_i hn;have hl:t.name.length=1:=by rw [hn];rfl
  have:∀us:List T,(∀u∈us,(jC u).length<=6 * tsz u+5)->((us.map jC).getD 0 []).length+((us.map jC).getD 1 []).length<=6 * us.length+6 * zj us:=by
   intro us h
   match us,h with
   | [],_=>simp
   | [a],h=>have:=h a (by simp);simp [zj];omega
   | a::b::r,h=>
    have h1:=h a (by simp);have h2:=h b (by simp);simp [zj];omega
  have:=this t.args ih;simp only [List.length_append,List.length_cons,List.length_nil];omega
 .split
  .omega
  .have h1:=Z3 [44] 1 (Nat.le_refl _) (t.args.map jC);simp only [List.length_append,List.length_cons,List.length_nil];omega
theorem Q0 (sep:List UInt8) (xs:List (List UInt8)) (i:Nat) (h:i < xs.length):Lib.join (xs.take (i+1)) sep=if i=0 then xs[i] else Lib.join (xs.take i) sep++sep++xs[i]:=by
 cases xs with
 | nil=>simp at h
 | cons x r=>
  cases i with
  | zero=>simp [Lib.join_one]
  | succ i=>
   have hi:i < r.length:=by simpa using h
   rw [if_neg (by omega),List.take_succ_cons,List.take_succ_cons,Lib.join_cons,Lib.join_cons,Lib.joinTail_take_succ sep r i r[i] (List.getElem?_eq_getElem hi)];simp [List.append_assoc]
def jU (l:Lt):List UInt8:=
 if l.1 then jC l.2 else if l.2.name = [61] then jC (zf l.2)++[32,33,61,32]++jC (zP l.2) else [126]++jC l.2
def fmtC (c:zm):List UInt8:=if c = [] then [36,102,97,108,115,101] else Lib.join (c.map jU) [32,124,32]
def Yt (l:List Int):List UInt8:=if l = [] then [45] else Lib.join (l.map λn=>Lib.decDigits n.toNat) [44]
theorem jeL {xs:List (List UInt8)} {sep:List UInt8} (h:xs≠ []) (hx:∀x∈xs,x≠ []):Lib.join xs sep≠ []:=by
 cases xs with
 | nil=>exact absurd rfl h
 | cons x r=>
  rw [Lib.join_cons];intro e;exact hx x (by simp) (List.append_eq_nil_iff.1 e).1
open Go Go.RowKit Go.ChangeShapes Go.Deep Go.Proofs.YtmmnimiohoammaaGreatDoor.Abs
section
variable {P:Program} {t:Nat} {H:Type} {enc:TypeId × Value->H} {w:World} {base:Nat} {spare:Nat->Bool} {held:Bool} {fuel:Nat} {cs:List Value} {x:DataW H × List MemPlace}
theorem jdZ {α β γ δ:Type} {g0:α->List A} {g1:β->List A} {g2:γ->List A} {g3:δ->List A} {p0:α->Prop} {p1:β->Prop} {p2:γ->Prop} {p3:δ->Prop} {f0 f1 f2 f3:Field} {k0 k1 k2 k3:Nat} (ht:P.underlying t=some (.struct #[f0,f1,f2,f3]))
  (o0:f0.offset=0) (o1:f1.offset=k0) (o2:f2.offset=k0+k1) (o3:f3.offset=k0+k1+k2) (c0:P.cellsOf f0.type=k0) (c1:P.cellsOf f1.type=k1) (c2:P.cellsOf f2.type=k2) (c3:P.cellsOf f3.type=k3) (c:P.cellsOf t=k0+k1+k2+k3)
  (h0:∀n cs x,n < fuel->DataW.trod enc P w base spare held n f0.type cs=some x-> ∃a,p0 a/\jf w (λ_=>False) (g0 a) cs/\jc cs)
  (h1:∀n cs x,n < fuel->DataW.trod enc P w base spare held n f1.type cs=some x-> ∃a,p1 a/\jf w (λ_=>False) (g1 a) cs/\jc cs)
  (h2:∀n cs x,n < fuel->DataW.trod enc P w base spare held n f2.type cs=some x-> ∃a,p2 a/\jf w (λ_=>False) (g2 a) cs/\jc cs)
  (h3:∀n cs x,n < fuel->DataW.trod enc P w base spare held n f3.type cs=some x-> ∃a,p3 a/\jf w (λ_=>False) (g3 a) cs/\jc cs)
  (h:DataW.trod enc P w base spare held fuel t cs=some x):∃a b d e,p0 a/\p1 b/\p2 d/\p3 e/\jf w (λ_=>False) (g0 a++g1 b++g2 d++g3 e) cs/\jc cs:=by
 obtain ⟨xs,n,hfn,rfl,hl,hlen,hf⟩:=DataW.trod_struct ht h;have e0:=hf 0 f0 rfl;have e1:=hf 1 f1 rfl;have e2:=hf 2 f2 rfl;have e3:=hf 3 f3 rfl;rw [o0,c0] at e0;rw [o1,c1] at e1;rw [o2,c2] at e2;rw [o3,c3] at e3;have hlen:xs.length=4:=hlen;have hx0:xs[0]? = some xs[0]:=List.getElem?_eq_getElem (by omega);have hx1:xs[1]? = some xs[1]:=List.getElem?_eq_getElem (by omega);have hx2:xs[2]? = some xs[2]:=List.getElem?_eq_getElem (by omega);have hx3:xs[3]? = some xs[3]:=List.getElem?_eq_getElem (by omega);rw [hx0] at e0;rw [hx1] at e1;rw [hx2] at e2;rw [hx3] at e3;obtain ⟨a,q1,q2,q3⟩:=h0 n _ _ (by omega) e0;obtain ⟨b,r1,r2,r3⟩:=h1 n _ _ (by omega) e1;obtain ⟨d,s1,s2,s3⟩:=h2 n _ _ (by omega) e2;obtain ⟨f,u1,u2,u3⟩:=h3 n _ _ (by omega) e3;have e:cs=(cs.drop 0).take k0++(cs.drop k0).take k1++(cs.drop (k0+k1)).take k2++(cs.drop (k0+k1+k2)).take k3:=by
  rw [List.take_of_length_le (l:=cs.drop (k0+k1+k2)) (by simp;omega),List.drop_zero,List.append_assoc,<-List.drop_drop (i:=k2),List.take_append_drop,List.append_assoc,<-List.drop_drop,List.take_append_drop,List.take_append_drop]
 rw [e];exact ⟨a,b,d,f,q1,r1,s1,u1,jF (jF (jF q2 r2) s2) u2,jc.append (jc.append (jc.append q3 r3) s3) u3⟩
end
abbrev clc (c:zm):List A:=[.sl 3 (c.map yP)]
structure Stp where
 rule:Int
 par:List Int
 whr:List Int
 cls:zm
abbrev stc (s:Stp):List A:=[vi s.rule,ints s.par,ints s.whr,.sl 3 (s.cls.map yP)]
abbrev stm (s:Stp):A:= .agg [vi s.rule,ints s.par,ints s.whr,.sl 3 (s.cls.map yP)]
structure Prf where
 ax:List zm
 st:List Stp
abbrev cls (l:List zm):A:= .sl 1 (l.map clc)
abbrev jjr (l:List Stp):A:= .sl 4 (l.map stc)
abbrev prc (p:Prf):List A:=[cls p.ax,jjr p.st]
abbrev prm (p:Prf):A:= .agg [cls p.ax,jjr p.st]
structure Sch where
 prf:Prf
 act:List Int
 pas:List Int
 lost:Bool
abbrev scc (s:Sch):List A:=[cls s.prf.ax,jjr s.prf.st,ints s.act,ints s.pas,vb s.lost]
abbrev scm (s:Sch):A:= .agg [cls s.prf.ax,jjr s.prf.st,ints s.act,ints s.pas,vb s.lost]
def iwf (l:List Int):Prop:=(∀x∈l,I64 x)/\l.length<=9223372036854775807
def cwf (c:zm):Prop:=(∀l∈c,JW l.2)/\c.length<=9223372036854775807
def swf (s:Stp):Prop:=I64 s.rule/\iwf s.par/\iwf s.whr/\cwf s.cls
def pwf (p:Prf):Prop:=((∀c∈p.ax,cwf c)/\p.ax.length<=9223372036854775807)/\((∀s∈p.st,swf s)/\p.st.length<=9223372036854775807)
def joh (s:Sch):Prop:=pwf s.prf/\iwf s.act/\iwf s.pas
theorem jlm:Qy Tryz.prog 73 yP (λl:Lt=>JW l.2):=λ_ _ _ _ _ _ fuel cs x h=>by
 obtain ⟨a,b,h1,h2,h3,h4⟩:=jdY (k0:=1) (k1:=2) Tryz.underlying73 rfl rfl (by kernel_rfl) (by kernel_rfl) (by kernel_rfl)
  (λ_ _ _ _ h=>ji8 _ _ _ _ _ _ _ _ _ h) (λ_ _ _ _ h=>jjb _ _ _ _ _ _ _ _ _ h) h
 rw [qa] at h3;exact ⟨(a,b),h2,h3,h4⟩
theorem ji9:Qy Tryz.prog 23 (λc:zm=>[A.sl 3 (c.map yP)]) cwf:=
 Qy.slice Tryz.underlying23 (by kernel_rfl) (by decide) (λ_=>rfl) jlm
theorem jf1:Qy Tryz.prog 25 clc cwf:=λ_ _ _ _ _ _ fuel cs x h=>by
 obtain ⟨a,h1,h2,h3⟩:=jdX (k0:=1) Tryz.underlying25 rfl (by kernel_rfl) (by kernel_rfl)
  (λ_ _ _ _ h=>ji9 _ _ _ _ _ _ _ _ _ h) h
 exact ⟨a,h1,h2,h3⟩
theorem jja:Qy Tryz.prog 27 stc swf:=λ_ _ _ _ _ _ fuel cs x h=>by
 obtain ⟨a,b,d,e,h1,h2,h3,h4,h5,h6⟩:=jdZ (k0:=1) (k1:=1) (k2:=1) (k3:=1) Tryz.underlying27 rfl rfl rfl rfl (by kernel_rfl) (by kernel_rfl) (by kernel_rfl) (by kernel_rfl) (by kernel_rfl)
  (λ_ _ _ _ h=>jhO _ _ _ _ _ _ _ _ _ h) (λ_ _ _ _ h=>jeZ _ _ _ _ _ _ _ _ _ h) (λ_ _ _ _ h=>jeZ _ _ _ _ _ _ _ _ _ h) (λ_ _ _ _ h=>jf1 _ _ _ _ _ _ _ _ _ h) h
 exact ⟨⟨a,b,d,e⟩,⟨h1,h2,h3,h4⟩,h5,h6⟩
theorem jgD (a b c d e f:A):Yk [a,b,c] 0 [d,e,f] = [d,e,f]:=rfl
theorem yo (l:Lt):kJ 3 (.elt (yP l) 0)=some (ltm l):=rfl
def lsz:zm->Nat
 | []=>0
 | l::c=>tsz l.2+lsz c
def csz (c:zm):Nat:=c.length+lsz c
def jl2:List zm->Nat
 | []=>0
 | c::l=>csz c+jl2 l
def ssz (s:Stp):Nat:=s.par.length+s.whr.length+csz s.cls
def jmJ:List Stp->Nat
 | []=>0
 | s::l=>ssz s+jmJ l
def psz (p:Prf):Nat:=(p.ax.length+jl2 p.ax)+(p.st.length+jmJ p.st)
def jog (s:Sch):Nat:=psz s.prf+s.act.length+s.pas.length
theorem ja1:∀ {c:zm} {l:Lt},l∈c->tsz l.2<=lsz c
 | x::c,l,h=>by
  simp only [lsz];rcases List.mem_cons.1 h with rfl|h
  .omega
  .have:=ja1 h;omega
theorem jlu (l:Lt) (hw:JW l.2) (left:Int) (h0:0<=left) (h1:left<=1048576):G 41 [ltm l,vi left]=some (vi (jy left ((tsz l.2:Nat):Int)),[]):=by
 have e1:=jjw l.2 hw left h0 h1;rw [g41];by_cases h:jy left ((tsz l.2:Nat):Int) < 0
 .have:jy left ((tsz l.2:Nat):Int) = -1:=by have:=KJ left (tsz l.2:Nat);omega
  simp only [jm,e1,h,this]
 .simp only [jm,e1,h]
theorem jly (l:Lt) (hz:tsz l.2<=1048576):G 48 [ltm l]=some (ltm l,[]):=by
 have e1:=jjA l.2 hz;rw [g48];simp only [jm,e1]
theorem jkQ (l:Lt) (hw:JW l.2):G 61 [ltm l,ltm l]=some (vb true,[]):=by
 have e1:=jiB l.2 hw;rw [g61];cases l.1<;>simp only [jm,e1]
theorem jju (l:List Lt) (hl:l.length<=9223372036854775807) (ih:∀t∈l,∀left:Int,0<=left->left<=1048576->G 41 [ltm t,vi left]=some (vi (jy left ((tsz t.2:Nat):Int)),[]))
  (left:Int) (h0:0<=left) (h1:left<=1048576):G 27 [.sl 3 (l.map yP),vi left]=some (vi (jy left ((l.length+lsz l:Nat):Int)),[]):=by
 have loop:∀(a:Int),0<=a->a<=1048576->jbx (.sl 3 (l.map yP)) (vi a) (vi 0)=some (vi (jy a (lsz l)),[]):=by
  have key:=(upto (P:=λi=>∀a:Int,0<=a->a<=1048576->jbx (.sl 3 (l.map yP)) (vi a) (vi i)=some (vi (jy a (lsz (l.drop i))),[])) (n:=l.length) ?_ ?_ 0 (Nat.zero_le _))
  .simp only [List.drop_zero,Int.natCast_zero] at key;exact key
  .intro b hb hb';rw [jj0,List.drop_length];simp only [jm,lsz];rw [YL hb]
  .intro i hi ih' b hb hb';have e1:=ih l[i] (List.getElem_mem _) b hb hb';rw [jj0,jB hi];simp only [jm,hi,Int.ofNat_lt,ja hi,yo,e1,jA hi hl,lsz];by_cases hc:b < (tsz l[i].2:Nat)
   .rw [ko hc,ko (by omega)];rfl
   .have hp:=yn (Int.not_lt.1 hc);have ih':=ih' (jy b (tsz l[i].2:Nat)) (by omega) (by omega);have hn:¬jy b ((tsz l[i].2:Nat):Int) < 0:=by omega
    simp only [jm,hn,ih'];rw [Zf (Int.not_lt.1 hc),<-Int.natCast_add]
 have hk:=jaL h0 (Int.le_trans h1 (by decide)) hl;rw [g27];simp only [jm,hk];by_cases hc:left - l.length < 0
 .simp only [jm,hc];rw [ko (by omega)]
 .have hl:=loop (left - l.length) (by omega) (by omega);simp only [jm,hc,hl];rw [Jx,<-Int.natCast_add]
theorem jjy (l:List Lt) (hl:l.length<=1048576) (ih:∀t∈l,G 48 [ltm t]=some (ltm t,[])):G 32 [.sl 3 (l.map yP)]=some (.sl 3 (l.map yP),[]):=by
 have key:=(upto (P:=λi=>jee (.sl 3 (l.map yP)) (vi i) (part yP [vb false,sv [],.sl 2 []] l i)=some (.sl 3 (l.map yP),[])) (n:=l.length) ?_ ?_ 0 (Nat.zero_le _))
 .rw [g32];have hm:=Zj (b:=48) (n:=l.length) (by omega) hl;simp only [Int.natCast_zero,<-Zl] at key;simp only [jm,hm,key]
 .rw [jj1,Y2];simp only [jm]
 .intro i hi ih';have h1:=Jb (f:=yP) (z:=[vb false,sv [],.sl 2 []]) (Nat.le_of_lt hi);have h2:pIx (part yP [vb false,sv [],.sl 2 []] l i).length (vi i)=some i:=jbf (by omega);have h4:=Y4 (f:=yP) (z:=[vb false,sv [],.sl 2 []]) hi;have h5:=jA hi (Nat.le_trans hl (by decide));have e1:=ih l[i] (List.getElem_mem _);rw [jj1];simp only [jm,hi,Int.ofNat_lt,ja hi,yo,e1,h2,Y3 hi,jgD,h4,h5,ih']
theorem jiz (l:List Lt) (hl:l.length<=9223372036854775807) (ih:∀t∈l,G 61 [ltm t,ltm t]=some (vb true,[])):G 40 [.sl 3 (l.map yP),.sl 3 (l.map yP)]=some (vb true,[]):=by
 have key:=(upto (P:=λi=>jef (.sl 3 (l.map yP)) (.sl 3 (l.map yP)) (vi i)=some (vb true,[])) (n:=l.length) ?_ ?_ 0 (Nat.zero_le _))
 .rw [g40];simp only [Int.natCast_zero] at key;simp only [jm,key]
 .rw [jj2];simp only [jm]
 .intro i hi ih';have h5:=jA hi hl;have e1:=ih l[i] (List.getElem_mem _);rw [jj2];simp only [jm,hi,Int.ofNat_lt,ja hi,yo,e1,h5,ih']
theorem jlt (c:zm) (hw:cwf c) (left:Int) (h0:0<=left) (h1:left<=1048576):G 10 [cm c,vi left]=some (vi (jy left ((csz c:Nat):Int)),[]):=by
 have e1:G 27 [.sl 3 (c.map yP),vi left]=some (vi (jy left ((csz c:Nat):Int)),[]):=jju c hw.2 (λl hl=>jlu l (hw.1 l hl)) left h0 h1;rw [g10];by_cases h:jy left ((csz c:Nat):Int) < 0
 .have:jy left ((csz c:Nat):Int) = -1:=by have:=KJ left (csz c:Nat);omega
  simp only [jm,e1,h,this]
 .simp only [jm,e1,h]
theorem jlx (c:zm) (hz:csz c<=1048576):G 18 [cm c]=some (cm c,[]):=by
 unfold csz at hz;have e1:=jjy c (by omega) λl hl=>jly l (by have:=ja1 hl;omega);rw [g18];simp only [jm,e1]
theorem jkP (c:zm) (hw:cwf c):G 26 [cm c,cm c]=some (vb true,[]):=by
 have e1:=jiz c hw.2 λl hl=>jkQ l (hw.1 l hl);rw [g26];simp only [jm,e1]
theorem YM {left:Int} {m n:Nat} (h1:left<=1048576) (h:¬jy left (m:Int) < 0):jy (jy left (m:Int)) (n:Int)=jy left ((m+n:Nat):Int)/\0<=jy left (m:Int)/\jy left (m:Int)<=1048576:=by
 have hm:(m:Int)<=left:=by
  refine Int.not_lt.1 λhc=>h ?_;rw [ko hc];decide
 have:=yn hm;refine ⟨?_,by omega,by omega⟩;rw [Zf hm,<-Int.natCast_add]
theorem jcl {left:Int} {m n:Nat} (h:jy left (m:Int) < 0):jy left ((m+n:Nat):Int) = -1:=by
 have:left < m:=by
  refine Int.not_le.1 λhc=> ?_;rw [yn hc] at h;omega
 exact ko (by omega)
theorem jjv (s:Stp) (hw:swf s) (left:Int) (h0:0<=left) (h1:left<=1048576):G 4 [stm s,vi left]=some (vi (jy left ((ssz s:Nat):Int)),[]):=by
 have e1:=jfb s.par hw.2.1.2 left h0 h1;rw [g4];unfold ssz;by_cases c1:jy left ((s.par.length:Nat):Int) < 0
 .rw [Nat.add_assoc,jcl c1];simp only [jm,e1,c1]
 .obtain ⟨d1,d2,d3⟩:=YM (n:=s.whr.length) h1 c1;have e2:=jfb s.whr hw.2.2.1.2 _ d2 d3;rw [d1] at e2;by_cases c2:jy left ((s.par.length+s.whr.length:Nat):Int) < 0
  .rw [jcl c2];simp only [jm,e1,c1,e2,c2]
  .obtain ⟨d4,d5,d6⟩:=YM (n:=csz s.cls) h1 c2;have e3:=jlt s.cls hw.2.2.2 _ d5 d6;rw [d4] at e3;by_cases c3:jy left ((s.par.length+s.whr.length+csz s.cls:Nat):Int) < 0
   .have:jy left ((s.par.length+s.whr.length+csz s.cls:Nat):Int) = -1:=by have:=KJ left (s.par.length+s.whr.length+csz s.cls:Nat);omega
    simp only [jm,e1,c1,e2,c2,e3,c3,this]
   .simp only [jm,e1,c1,e2,c2,e3,c3]
theorem jjz (s:Stp) (hz:ssz s<=1048576):G 6 [stm s]=some (stm s,[]):=by
 unfold ssz at hz;have e1:=jfd s.par (by omega);have e2:=jfd s.whr (by omega);have e3:=jlx s.cls (by omega);rw [g6];simp only [jm,e1,e2,e3]
theorem jiA (s:Stp) (hw:swf s):G 8 [stm s,stm s]=some (vb true,[]):=by
 have e1:=jey s.par hw.2.1.2;have e2:=jey s.whr hw.2.2.1.2;have e3:=jkP s.cls hw.2.2.2;rw [g8];simp only [jm,e1,e2,e3]
theorem jdv (c:Bool) (l:List UInt8):fin c (sv l,[])=some (sv l):=by cases c<;>rfl
theorem zW (b:Bool) {x y:List UInt8} (h:x.length+y.length<=9223372036854775807):js .add b (sv x) (sv y)=some (sv (x++y)):=by rw [Q9,if_pos h]
theorem ldS (x:List UInt8):qZ (.elt (cs x) 0)=some (sv x):=rfl
theorem ldI (n:Int):qZ (.elt (ci n) 0)=some (vi n):=rfl
theorem jhz {n:Nat} (h:n<=4194304):Zh n 16=true:=by
 unfold Zh;exact decide_eq_true ⟨by omega,by omega⟩
theorem jdj (f:List UInt8) (l:List (List UInt8)):jhL (l.map cs) [[sv f]]=(l++[f]).map cs:=by rw [List.map_append];rfl
theorem jh0:∀d:Nat,d < 10->qk (sv [48,49,50,51,52,53,54,55,56,57]) (some (vi (d:Nat))) (some (vi ((d+1:Nat):Int)))=some (sv [UInt8.ofNat (48+d)])
 | 0,_=>rfl|1,_=>rfl|2,_=>rfl|3,_=>rfl|4,_=>rfl|5,_=>rfl|6,_=>rfl|7,_=>rfl|8,_=>rfl|9,_=>rfl
theorem jk0:∀n:Nat,n<=1000000->G 30 [vi (n:Nat)]=some (sv (Lib.decDigits n),[]):=by
 intro n;induction n using Nat.strongRecOn with
 | ind n ih=>
  intro hn;have h0:¬((n:Nat):Int) < 0:=by omega
  rw [g30];by_cases h:n < 10
  .have h1:((n:Nat):Int) < 10:=by omega
   have h2:ck ((n:Int)+1)=some (vi ((n+1:Nat):Int)):=z6 (by omega) (by omega);have h3:=jh0 n h;rw [qR h];simp only [jm,h0,h1,h2,h3]
  .have h1:¬((n:Nat):Int) < 10:=by omega
   have hq:js .quo false (vi (n:Nat)) (vi 10)=some (vi ((n / 10:Nat):Int)):=by
    show ck (((n:Nat):Int).tdiv 10)=_;rw [Int.tdiv_eq_ediv_of_nonneg (by omega)];exact z6 (by omega) (by omega)
   have hr:js .rem false (vi (n:Nat)) (vi 10)=some (vi ((n % 10:Nat):Int)):=by
    show some (vi (((n:Nat):Int).tmod 10))=_;rw [Int.tmod_eq_emod_of_nonneg (by omega)];rfl
   have h2:ck (((n % 10:Nat):Int)+1)=some (vi ((n % 10+1:Nat):Int)):=z6 (by omega) (by omega);have h3:=jh0 (n % 10) (by omega);have h4:=ih (n / 10) (by omega) (by omega);have hl:(Lib.decDigits (n / 10)).length + [UInt8.ofNat (48+n % 10)].length<=9223372036854775807:=by
    have:=(yc 6 (n / 10) (by omega)).2;simp only [List.length_cons,List.length_nil];omega
   have h5:=Q9 false (Lib.decDigits (n / 10)) [UInt8.ofNat (48+n % 10)];rw [if_pos hl] at h5;rw [Yn h];simp only [jm,h0,h1,hq,hr,h2,h3,h4,h5]
theorem jmh (n:Nat) (hn:n<=1000000):G 37 [vi (n:Nat)]=some (sv (Lib.decDigits n),[]):=by
 have:K.ext 37=some jeJ:=rfl;rw [jjF this];show (if -9223372036854775808<=((n:Nat):Int)/\((n:Nat):Int)<=9223372036854775807 then some (sv (Lib.itoa (n:Nat)),[]) else none)=_;rw [if_pos (by omega)];unfold Lib.itoa;rw [if_neg (by omega),Int.toNat_natCast]
theorem jcZ:∀l:List (List UInt8),Abs.strs (l.map cs)=some (l.map λx=>(⟨⟨x⟩⟩:ByteArray))
 | []=>rfl
 | x::l=>by
  show (Abs.strs (l.map cs)).map _=_;rw [jcZ l];rfl
theorem YC (l:List (List UInt8)) (sep:List UInt8) (h1:l.length<=100000000) (h2:(Lib.join l sep).length<=100000000):G 38 [.sl 1 (l.map cs),sv sep]=some (sv (Lib.join l sep),[]):=by
 have:K.ext 38=some jeK:=rfl;rw [jjF this];have hm:(l.map λx=>(⟨⟨x⟩⟩:ByteArray)).map (·.data.toList)=l:=by rw [List.map_map];exact (List.map_congr_left λx _=>rfl).trans (List.map_id l)
 show (if 1=1 then (Abs.strs (l.map cs)).bind _ else none)=_;rw [if_pos rfl,jcZ,Option.bind_some,hm,if_pos ⟨by rw [List.length_map];omega,by show (Lib.join l sep).length<=_;omega⟩]
theorem jeV {t:T} (h:zS t=true):¬t.name = [61]:=λe=>by
 rw [zU,e,show jw [61]=false from by decide,if_neg Bool.false_ne_true,show zL [61]=false from by decide,Bool.false_and] at h;cases h
def pre (n:List UInt8) (xs:List (List UInt8)) (i:Nat):List UInt8:=if i=0 then n else n++[40]++Lib.join (xs.take i) [44]
theorem jhI (n:List UInt8) (xs:List (List UInt8)) (i:Nat) (h:i < xs.length):pre n xs (i+1)=(if i=0 then n++[40] else pre n xs i++[44])++xs[i]:=by
 unfold pre;rw [if_neg (by omega),Q0 [44] xs i h];by_cases h0:i=0
 .rw [if_pos h0,if_pos h0]
 .rw [if_neg h0,if_neg h0,if_neg h0];simp only [List.append_assoc]
theorem jc2 (f:List UInt8->Nat) (xs:List (List UInt8)) (i:Nat):((xs.take i).map f).sum<=(xs.map f).sum:=by
 have:(xs.map f).sum=((xs.take i).map f).sum+((xs.drop i).map f).sum:=by
  rw [<-List.sum_append,<-List.map_append,List.take_append_drop]
 omega
theorem jeY (n:List UInt8) (xs:List (List UInt8)) (i:Nat):(pre n xs i).length<=n.length+1+(xs.map λx=>x.length+1).sum:=by
 unfold pre;split
 .omega
 .have h1:=Z3 [44] 1 (Nat.le_refl _) (xs.take i);have h2:=jc2 (λx=>x.length+1) xs i;simp only [List.length_append,List.length_cons,List.length_nil];omega
theorem jeB (us:List T):((us.map jC).map λx=>x.length+1).sum<=6 * us.length+6 * zj us:=Yu us λu _=>zG u
theorem jaR {t:T} (h:¬t.name = [61]):jC t=if t.args.length=0 then t.name else pre t.name (t.args.map jC) t.args.length++[41]:=by
 rw [Z1];unfold cmb pre;rw [if_neg h];cases ht:t.args with
 | nil=>rfl
 | cons u us=>
  rw [if_neg (by simp),if_neg (by simp),if_neg (by simp),List.take_of_length_le (by simp)]
theorem yZ:∀t:T,zS t=true->tsz t<=1048576->G 47 [tm t]=some (sv (jC t),[]):=by
 refine T.ind λt ih hk hz=> ?_;have hne:=jeV hk;have hs:=jeB t.args;rw [kh] at hz;have key:=upto (n:=t.args.length) (P:=λi=>QP (sv (pre t.name (t.args.map jC) i)) (vi (i:Nat)) (sv t.name) (yG t.args)=some (sv (jC t),[])) ?_ ?_ 0 (Nat.zero_le _)
 .simp only [Int.natCast_zero] at key;have key:QP (sv t.name) (vi 0) (sv t.name) (yG t.args)=some (sv (jC t),[]):=key;rw [g47];simp only [jm,hne,key]
 .have nlt:¬((t.args.length:Nat):Int) < ((t.args.length:Nat):Int):=by omega
  rw [jj6,jaR hne];by_cases h0:t.args.length=0
  .rw [h0];have hg:¬(0:Int) < ((0:Nat):Int):=by decide
   simp only [jm,nlt,h0,hg];rfl
  .have hg:(0:Int) < ((t.args.length:Nat):Int):=by omega
   have hl:=jeY t.name (t.args.map jC) t.args.length;have a1:=zW false (x:=pre t.name (t.args.map jC) t.args.length) (y:=[41]) (by simp only [List.length_cons,List.length_nil];omega);rw [if_neg h0];simp only [jm,nlt,hg,a1]
 .intro i hi ihi;have hlt:(i:Int) < ((t.args.length:Nat):Int):=by omega
  have h5:=jA hi (by show t.args.length<=9223372036854775807;omega)
  have hm:=List.getElem_mem hi;have e:=ih _ hm (yy hk _ hm) (by have:=zk hm;omega);have x1:jk 2 (yG t.args) (vi (i:Nat))=some (.elt (jI t.args[i]) 0):=ja hi;have hp:=jhI t.name (t.args.map jC) i (by rw [List.length_map];exact hi);have hl:=jeY t.name (t.args.map jC) i;have hl2:=zG t.args[i];have hl3:=zk hm;rw [List.getElem_map] at hp;rw [hp] at ihi;generalize t.args[i]=u at e x1 ihi hl2 hl3;rw [jj6];by_cases h0:i=0
  .subst h0;have a1:=zW false (x:=pre t.name (t.args.map jC) 0) (y:=[40]) (by simp only [List.length_cons,List.length_nil];omega);have a2:=zW false (x:=pre t.name (t.args.map jC) 0++[40]) (y:=jC u) (by simp only [List.length_append,List.length_cons,List.length_nil];omega);rw [if_pos rfl] at ihi;have ihi:QP (sv (pre t.name (t.args.map jC) 0++[40]++jC u)) (vi ((0+1:Nat):Int)) (sv t.name) (yG t.args)=some (sv (jC t),[]):=ihi;generalize pre t.name (t.args.map jC) 0=X at *;have z0:((0:Nat):Int)=0:=rfl;rw [z0] at hlt x1 h5 ⊢;simp only [jm,hlt,a1,x1,ji,e,a2,h5,ihi]
  .have h0':¬(i:Int)=0:=by omega
   have a1:=zW false (x:=pre t.name (t.args.map jC) i) (y:=[44]) (by simp only [List.length_cons,List.length_nil];omega)
   have a2:=zW false (x:=pre t.name (t.args.map jC) i++[44]) (y:=jC u) (by simp only [List.length_append,List.length_cons,List.length_nil];omega)
   rw [if_neg h0] at ihi;generalize pre t.name (t.args.map jC) i=X at *;simp only [jm,hlt,h0',a1,x1,ji,e,a2,h5,ihi]
theorem kN:∀t:T,zS t=true->tsz t<=1048576->G 59 [tm t]=some (sv (jC t),[]):=by
 refine T.ind λt ih hk hz=> ?_;have hne:=jeV hk;have hs:=jeB t.args;have hfl:=zG t;rw [kh] at hz;have e0:=kO t;rw [decide_eq_false hne] at e0;have key:=upto (n:=t.args.length) (P:=λi=>¬t.args.length=0->jei (yG t.args) (vi (t.args.length:Nat)) (vi (i:Nat)) (sv t.name) (yG t.args) (((t.args.take i).map jC).map cs)=some (sv (jC t),[])) ?_ ?_ 0 (Nat.zero_le _)
 .simp only [Int.natCast_zero,List.take_zero,List.map_nil] at key;rw [g59];by_cases h0:t.args.length=0
  .have h0':((t.args.length:Nat):Int)=0:=by omega
   rw [jaR hne,if_pos h0];simp only [jm,e0,h0']
  .have h0':¬((t.args.length:Nat):Int)=0:=by omega
   simp only [jm,e0,h0',key h0]
 .intro h0;have nlt:¬((t.args.length:Nat):Int) < ((t.args.length:Nat):Int):=by omega
  have hj:=Z3 [44] 1 (Nat.le_refl _) (t.args.map jC);have j1:=YC (t.args.map jC) [44] (by rw [List.length_map];omega) (by omega);have a1:=zW false (x:=t.name) (y:=[40]) (by simp only [List.length_cons,List.length_nil];omega);have a2:=zW false (x:=t.name++[40]) (y:=Lib.join (t.args.map jC) [44]) (by simp only [List.length_append,List.length_cons,List.length_nil];omega);have a3:=zW false (x:=t.name++[40]++Lib.join (t.args.map jC) [44]) (y:=[41]) (by simp only [List.length_append,List.length_cons,List.length_nil];omega);have hf:jC t=t.name++[40]++Lib.join (t.args.map jC) [44]++[41]:=by
   rw [jaR hne,if_neg h0];unfold pre;rw [if_neg h0,List.take_of_length_le (by simp)]
  rw [hf,List.take_length,jj8];generalize t.args.map jC=xs at *;simp only [jm,nlt,a1,j1,jdv,a2,a3]
 .intro i hi ihi h0;have hlt:(i:Int) < ((t.args.length:Nat):Int):=by omega
  have h5:=jA hi (by show t.args.length<=9223372036854775807;omega)
  have hm:=List.getElem_mem hi;have e:=ih _ hm (yy hk _ hm) (by have:=zk hm;omega);have x1:jk 2 (yG t.args) (vi (i:Nat))=some (.elt (jI t.args[i]) 0):=ja hi;have f1:Zh ((((t.args.take i).map jC).map cs).length+1) 16=true:=jhz (by rw [List.length_map,List.length_map,List.length_take];omega);have ihi:=ihi h0;rw [List.take_succ_eq_append_getElem hi,List.map_append,List.map_cons,List.map_nil,<-jdj] at ihi;generalize t.args[i]=u at e x1 ihi;generalize ((t.args.take i).map jC).map cs=R at *;rw [jj8];simp only [jm,hlt,x1,ji,e,f1,h5,ihi]
theorem jiF {t:T} (hn:t.name = [61]) (hl:t.args.length=2):jC t=jC (zf t)++[32,61,32]++jC (zP t):=by
 rw [Z1,qL hl];unfold cmb;rw [if_pos hn];rfl
theorem Yi {t:T} (h:Bx t) (hn:nodes t<=30):tsz t<=300:=by have:=h.tsz;omega
theorem jbH {t:T} (hl:t.args.length=2) (hz:tsz t<=300):tsz (zf t)<=300/\tsz (zP t)<=300:=by
 rw [kh,qL hl] at hz;simp only [zj] at hz;omega
theorem jdx {t:T} (hb:Bx t) (hz:tsz t<=300):G 47 [tm t]=some (sv (jC t),[])/\G 59 [tm t]=some (sv (jC t),[]):=by
 rcases hb with ⟨hn,hl,hk⟩|⟨hs,hk⟩
 .obtain ⟨z0,z1⟩:=jbH hl hz;have k0:zS (zf t)=true:=hk _ (by rw [qL hl];simp);have k1:zS (zP t)=true:=hk _ (by rw [qL hl];simp);have s0:=yZ _ k0 (by omega);have s1:=yZ _ k1 (by omega);have i0:=kN _ k0 (by omega);have i1:=kN _ k1 (by omega);have l0:=zG (zf t);have l1:=zG (zP t);have a1:=zW false (x:=jC (zf t)) (y:=[32,61,32]) (by simp only [List.length_cons,List.length_nil];omega);have a2:=zW false (x:=jC (zf t)++[32,61,32]) (y:=jC (zP t)) (by simp only [List.length_append,List.length_cons,List.length_nil];omega);have x0:jk 2 (yG t.args) (vi 0)=some (.elt (jI (zf t)) 0):=by rw [qL hl];exact ja (xs:=[zf t,zP t]) (i:=0) (by simp)
  have x1:jk 2 (yG t.args) (vi 1)=some (.elt (jI (zP t)) 0):=by rw [qL hl];exact ja (xs:=[zf t,zP t]) (i:=1) (by simp)
  have e0:=kO t;rw [decide_eq_true hn] at e0;rw [jiF hn hl];refine ⟨?_,?_⟩
  .rw [g47];simp only [jm,hn,x0,x1,ji,s0,s1,a1,a2]
  .rw [g59];simp only [jm,e0,x0,x1,ji,i0,i1,a1,a2]
 .exact ⟨yZ t hk (by omega),kN t hk (by omega)⟩
theorem Zc {l:Lt} (hb:Bx l.2) (hz:tsz l.2<=300):G 31 [ltm l]=some (sv (jU l),[])/\G 39 [ltm l]=some (sv (jU l),[])/\(jU l).length<=4000/\jU l≠ []:=by
 obtain ⟨s,t⟩:=l;have hb:Bx t:=hb;have hz:tsz t<=300:=hz;obtain ⟨e1,e2⟩:=jdx hb hz;have hl:=zG t;have e0:=kO t;have hnn:jC t≠ []:=by
  rw [Z1];unfold cmb;rcases hb with ⟨hn,_,_⟩|⟨hs,hk⟩
  .rw [if_pos hn];simp
  .have hne:t.name≠ []:=λe=>by rw [e] at hs;revert hs;decide
   rw [if_neg (jeV hk)];split
   .exact hne
   .simp
 unfold jU;cases s with
 | true=>
  refine ⟨?_,?_,by show (jC t).length<=4000;omega,hnn⟩
  .rw [g31];simp only [jm,e1]
  .rw [g39];simp only [jm,e2]
 | false=>
  by_cases hn:t.name = [61]
  .obtain ⟨hla,hk⟩:t.args.length=2/\ ∀u∈t.args,zS u=true:=by
    rcases hb with h|h
    .exact h.2
    .exact absurd hn (jeV h.2)
   obtain ⟨z0,z1⟩:=jbH hla hz;have k0:zS (zf t)=true:=hk _ (by rw [qL hla];simp);have k1:zS (zP t)=true:=hk _ (by rw [qL hla];simp);have s0:=yZ _ k0 (by omega);have s1:=yZ _ k1 (by omega);have i0:=kN _ k0 (by omega);have i1:=kN _ k1 (by omega);have l0:=zG (zf t);have l1:=zG (zP t);have a1:=zW false (x:=jC (zf t)) (y:=[32,33,61,32]) (by simp only [List.length_cons,List.length_nil];omega);have a2:=zW false (x:=jC (zf t)++[32,33,61,32]) (y:=jC (zP t)) (by simp only [List.length_append,List.length_cons,List.length_nil];omega);have x0:jk 2 (yG t.args) (vi 0)=some (.elt (jI (zf t)) 0):=by rw [qL hla];exact ja (xs:=[zf t,zP t]) (i:=0) (by simp)
   have x1:jk 2 (yG t.args) (vi 1)=some (.elt (jI (zP t)) 0):=by rw [qL hla];exact ja (xs:=[zf t,zP t]) (i:=1) (by simp)
   rw [decide_eq_true hn] at e0;have hf:(if (false,t).1=true then jC t else if (false,t).2.name = [61] then jC (zf (false,t).2)++[32,33,61,32]++jC (zP (false,t).2) else [126]++jC (false,t).2)=jC (zf t)++[32,33,61,32]++jC (zP t):=by
    rw [if_neg Bool.false_ne_true];exact if_pos hn
   rw [hf];refine ⟨?_,?_,by simp only [List.length_append,List.length_cons,List.length_nil];omega,by simp⟩
   .rw [g31];simp only [jm,hn,x0,x1,ji,s0,s1,a1,a2]
   .rw [g39];simp only [jm,e0,x0,x1,ji,i0,i1,a1,a2]
  .have a1:=zW false (x:=[126]) (y:=jC t) (by simp only [List.length_cons,List.length_nil];omega)
   rw [decide_eq_false hn] at e0;have hf:(if (false,t).1=true then jC t else if (false,t).2.name = [61] then jC (zf (false,t).2)++[32,33,61,32]++jC (zP (false,t).2) else [126]++jC (false,t).2) = [126]++jC t:=by
    rw [if_neg Bool.false_ne_true];exact if_neg hn
   rw [hf];refine ⟨?_,?_,by simp only [List.length_append,List.length_cons,List.length_nil];omega,by simp⟩
   .rw [g31];simp only [jm,hn,e1,a1]
   .rw [g39];simp only [jm,e0,e2,a1]
def Jc (sep:List UInt8) (xs:List (List UInt8)) (i:Nat):List UInt8:=Lib.join (xs.take i) sep
theorem jag (sep:List UInt8) (xs:List (List UInt8)) (i:Nat) (h:i < xs.length):Jc sep xs (i+1)=(if i=0 then Jc sep xs i else Jc sep xs i++sep)++xs[i]:=by
 unfold Jc;rw [Q0 sep xs i h];by_cases h0:i=0
 .subst h0;simp [Lib.join_nil]
 .rw [if_neg h0,if_neg h0]
theorem Jd (sep:List UInt8) (c k:Nat) (hs:sep.length<=c) (xs:List (List UInt8)) (hx:∀x∈xs,x.length<=k) (i:Nat):(Jc sep xs i).length<=(k+c) * xs.length:=by
 have h1:=Z3 sep c hs (xs.take i);have h2:=jc2 (λx=>x.length+c) xs i;have h3:∀xs:List (List UInt8),(∀x∈xs,x.length<=k)->(xs.map λx=>x.length+c).sum<=(k+c) * xs.length:=by
  intro xs;induction xs with
  | nil=>intro _;simp
  | cons x xs ih=>
   intro h;have a:=h x (by simp);have b:=ih λy hy=>h y (by simp [hy]);rw [List.map_cons,List.sum_cons,List.length_cons,Nat.mul_succ];omega
 have:=h3 xs hx;unfold Jc;omega
theorem jck {c:zm} (hc:CN c):G 16 [cm c]=some (sv (fmtC c),[]):=by
 have h8:=hc.1;have ok:∀l∈c,_:=λl hl=>Zc (hc.2 l hl).1 (Yi (hc.2 l hl).1 (hc.2 l hl).2);have hpl:=λi=>Jd [32,124,32] 3 4000 (by decide) (c.map jU) (λx hx=>by obtain ⟨l,hl,rfl⟩:=List.mem_map.1 hx;exact (ok l hl).2.2.1) i;rw [List.length_map] at hpl;have key:=upto (n:=c.length) (P:=λi=>Ye (sv (Jc [32,124,32] (c.map jU) i)) (vi (i:Nat)) (.sl 3 (c.map yP))=some (sv (fmtC c),[])) ?_ ?_ 0 (Nat.zero_le _)
 .simp only [Int.natCast_zero] at key;have key:Ye (sv []) (vi 0) (.sl 3 (c.map yP))=some (sv (fmtC c),[]):=key;rw [g16];simp only [jm,key]
 .have nlt:¬((c.length:Nat):Int) < ((c.length:Nat):Int):=by omega
  rw [jjU];unfold Jc fmtC;rw [List.take_of_length_le (by simp)];by_cases h0:c = []
  .subst h0;rw [if_pos rfl];simp only [jm,Lib.join_nil,List.map_nil]
  .have hne:Lib.join (c.map jU) [32,124,32]≠ []:=jeL (by simpa using h0) λx hx=>by obtain ⟨l,hl,rfl⟩:=List.mem_map.1 hx;exact (ok l hl).2.2.2
   rw [if_neg h0];generalize Lib.join (c.map jU) [32,124,32]=X at *;simp only [jm,nlt,hne]
 .intro i hi ihi;have hlt:(i:Int) < ((c.length:Nat):Int):=by omega
  have h5:=jA hi (by show c.length<=9223372036854775807;omega)
  have hm:=List.getElem_mem hi;obtain ⟨e,_,hl2,_⟩:=ok _ hm;have x1:jk 3 (.sl 3 (c.map yP)) (vi (i:Nat))=some (.elt (yP c[i]) 0):=ja hi;have hp:=jag [32,124,32] (c.map jU) i (by rw [List.length_map];exact hi);have hl:=hpl i;rw [List.getElem_map] at hp;rw [hp] at ihi;generalize c[i]=u at e x1 ihi hl2;rw [jjU];by_cases h0:i=0
  .subst h0;rw [if_pos rfl] at ihi;generalize Jc [32,124,32] (c.map jU) 0=X at *;have a2:=zW false (x:=X) (y:=jU u) (by omega);have ihi:Ye (sv (X++jU u)) (vi ((0+1:Nat):Int)) (.sl 3 (c.map yP))=some (sv (fmtC c),[]):=ihi;have z0:((0:Nat):Int)=0:=rfl;rw [z0] at hlt x1 h5 ⊢;simp only [jm,hlt,x1,yo,e,a2,h5,ihi]
  .have h0':(0:Int) < (i:Int):=by omega
   rw [if_neg h0] at ihi;generalize Jc [32,124,32] (c.map jU) i=X at *;have a1:=zW false (x:=X) (y:=[32,124,32]) (by simp only [List.length_cons,List.length_nil];omega);have a2:=zW false (x:=X++[32,124,32]) (y:=jU u) (by simp only [List.length_append,List.length_cons,List.length_nil];omega);simp only [jm,hlt,h0',a1,x1,yo,e,a2,h5,ihi]
theorem ZQ {c:zm} (hc:CN c):G 24 [cm c]=some (sv (fmtC c),[]):=by
 have h8:=hc.1;have ok:∀l∈c,_:=λl hl=>Zc (hc.2 l hl).1 (Yi (hc.2 l hl).1 (hc.2 l hl).2);have hpl:=Jd [32,124,32] 3 4000 (by decide) (c.map jU) (λx hx=>by obtain ⟨l,hl,rfl⟩:=List.mem_map.1 hx;exact (ok l hl).2.2.1) c.length;rw [List.length_map] at hpl;unfold Jc at hpl;rw [List.take_of_length_le (by simp)] at hpl;have key:=upto (n:=c.length) (P:=λi=>jec (.sl 3 (c.map yP)) (vi (c.length:Nat)) (vi (i:Nat)) (((c.take i).map jU).map cs)=some (sv (Lib.join (c.map jU) [32,124,32]),[])) ?_ ?_ 0 (Nat.zero_le _)
 .simp only [Int.natCast_zero,List.take_zero,List.map_nil] at key;rw [g24];unfold fmtC;by_cases h0:c = []
  .subst h0;rw [if_pos rfl];simp only [jm,List.map_nil,Int.natCast_zero]
  .have h0':¬((c.length:Nat):Int)=0:=λe=>h0 (List.eq_nil_of_length_eq_zero (by omega));rw [if_neg h0];simp only [jm,h0',key]
 .have nlt:¬((c.length:Nat):Int) < ((c.length:Nat):Int):=by omega
  have j1:=YC (c.map jU) [32,124,32] (by rw [List.length_map];omega) (by omega)
  rw [List.take_length,jjY];generalize c.map jU=xs at *;simp only [jm,nlt,j1,jdv]
 .intro i hi ihi;have hlt:(i:Int) < ((c.length:Nat):Int):=by omega
  have h5:=jA hi (by show c.length<=9223372036854775807;omega)
  have hm:=List.getElem_mem hi;obtain ⟨_,e,_,_⟩:=ok _ hm;have x1:jk 3 (.sl 3 (c.map yP)) (vi (i:Nat))=some (.elt (yP c[i]) 0):=ja hi;have f1:Zh ((((c.take i).map jU).map cs).length+1) 16=true:=jhz (by rw [List.length_map,List.length_map,List.length_take];omega);rw [List.take_succ_eq_append_getElem hi,List.map_append,List.map_cons,List.map_nil,<-jdj] at ihi;generalize c[i]=u at e x1 ihi;generalize ((c.take i).map jU).map cs=R at *;have e:G 39 [.agg [vb u.1,sv u.2.name,yG u.2.args]]=some (sv (jU u),[]):=e;rw [jjY];simp only [jm,hlt,x1,yo,e,f1,h5,ihi]
def listed (l:List Int):Bool:=l.all (z7 0 99) && decide (l.length<=12)
theorem jeG {x:Int} (h:z7 0 99 x=true):∃n:Nat,x=(n:Nat)/\n<=99:=by
 unfold z7 at h;rw [Bool.and_eq_true,decide_eq_true_eq,decide_eq_true_eq] at h;exact ⟨x.toNat,by omega,by omega⟩
theorem JR (l:List Int) (hl:l.length<=1048576):G 12 [ints l]=some (vb (listed l),[]):=by
 have key:=upto (n:=l.length) (P:=λi=>jd7 (ints l) (vi (i:Nat))=some (vb ((l.drop i).all (z7 0 99) && decide (l.length<=12)),[])) ?_ ?_ 0 (Nat.zero_le _)
 .simp only [Int.natCast_zero,List.drop_zero] at key;rw [g12];exact key
 .have nlt:¬((l.length:Nat):Int) < ((l.length:Nat):Int):=by omega
  have e:decide (((l.length:Nat):Int)<=12)=decide (l.length<=12):=by congr 1;exact propext (by omega)
  rw [jjR,List.drop_length,List.all_nil,Bool.true_and,<-e];simp only [jm,nlt]
 .intro i hi ihi;have hlt:(i:Int) < ((l.length:Nat):Int):=by omega
  have h5:=jA hi (by show l.length<=9223372036854775807;omega)
  have x1:jk 1 (ints l) (vi (i:Nat))=some (.elt (ci l[i]) 0):=ja hi;have e:=Jw l[i] 0 99;rw [jB hi,List.all_cons,jjR];generalize l[i]=x at *;cases h:z7 0 99 x<;>rw [h] at e
  .rw [Bool.false_and,Bool.false_and];simp only [jm,hlt,x1,ldI,e]
  .rw [Bool.true_and];simp only [jm,hlt,x1,ldI,e,h5,ihi]
theorem jaU (x:Int):G 34 [vi x]=some (vb (!z7 0 99 x),[]):=by
 have e:=yr x 0 99;rw [g34];simp only [jm,e]
theorem ZC (l:List Int) (hl:l.length<=1048576):G 20 [ints l]=some (vb (listed l),[]):=by
 have key:=upto (n:=l.length) (P:=λi=>∃k:Int,jeh (ints l) (.fn 34 []) (vi (l.length:Nat)) (vi (i:Nat))=some (vi k,[])/\decide (0<=k)=!(l.drop i).all (z7 0 99)) ?_ ?_ 0 (Nat.zero_le _)
 .simp only [Int.natCast_zero,List.drop_zero] at key;obtain ⟨k,k1,k2⟩:=key;have e2:G 49 [ints l,.fn 34 []]=some (vi k,[]):=by
   rw [g49];simp only [jm,k1]
  have e3:G 33 [ints l,.fn 34 []]=some (vb (!l.all (z7 0 99)),[]):=by
   rw [g33];simp only [jm,e2,k2]
  unfold listed;rw [g20];by_cases h:((l.length:Nat):Int)<=12
  .rw [decide_eq_true (p:=l.length<=12) (by omega),Bool.and_true];generalize l.all (z7 0 99)=b at *;have okn:kU (ints l)=true:=rfl;cases b<;>simp only [jm,h,e3]
  .rw [decide_eq_false (p:=l.length<=12) (by omega),Bool.and_false];simp only [jm,h]
 .refine ⟨-1,?_,?_⟩
  .rw [jj7];simp only [jm]
  .rw [List.drop_length];rfl
 .intro i hi ⟨k,ih1,ih2⟩;have hlt:(i:Int) < ((l.length:Nat):Int):=by omega
  have h5:=jA hi (by show l.length<=9223372036854775807;omega)
  have x1:jk 1 (ints l) (vi (i:Nat))=some (.elt (ci l[i]) 0):=ja hi;have e:=jaU l[i];have hp:K.pureF 34=true:=rfl;have cc:DX.run K (MM K) (.callc (.fn 34 []) [vi l[i]] false)=some (vb (!z7 0 99 l[i])):=by
   rw [qO hp,List.append_nil,e];rfl
  rw [jj7,jB hi,List.all_cons];generalize l[i]=x at *;cases hb:z7 0 99 x<;>rw [hb] at cc
  .refine ⟨(i:Nat),?_,?_⟩
   .simp only [jm,hlt,x1,ldI,cc]
   .rw [decide_eq_true (by omega)];rfl
  .refine ⟨k,?_,?_⟩
   .simp only [jm,hlt,x1,ldI,cc,h5,ih1]
   .rw [ih2,Bool.true_and]
abbrev dg (n:Int):List UInt8:=Lib.decDigits n.toNat
theorem jdr {x:Int} (h:z7 0 99 x=true):(dg x).length<=7:=by
 obtain ⟨n,rfl,hn⟩:=jeG h;show (Lib.decDigits (((n:Nat):Int).toNat)).length<=7;rw [Int.toNat_natCast];exact (yc 6 n (by omega)).2
theorem jl7 (x:Int):dg x≠ []:=by
 show Lib.decDigits _≠ [];rw [Lib.decDigits];split<;>simp
theorem qi {l:List Int} (h:listed l=true):l.length<=12/\ ∀x∈l,z7 0 99 x=true:=by
 unfold listed at h;rw [Bool.and_eq_true,decide_eq_true_eq,List.all_eq_true] at h;exact ⟨h.2,h.1⟩
theorem jhh {x:Int} (h:z7 0 99 x=true):G 30 [vi x]=some (sv (dg x),[])/\G 37 [vi x]=some (sv (dg x),[]):=by
 obtain ⟨n,rfl,hn⟩:=jeG h;show _=some (sv (Lib.decDigits (((n:Nat):Int).toNat)),[])/\_=some (sv (Lib.decDigits (((n:Nat):Int).toNat)),[]);rw [Int.toNat_natCast];exact ⟨jk0 n (by omega),jmh n (by omega)⟩
theorem jb1 {l:List Int} (h:listed l=true):(Lib.join (l.map dg) [44]).length<=96:=by
 obtain ⟨h1,h2⟩:=qi h;have:=Jd [44] 1 7 (by decide) (l.map dg) (λx hx=>by obtain ⟨y,hy,rfl⟩:=List.mem_map.1 hx;exact jdr (h2 y hy)) l.length;unfold Jc at this;rw [List.take_of_length_le (by simp),List.length_map] at this;omega
theorem YG {l:List Int} (h:listed l=true):G 15 [ints l]=some (sv (Yt l),[]):=by
 obtain ⟨h1,h2⟩:=qi h;have hpl:=λi=>Jd [44] 1 7 (by decide) (l.map dg) (λx hx=>by obtain ⟨y,hy,rfl⟩:=List.mem_map.1 hx;exact jdr (h2 y hy)) i;rw [List.length_map] at hpl;have key:=upto (n:=l.length) (P:=λi=>Yd (ints l) (sv (Jc [44] (l.map dg) i)) (vi (i:Nat))=some (sv (Yt l),[])) ?_ ?_ 0 (Nat.zero_le _)
 .simp only [Int.natCast_zero] at key;have key:Yd (ints l) (sv []) (vi 0)=some (sv (Yt l),[]):=key;rw [g15];simp only [jm,key]
 .have nlt:¬((l.length:Nat):Int) < ((l.length:Nat):Int):=by omega
  rw [jjT];unfold Jc Yt;rw [List.take_of_length_le (by simp)];by_cases h0:l = []
  .subst h0;rw [if_pos rfl];simp only [jm,Lib.join_nil,List.map_nil]
  .have hne:Lib.join (l.map dg) [44]≠ []:=jeL (by simpa using h0) λx hx=>by obtain ⟨y,hy,rfl⟩:=List.mem_map.1 hx;exact jl7 y
   rw [if_neg h0];show _=some (sv (Lib.join (l.map dg) [44]),[]);generalize Lib.join (l.map dg) [44]=X at *;simp only [jm,nlt,hne]
 .intro i hi ihi;have hlt:(i:Int) < ((l.length:Nat):Int):=by omega
  have h5:=jA hi (by show l.length<=9223372036854775807;omega)
  have hm:=List.getElem_mem hi;have e:=(jhh (h2 _ hm)).1;have hl2:=jdr (h2 _ hm);have x1:jk 1 (ints l) (vi (i:Nat))=some (.elt (ci l[i]) 0):=ja hi;have hp:=jag [44] (l.map dg) i (by rw [List.length_map];exact hi);have hl:=hpl i;rw [List.getElem_map] at hp;rw [hp] at ihi;generalize l[i]=u at e x1 ihi hl2;generalize dg u=D at *;rw [jjT];by_cases h0:i=0
  .subst h0;rw [if_pos rfl] at ihi;generalize Jc [44] (l.map dg) 0=X at *;have a2:=zW false (x:=X) (y:=D) (by omega);have ihi:Yd (ints l) (sv (X++D)) (vi ((0+1:Nat):Int))=some (sv (Yt l),[]):=ihi;have z0:((0:Nat):Int)=0:=rfl;rw [z0] at hlt x1 h5 ⊢;simp only [jm,hlt,x1,ldI,e,a2,h5,ihi]
  .have h0':(0:Int) < (i:Int):=by omega
   rw [if_neg h0] at ihi;generalize Jc [44] (l.map dg) i=X at *;have a1:=zW false (x:=X) (y:=[44]) (by simp only [List.length_cons,List.length_nil];omega);have a2:=zW false (x:=X++[44]) (y:=D) (by simp only [List.length_append,List.length_cons,List.length_nil];omega);simp only [jm,hlt,h0',a1,x1,ldI,e,a2,h5,ihi]
theorem qX {l:List Int} (h:listed l=true):G 23 [ints l]=some (sv (Yt l),[]):=by
 obtain ⟨h1,h2⟩:=qi h;have hpl:=jb1 h;have key:=upto (n:=l.length) (P:=λi=>jeb (ints l) (vi (l.length:Nat)) (vi (i:Nat)) (((l.take i).map dg).map cs)=some (sv (Lib.join (l.map dg) [44]),[])) ?_ ?_ 0 (Nat.zero_le _)
 .simp only [Int.natCast_zero,List.take_zero,List.map_nil] at key;rw [g23];unfold Yt;by_cases h0:l = []
  .subst h0;rw [if_pos rfl];simp only [jm,List.map_nil,Int.natCast_zero]
  .have h0':¬((l.length:Nat):Int)=0:=λe=>h0 (List.eq_nil_of_length_eq_zero (by omega));rw [if_neg h0];simp only [jm,h0',key]
 .have nlt:¬((l.length:Nat):Int) < ((l.length:Nat):Int):=by omega
  have j1:=YC (l.map dg) [44] (by rw [List.length_map];omega) (by omega)
  rw [List.take_length,jjX];generalize l.map dg=xs at *;simp only [jm,nlt,j1,jdv]
 .intro i hi ihi;have hlt:(i:Int) < ((l.length:Nat):Int):=by omega
  have h5:=jA hi (by show l.length<=9223372036854775807;omega)
  have hm:=List.getElem_mem hi;have e:=(jhh (h2 _ hm)).2;have x1:jk 1 (ints l) (vi (i:Nat))=some (.elt (ci l[i]) 0):=ja hi;have f1:Zh ((((l.take i).map dg).map cs).length+1) 16=true:=jhz (by rw [List.length_map,List.length_map,List.length_take];omega);rw [List.take_succ_eq_append_getElem hi,List.map_append,List.map_cons,List.map_nil,<-jdj] at ihi;generalize l[i]=u at e x1 ihi;generalize ((l.take i).map dg).map cs=R at *;generalize dg u=D at *;rw [jjX];simp only [jm,hlt,x1,ldI,e,f1,h5,ihi]
def RL:List (List UInt8):=[[],[105,110,112,117,116],[114,101,115,111,108,118,101],[102,97,99,116,111,114],[115,117,112,101,114,112,111,115,101],[114,101,102,108,101,120,105,118,101],[114,101,119,114,105,116,101]]
theorem jbl:G 22 []=some (.sl 1 (RL.map cs),[]):=g22
theorem jcj:G 14 []=some (.sl 1 (RL.map cs),[]):=g14
theorem QY {l:List Int} (h:listed l=true):(Yt l).length<=96:=by
 have:=jb1 h;unfold Yt;split
 .decide
 .exact this
theorem jgR {c:zm} (hc:CN c):(fmtC c).length<=40000:=by
 have h8:=hc.1;have:=Jd [32,124,32] 3 4000 (by decide) (c.map jU) (λx hx=>by obtain ⟨l,hl,rfl⟩:=List.mem_map.1 hx;exact (Zc (hc.2 l hl).1 (Yi (hc.2 l hl).1 (hc.2 l hl).2)).2.2.1) c.length;unfold Jc at this;rw [List.take_of_length_le (by simp),List.length_map] at this;unfold fmtC;split
 .decide
 .omega
theorem ZR (s:Stp) (hp:s.par.length<=1048576) (hw:s.whr.length<=1048576) (hc:s.cls.length<=1048576) (hz:∀l∈s.cls,Tz l.2):∃(x:List UInt8) (b:Bool),G 7 [stm s]=some (.tup [sv x,vb b],[])/\G 5 [stm s]=some (.tup [sv x,vb b],[]):=by
 have p1:=yr s.rule 1 6;have q1:=Jw s.rule 1 6;have p2:=ZC s.par hp;have q2:=JR s.par hp;have p3:=ZC s.whr hw;have q3:=JR s.whr hw;have p4:=Ze s.cls hc hz;have q4:=jfu s.cls hc hz;cases h1:z7 1 6 s.rule<;>rw [h1] at p1 q1
 .refine ⟨[],false,?_,?_⟩
  .rw [g7];simp only [jm,p1]
  .rw [g5];simp only [jm,q1]
 cases h2:listed s.par<;>rw [h2] at p2 q2
 .refine ⟨[],false,?_,?_⟩
  .rw [g7];simp only [jm,p1,p2]
  .rw [g5];simp only [jm,q1,q2]
 cases h3:listed s.whr<;>rw [h3] at p3 q3
 .refine ⟨[],false,?_,?_⟩
  .rw [g7];simp only [jm,p1,p2,p3]
  .rw [g5];simp only [jm,q1,q2,q3]
 cases h4:qy s.cls<;>rw [h4] at p4 q4
 .refine ⟨[],false,?_,?_⟩
  .rw [g7];simp only [jm,p1,p2,p3,p4]
  .rw [g5];simp only [jm,q1,q2,q3,q4]
 have hcn:=(jbw h4).1;obtain ⟨k,hk,hk7⟩:∃k:Nat,s.rule=(k:Nat)/\k < RL.length:=by
  unfold z7 at h1;rw [Bool.and_eq_true,decide_eq_true_eq,decide_eq_true_eq] at h1;exact ⟨s.rule.toNat,by omega,by show s.rule.toNat < 7;omega⟩
 have x1:jk 1 (.sl 1 (RL.map cs)) (vi s.rule)=some (.elt (cs RL[k]) 0):=by rw [hk];exact ja hk7
 have hr:RL[k].length<=9:=(show ∀w∈RL,w.length<=9 by decide) _ (List.getElem_mem hk7);have r1:=jbl;have r2:=jcj;have n1:=qX h2;have m1:=YG h2;have n2:=qX h3;have m2:=YG h3;have c1:=ZQ hcn;have d1:=jck hcn;have ln1:=QY h2;have ln2:=QY h3;have lc:=jgR hcn;generalize RL[k]=R at *;generalize Yt s.par=N1 at *;generalize Yt s.whr=N2 at *;generalize fmtC s.cls=C at *;have a1:=zW false (x:=R) (y:=[32]) (by simp only [List.length_cons,List.length_nil];omega);have a2:=zW false (x:=R++[32]) (y:=N1) (by simp only [List.length_append,List.length_cons,List.length_nil];omega);have a3:=zW false (x:=R++[32]++N1) (y:=[32,97,116,32]) (by simp only [List.length_append,List.length_cons,List.length_nil];omega);have a4:=zW false (x:=R++[32]++N1++[32,97,116,32]) (y:=N2) (by simp only [List.length_append,List.length_cons,List.length_nil];omega);have a5:=zW false (x:=R++[32]++N1++[32,97,116,32]++N2) (y:=[58,32]) (by simp only [List.length_append,List.length_cons,List.length_nil];omega);have a6:=zW false (x:=R++[32]++N1++[32,97,116,32]++N2++[58,32]) (y:=C) (by simp only [List.length_append,List.length_cons,List.length_nil];omega);refine ⟨R++[32]++N1++[32,97,116,32]++N2++[58,32]++C,true,?_,?_⟩
 .rw [g7];simp only [jm,p1,p2,p3,p4,r1,x1,ldS,a1,n1,a2,a3,n2,a4,a5,c1,a6]
 .rw [g5];simp only [jm,q1,q2,q3,q4,r2,x1,ldS,a1,m1,a2,a3,m2,a4,a5,d1,a6]
theorem YK (s:Stp) (hw:swf s):G 3 [stm s]=some (vb true,[]):=by
 have e1:=jjv s hw 1048576 (by decide) (by decide);rw [g3];by_cases h1:jy 1048576 ((ssz s:Nat):Int) < 0
 .simp only [jm,e1,h1]
 .obtain ⟨b1,b2,b3⟩:=jha (by decide) (by decide) h1;have a1:=jjz s b3;have a2:=jiA s hw;have hs:=b3;unfold ssz csz at hs;obtain ⟨x,b,r1,r2⟩:=ZR s (by omega) (by omega) (by omega) (λl hl=>by have:=ja1 hl;unfold Tz;omega);simp only [jm,e1,h1,a1,a2,r1,r2]
end Go.Proofs.YtmmnimiohoammaaGreatDoor
