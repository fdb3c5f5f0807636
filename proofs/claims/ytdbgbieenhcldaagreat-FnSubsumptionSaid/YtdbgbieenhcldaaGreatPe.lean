/- Pe -/
import Derived.Test.YtdbgbieenhcldaaGreatPd
import Derived.Test.YtdbgbieenhcldaaGreatPa
namespace Go.Proofs.YtdbgbieenhcldaaGreat
open Go Go.RowKit Go.Proofs.YtdbgbieenhcldaaGreat.Abs
set_option linter.unusedSimpArgs false
set_option linter.unusedVariables false
set_option maxHeartbeats 1000000
theorem jkS:∀ {c:j7} {l:List (List UInt8)},(∀y∈c,nodes y.2<=30)->(QX l c).length<=l.length+30 * c.length
 | [],l,_=>by simp [QX]
 | y::c,l,h=>by
  have h1:=jfw y.2 l;have h2:=h y (by simp);have h3:=jkS (c:=c) (l:=vn l y.2) λz hz=>h z (by simp [hz]);show (QX (vn l y.2) c).length<=_;rw [List.length_cons];omega
theorem CN.vn {c:j7} (h:CN c):(QX [] c).length<=240:=by
 have h1:=jkS (c:=c) (l:=[]) λy hy=>(h.2 y hy).2;have h2:=h.1;rw [List.length_nil] at h1;omega
theorem CN.nodes {c:j7} (h:CN c):∀l∈c,nodes l.2<=3000:=λl hl=>by have:=(h.2 l hl).2;omega
section
variable {code:List Int} (hb:By code)
include hb
omit hb in
theorem jmm (s:Nat) (c:j7) (h:CN c):G 26 [vi (s:Nat),cm c]=some (vb (decide (s=1\/(QX [] c).length<=4)),[]):=by
 have ld2:∀l:Lt,jF 2 (.elt (jy l) 1)=some (tm l.2):=λl=>rfl;have ad:∀(l:Lt) (n:Nat),zU (.elt (jy l) 0) n=some (.elt (jy l) n):=λl n=>by rw [qh,Nat.zero_add]
 have hr:∀x:List (List A),hR 1 (A.top,[.sl 1 x]) 0=some x:=λx=>rfl;have hcl:=h.1;have key:=upto (n:=c.length) (P:=λi=>∀l:List (List UInt8),l.length<=3000 * i->jju (vi (s:Nat)) (vi (i:Nat)) (.sl 3 (c.map jy)) (l.map cs)=some (vb (decide (s=1\/(QX l (c.drop i)).length<=4)),[])) ?_ ?_ 0 (Nat.zero_le _) [] (Nat.zero_le _)
 ·simp only [Int.natCast_zero,List.drop_zero,List.map_nil] at key;rw [g26];simp only [jf,key]
 ·intro l _;have nlt:¬((c.length:Nat):Int) < ((c.length:Nat):Int):=by omega
  rw [List.drop_length,jrl,show QX l []=l from rfl];by_cases hs:s=1
  ·subst hs;have e1:((1:Nat):Int)=1:=rfl;simp only [jf,nlt,e1,true_or]
  ·have e1:¬((s:Nat):Int)=1:=by omega
   have e2:decide (((l.length:Nat):Int)<=4)=decide (s=1\/l.length<=4):=by congr 1;exact propext ⟨λh=>Or.inr (by omega),λh=>by omega⟩
   rw [<-e2];simp only [jf,nlt,e1]
 ·intro i hi ih l hl;have hlt:(i:Int) < ((c.length:Nat):Int):=by omega
  have h5:=jz hi (by show c.length<=9223372036854775807;omega)
  have x1:jh 3 (.sl 3 (c.map jy)) (vi (i:Nat))=some (.elt (jy c[i]) 0):=jb hi;have hm:=List.getElem_mem hi;have nn:=h.nodes _ hm;have e:=jea c[i].2 (h.tz _ hm) l (by omega);have ln:=jfw c[i].2 l;have ih:=ih (vn l c[i].2) (by omega);rw [jl hi,show QX l (c[i]::c.drop (i+1))=QX (vn l c[i].2) (c.drop (i+1)) from rfl,<-ih,jrl];generalize c[i]=y at x1 e ⊢;simp only [jf,hlt,x1,ad,ld2,e,hr,h5]
theorem jhO (ps:List j7) (hp:ps.length<=1000) (hps:∀c∈ps,CN c) (x:j7) (hx:CN x) (hsd:Sd ps x) (s:Nat) (hs:1<=s/\s<=3) (hs1:(1:Int)<=(s:Int)) :
  ∀i,i<=ps.length-> ∀b:Bool,(b=true-> ∀j,(h:j < ps.length)->j < i->trM (ZL code s hs1) ps[j])->jjn (jZ code) (cls ps) (vi (s:Nat)) (vb b) (vi (i:Nat)) (.sl 3 (x.map jy))=Yu (jZ code) (cls ps) (vi ((s+1:Nat):Int)) (.sl 3 (x.map jy)):=by
 have cs1:js .add false (vi (s:Nat)) (vi 1)=some (vi ((s+1:Nat):Int)):=jz (n:=s+1) (by omega) (by omega);generalize hZ:Yu (jZ code) (cls ps) (vi ((s+1:Nat):Int)) (.sl 3 (x.map jy))=Z;refine upto ?_ ?_
 ·intro b hbt;have nlt:¬((ps.length:Nat):Int) < ((ps.length:Nat):Int):=by omega
  rw [jrd];cases b with
  | false=>simp only [jf,nlt,cs1,hZ]
  | true=>
   have e:=jft hb s hs hs1 x (by have:=hx.1;omega) hx.tz hx.nodes (by have:=hx.vn;omega) (hsd _ λc hc=>by
    obtain ⟨j,hj,rfl⟩:=List.getElem_of_mem hc;exact hbt rfl j hj hj)
   simp only [jf,nlt,cs1,hZ,e]
 ·intro i hi ih b hbt;have hlt:(i:Int) < ((ps.length:Nat):Int):=by omega
  have h5:=jz hi (by show ps.length<=9223372036854775807;omega)
  have hm:=List.getElem_mem hi;have hc:=hps _ hm;have x1:jh 1 (cls ps) (vi (i:Nat))=some (.elt (clc ps[i]) 0):=jb hi;have ld:jF 1 (.elt (clc ps[i]) 0)=some (cm ps[i]):=rfl;rw [jrd];cases b with
  | false=>simp only [jf,hlt,cs1,hZ]
  | true=>
   have e1:=jmm s ps[i] hc;by_cases hsm:s=1\/(QX [] ps[i]).length<=4
   ·rw [decide_eq_true hsm] at e1;obtain ⟨b',e2,hb'⟩:=jjd hb s hs hs1 ps[i] (by have:=hc.1;omega) hc.tz hc.nodes (by have:=hc.vn;omega) (λy hy=>(hc.2 y hy).1) hsm;have ih:=ih b' (λhbb j hj hj2=>by
     by_cases hji:j=i
     ·subst hji;exact hb' hbb
     ·exact hbt rfl j hj (by omega))
    simp only [jf,hlt,x1,ld,e1,e2,h5,ih]
   ·rw [decide_eq_false hsm] at e1;have ih:=ih false (λh=>by cases h);simp only [jf,hlt,x1,ld,e1,h5,ih]
theorem jhP (ps:List j7) (hp:ps.length<=1000) (hps:∀c∈ps,CN c) (x:j7) (hx:CN x) (hsd:Sd ps x):G 10 [jZ code,cls ps,cm x]=some (vb true,[]):=by
 have key:∀s:Nat,1<=s->s<=3->Yu (jZ code) (cls ps) (vi (s:Nat)) (.sl 3 (x.map jy))=Yu (jZ code) (cls ps) (vi ((s+1:Nat):Int)) (.sl 3 (x.map jy)):=by
  intro s h1 h3;have hs1:(1:Int)<=(s:Int):=by omega
  have e:=jhO hb ps hp hps x hx hsd s ⟨h1,h3⟩ hs1 0 (Nat.zero_le _) true (λ_ j _ h=>absurd h (Nat.not_lt_zero _));have hlt:((s:Nat):Int) < 4:=by omega
  simp only [Int.natCast_zero] at e;rw [<-e,jrc];simp only [jf,hlt]
 have k1:=key 1 (by decide) (by decide);have k2:=key 2 (by decide) (by decide);have k3:=key 3 (by decide) (by decide);have n4:¬((4:Nat):Int) < 4:=by decide
 have hl:Yu (jZ code) (cls ps) (vi 1) (.sl 3 (x.map jy))=some (vb true,[]):=by
  refine (k1.trans (k2.trans k3)).trans ?_;show Yu (jZ code) (cls ps) (vi ((4:Nat):Int)) (.sl 3 (x.map jy))=_;rw [jrc];simp only [jf,n4]
 rw [g10];simp only [jf,hl]
end
theorem jsf (code:List Int):G 4 [jZ code]=some (vb (decide (65536 < ((code.length:Nat):Int))),[]):=by
 rw [g4];simp only [jf]
section
variable {code:List Int} (hb:By code)
include hb
theorem jhz (ps:List j7) (hp:ps.length<=100) (hps:∀c∈ps,CN c) (x:j7) (hx:CN x) (h:Sd ps x):G 10 [jZ code,cls ps,cm x]=some (vb true,[]):=jhP hb ps (by omega) hps x hx h
end
theorem jqh:∀t:T,K0 t=true-> ∀x∈yd t,x∈S5:=by
 refine T.ind λt ih h x hx=> ?_;rw [Jj] at hx;cases hv:ju t.name with
 | true=>
  rw [hv,if_pos rfl] at hx;rw [List.mem_singleton.1 hx];have h1:=nmN h;unfold JF at h1;rw [hv] at h1;exact List.contains_iff_mem.1 h1
 | false=>
  rw [hv,if_neg Bool.false_ne_true] at hx;obtain ⟨u,hu,hxu⟩:=jcT.1 hx;have h1:=nmA h;have:∀us:List T,qG us=true->u∈us->K0 u=true:=by
   intro us;induction us with
   | nil=>intro _ h;cases h
   | cons v us ih2=>
    intro h hm;rw [qG,Bool.and_eq_true] at h;rcases List.mem_cons.1 hm with rfl|hm
    ·exact h.1
    ·exact ih2 h.2 hm
  exact ih u hu (this _ h1 hu) x hxu
theorem jga {c:j7} (h:∀l∈c,K0 l.2=true):(zj c).length<=10:=by
 have:=Qa (l:=zj c) (m:=S5) (je1 c) λx hx=>by
  obtain ⟨y,hy,hx⟩:=Kj.1 hx;exact jqh _ (h y hy) x hx
 have e:S5.length=5:=rfl;omega
theorem jjM:∀ {s:jk},s.Pairwise LtB->jez s=true
 | [],_=>rfl
 | [_],_=>rfl
 | p::q::s,h=>by
  obtain ⟨h1,h2⟩:=List.pairwise_cons.1 h;rw [jez,h1 q List.mem_cons_self,jjM h2];rfl
theorem jms {x:List UInt8} (h:ju x=true):x.length<=4:=by
 cases x with
 | nil=>exact Nat.zero_le _
 | cons c r=>
  rw [ju,Bool.and_eq_true,Bool.and_eq_true,decide_eq_true_eq] at h;rw [List.length_cons];omega
theorem jaa {S:List (List UInt8)} (hS:S.length<=10) {m:jk} (hm:Z2 Pt m) (hi:MIn S m):GoodB (jW m)/\kC (jR (jW m))=true:=by
 have hlen:m.length<=10:=by
  have:=Qa (l:=m.map Prod.fst) (m:=S) hm.1 λx hx=>by
   obtain ⟨q,hq,rfl⟩:=List.mem_map.1 hx;exact hi q hq
  rw [List.length_map] at this;omega
 have hkl:(jW m).length<=10:=Nat.le_trans (List.length_filter_le _ _) hlen;have hkm:∀p∈jW m,p∈m/\p.2.name≠p.1:=λp hp=>by
  obtain ⟨h1,h2⟩:=List.mem_filter.1 hp;exact ⟨h1,by simpa using h2⟩
 have hg:GoodB (jW m):=⟨hm.1.sublist (List.filter_sublist.map Prod.fst),λp hp=>(hkm p hp).2,by omega,λp hp=>by
  obtain ⟨h1,h2⟩:=hm.2 p (hkm p hp).1;exact ⟨by have:=jms h1;omega,h2.tz⟩⟩
 refine ⟨hg,?_⟩;obtain ⟨f1,f2⟩:=yt (jW m) [] hg.keep;have hps:=zM (jW m) [] List.Pairwise.nil hg.nod λp _ q h=>by cases h
 have f1:(jR (jW m)).length=0+(jW m).length:=f1;unfold kC;rw [Bool.and_eq_true,Bool.and_eq_true,decide_eq_true_eq,List.all_eq_true];refine ⟨by omega,jjM hps,λq hq=> ?_⟩;have h1:=(f2 q).1 hq;simp only [List.not_mem_nil,false_or] at h1;obtain ⟨h2,h3⟩:=hkm q h1;obtain ⟨h4,h5⟩:=hm.2 q h2;have h6:dq q.2.name q.1=false:=by
  cases hd:dq q.2.name q.1 with
  | false=>rfl
  | true=>exact absurd (zv.1 hd) h3
 rw [h4,h5.valid,h6];rfl
theorem zq {c:j7} (h:jM c=true):∀l∈c,Pa l.2:=λl hl=>by
 obtain ⟨h1,h2⟩:=JQ.1 ((kr h).2.2 l hl);unfold ko at h2;rw [Bool.and_eq_true,decide_eq_true_eq,decide_eq_true_eq] at h2;exact ⟨h1,h2.1,h2.2⟩
def jsN (m:jk) (r:Option jk):Option Out:=match r with
 | some m'=>some (.tup [.sl 3 (m'.map bc),vb true],[])
 | none=>some (.tup [.sl 3 (m.map bc),vb false],[])
theorem jiF (c d:j7) (hcl:c.length<=8) (hc:∀l∈c,Pa l.2) (hdl:d.length<=8) (hd:∀x∈d,Pa x.2):∀i,i<=c.length-> ∀m:jk,(∀q∈m,Tz q.2)->m.length<=30 * i->G 46 [cm c,vi (i:Nat),cm d,.sl 3 (m.map bc)]=jsN m (jda d (c.drop i) m):=by
 refine upto (P:=λi=>∀m:jk,(∀q∈m,Tz q.2)->m.length<=30 * i->G 46 [cm c,vi (i:Nat),cm d,.sl 3 (m.map bc)]=jsN m (jda d (c.drop i) m)) ?_ ?_
 ·intro m _ _;rw [List.drop_length,jda,g46];simp only [jf];rfl
 ·intro i hi ih m hm hml;have hne:¬((i:Nat):Int)=((c.length:Nat):Int):=by omega
  have hPl:=hc _ (List.getElem_mem hi);have c1:ck ((i:Int)+1)=some (vi ((i+1:Nat):Int)):=jE (by omega) (by omega);have a1:jh 3 (.sl 3 (c.map jy)) (vi (i:Nat))=some (.elt (jy c[i]) 0):=jb hi;rw [jl hi];generalize c[i]=l at hPl a1 ⊢;have z0:zU (.elt (jy l) 0) 0=some (.elt (jy l) 0):=rfl;have z1:kZ (.elt (jy l) 0)=some (vb l.1):=rfl;have z2:zU (.elt (jy l) 0) 1=some (.elt (jy l) 1):=rfl;have z3:jF 2 (.elt (jy l) 1)=some (tm l.2):=rfl;have pr:K5 3 (.sl 3 (m.map bc))=some (m.map bc):=by unfold K5;exact if_pos rfl
  have fm:jJ m.length 56=true:=je7 (by omega);have key:=upto (n:=d.length) (P:=λk=>jbk (vi (i:Nat)) (.sl 3 (m.map bc)) (vi (k:Nat)) (.sl 3 (c.map jy)) (.sl 3 (d.map jy))=jsN m ((d.drop k).findSome? λx=>if x.1=l.1 then (mt m l.2 x.2).bind λm'=>jda d (c.drop (i+1)) m' else none)) ?_ ?_ 0 (Nat.zero_le _)
  ·rw [g46,jda];simp only [Int.natCast_zero,List.drop_zero] at key;simp only [jf,hne,key]
  ·have nlt:¬((d.length:Nat):Int) < ((d.length:Nat):Int):=by omega
   rw [jrx,List.drop_length];simp only [jf,nlt];rfl
  ·intro k hk ih2;have hlt:(k:Int) < ((d.length:Nat):Int):=by omega
   have h5:=jz hk (by show d.length<=9223372036854775807;omega)
   have x1:jh 3 (.sl 3 (d.map jy)) (vi (k:Nat))=some (.elt (jy d[k]) 0):=jb hk;have hPx:=hd _ (List.getElem_mem hk);rw [jl hk,List.findSome?_cons];generalize d[k]=x at x1 hPx ⊢;have y0:zU (.elt (jy x) 0) 0=some (.elt (jy x) 0):=rfl;have y1:kZ (.elt (jy x) 0)=some (vb x.1):=rfl;have y2:zU (.elt (jy x) 0) 1=some (.elt (jy x) 1):=rfl;have y3:jF 2 (.elt (jy x) 1)=some (tm x.2):=rfl;have mq:=jiC l.2 hPl.tz x.2 m hPx.tz hm (by have:=hPl.2.1;omega);rw [jrx];by_cases hb:x.1=l.1
   ·rw [if_pos hb];cases hq:mt m l.2 x.2 with
    | none=>
     rw [hq] at mq;obtain ⟨R,mq⟩:=mq;have hR1:hR 259 (A.top,[vb false,.sl 259 R]) 1=some R:=rfl;rw [Option.bind_none];simp only [jf,hlt,x1,a1,z0,z1,z2,z3,y0,y1,y2,y3,hb,pr,fm,List.length_map,mq,hR1,h5,List.getElem?_cons_zero];exact ih2
    | some m1=>
     rw [hq] at mq;have mq:jbf (tm l.2) (tm x.2) (m.map bc)=some (.top,[vb true,.sl 259 (m1.map bc)]):=mq;have hR1:hR 259 (A.top,[vb true,.sl 259 (m1.map bc)]) 1=some (m1.map bc):=rfl;obtain ⟨v1,v2⟩:=je0 (p:=Tz) (λ_ h=>h.args) l.2 hm hPx.tz hq;have e2:=ih m1 v1 (by have:=hPl.2.1;omega);rw [Option.bind_some];cases hs:jda d (c.drop (i+1)) m1 with
     | none=>
      rw [hs] at e2;have e2:G 46 [.agg [.sl 3 (c.map jy)],vi ((i+1:Nat):Int),.agg [.sl 3 (d.map jy)],.sl 3 (m1.map bc)]=some (.tup [.sl 3 (m1.map bc),vb false],[]):=e2;simp only [jf,hlt,x1,a1,z0,z1,z2,z3,y0,y1,y2,y3,hb,pr,fm,List.length_map,mq,hR1,h5,c1,e2,List.getElem?_cons_zero];exact ih2
     | some m2=>
      rw [hs] at e2;have e2:G 46 [.agg [.sl 3 (c.map jy)],vi ((i+1:Nat):Int),.agg [.sl 3 (d.map jy)],.sl 3 (m1.map bc)]=some (.tup [.sl 3 (m2.map bc),vb true],[]):=e2;simp only [jf,hlt,x1,a1,z0,z1,z2,z3,y0,y1,y2,y3,hb,pr,fm,List.length_map,mq,hR1,h5,c1,e2,List.getElem?_cons_zero];rfl
   ·have hb':¬l.1=x.1:=λh=>hb h.symm;rw [if_neg hb];simp only [jf,hlt,x1,a1,z0,z1,y0,y1,hb',h5];exact ih2
theorem jfo (c d:j7) (hc:Cz c) (hd:Cz d) (h:(jM c && jM d)=false):G 6 [cm c,cm d]=some (.tup [.agg [.sl 3 []],vb false],[])/\G 7 [cm c,cm d]=some (.tup [.agg [.sl 3 []],vb false],[]):=by
 have v1:=kA c hc.1 hc.2;have v2:=kA d hd.1 hd.2;have w1:=yO c hc.1 hc.2;have w2:=yO d hd.1 hd.2;refine ⟨?_,?_⟩
 ·rw [g6];cases h1:jM c<;>rw [h1] at v1 h
  ·simp only [jf,v1]
  ·cases h2:jM d<;>rw [h2] at v2 h
   ·simp only [jf,v1,v2]
   ·cases h
 ·rw [g7];cases h1:jM c<;>rw [h1] at w1 h
  ·simp only [jf,w1]
  ·cases h2:jM d<;>rw [h2] at w2 h
   ·simp only [jf,w1,w2]
   ·cases h
theorem jdb {c d:j7} (hc:jM c=true) (hd:jM d=true) (h10:(zj c).length<=10):(∃m s,KB d c []=some m/\kC (jR (jW m))=true/\G 6 [cm c,cm d]=some (.tup [sb (jR (jW m)),vb true],[])/\G 7 [cm c,cm d]=some (.tup [sb s,vb true],[]))\/
  (G 6 [cm c,cm d]=some (.tup [.agg [.sl 3 []],vb false],[])/\G 7 [cm c,cm d]=some (.tup [.agg [.sl 3 []],vb false],[])):=by
 obtain ⟨cn,_,_⟩:=kr hc;obtain ⟨dn,_,_⟩:=kr hd;have v1:=kA c (by have:=cn.1;omega) cn.tz;have v2:=kA d (by have:=dn.1;omega) dn.tz;have w1:=yO c (by have:=cn.1;omega) cn.tz;have w2:=yO d (by have:=dn.1;omega) dn.tz;rw [hc] at v1 w1;rw [hd] at v2 w2;have e1:=jcM d dn.1 (zq hd) c cn.1 (zq hc) [] (Z2.nil _);have f1:=jiF c d cn.1 (zq hc) dn.1 (zq hd) 0 (Nat.zero_le _) [] (λq h=>by cases h) (by simp);have hop:=jhC d c (m:=[]) (m':=[]) (List.Perm.refl _) (by simp);rw [List.drop_zero] at f1;cases hM:jda d c [] with
 | none=>
  cases hN:KB d c [] with
  | some m=>rw [hM,hN] at hop;exact hop.elim
  | none=>
   rw [hN] at e1;rw [hM] at f1;have e1:G 44 [.mp [],.sl 3 (c.map jy),.agg [.sl 3 (d.map jy)]]=some (.tup [.val (.map none),vb false],[]):=e1;have f1:G 46 [.agg [.sl 3 (c.map jy)],vi 0,.agg [.sl 3 (d.map jy)],.sl 3 []]=some (.tup [.sl 3 [],vb false],[]):=f1;right;refine ⟨?_,?_⟩
   ·have e3:G 21 [.agg [.sl 3 (c.map jy)],.agg [.sl 3 (d.map jy)]]=some (.tup [.agg [.sl 3 []],vb false],[]):=by
     rw [g21];simp only [jf,e1]
    rw [g6];simp only [jf,v1,v2,e3]
   ·have f2:G 22 [.agg [.sl 3 (c.map jy)],.agg [.sl 3 (d.map jy)]]=some (.tup [.sl 3 [],vb false],[]):=by
     rw [g22];simp only [jf,f1]
    have f3:=jg5 [] (λq h=>by cases h) (by simp);have f3:G 23 [.sl 3 []]=some (.agg [.sl 3 []],[]):=f3;rw [g7];simp only [jf,w1,w2,f2,f3]
 | some mr=>
  cases hN:KB d c [] with
  | none=>rw [hM,hN] at hop;exact hop.elim
  | some m=>
   rw [hM,hN] at hop;rw [hN] at e1;rw [hM] at f1;obtain ⟨k1,k2⟩:=jba (S:=zj c) (zq hd) c (λl hl=>⟨zq hc l hl,λx hx=>Kj.2 ⟨l,hl,hx⟩⟩) (Z2.nil _) (λq h=>by cases h) hN;obtain ⟨hg,hv⟩:=jaa h10 k1 k2;have hperm:(jW m).Perm (jW mr):=jbV hop.1.symm;have hpe:jR mr=jR (jW m):=by rw [jcl hg hperm,jbW]
   have hlen:mr.length<=1000000:=by
    have h1:=hop.1.length_eq;have h2:=Qa (l:=m.map Prod.fst) (m:=zj c) k1.1 λx hx=>by
     obtain ⟨q,hq,rfl⟩:=List.mem_map.1 hx;exact k2 q hq
    rw [List.length_map] at h2;omega
   left;refine ⟨m,jR (jW m),rfl,hv,?_,?_⟩
   ·have e1:G 44 [.mp [],.sl 3 (c.map jy),.agg [.sl 3 (d.map jy)]]=some (.tup [.mp (m.map kv),vb true],[]):=e1;have e2:=joQ m hg λp hp=>(k1.2 p hp).2.tz;unfold jbH at e2;rw [hv,if_pos rfl] at e2;have e2:G 45 [.mp (m.map kv)]=some (.tup [.agg [.sl 3 ((jR (jW m)).map bc)],vb true],[]):=e2;have e3:G 21 [.agg [.sl 3 (c.map jy)],.agg [.sl 3 (d.map jy)]]=some (.tup [.agg [.sl 3 ((jR (jW m)).map bc)],vb true],[]):=by
     rw [g21];simp only [jf,e1,e2]
    rw [g6];simp only [jf,v1,v2,e3]
   ·have f1:G 46 [.agg [.sl 3 (c.map jy)],vi 0,.agg [.sl 3 (d.map jy)],.sl 3 []]=some (.tup [.sl 3 (mr.map bc),vb true],[]):=f1;have f2:G 22 [.agg [.sl 3 (c.map jy)],.agg [.sl 3 (d.map jy)]]=some (.tup [.sl 3 (mr.map bc),vb true],[]):=by
     rw [g22];simp only [jf,f1]
    have f3:=jg5 mr (λq hq=>(k1.2 q (hop.1.mem_iff.1 hq)).2.tz) hlen;rw [hpe] at f3;have f3:G 23 [.sl 3 (mr.map bc)]=some (.agg [.sl 3 ((jR (jW m)).map bc)],[]):=f3;have f4:=jmq (jR (jW m)) (QO hg);rw [hv] at f4;have okp:jP (.sl 3 ((jR (jW m)).map bc))=true:=rfl;rw [g7];simp only [jf,w1,w2,f2,f3,f4,okp]
def K9 (d:j7) (i:Nat):Option Lt:=if i=0 then none else d[i - 1]?
theorem jlk (d:j7) (hd:CN d):G 25 [cm d]=some (vb (Ji none d),[]):=by
 have key:=upto (n:=d.length) (P:=λi=>jfD (.sl 3 (d.map jy)) (vi (d.length:Nat)) (vi (i:Nat)) (.sl 3 (d.map jy))=some (vb (Ji (K9 d i) (d.drop i)),[])) ?_ ?_ 0 (Nat.zero_le _)
 ·simp only [Int.natCast_zero,List.drop_zero] at key;rw [g25];simp only [jf,key];rfl
 ·have nlt:¬((d.length:Nat):Int) < ((d.length:Nat):Int):=by omega
  rw [jrk,List.drop_length];rw [jd8];simp only [jf,nlt]
 ·intro i hi ih;have hlt:(i:Int) < ((d.length:Nat):Int):=by omega
  have h5:=jz hi (by have:=hd.1;show d.length<=9223372036854775807;omega)
  have x1:jh 3 (.sl 3 (d.map jy)) (vi (i:Nat))=some (.elt (jy d[i]) 0):=jb hi;have hb:=(hd.2 _ (List.getElem_mem hi)).1;have hz:=(hd.tz _ (List.getElem_mem hi));have hp1:K9 d (i+1)=some d[i]:=by
   unfold K9;rw [if_neg (by omega),Nat.add_sub_cancel,List.getElem?_eq_getElem hi]
  rw [hp1] at ih;rw [jl hi,jcO];have hprev:(i=0/\K9 d i=none)\/ ∃q,K9 d i=some q/\0 < i/\jh 3 (.sl 3 (d.map jy)) (vi ((i:Nat) - 1:Int))=some (.elt (jy q) 0)/\Tz q.2:=by
   by_cases h0:i=0
   ·exact Or.inl ⟨h0,by unfold K9;rw [if_pos h0]⟩
   ·have hi1:i - 1 < d.length:=by omega
    refine Or.inr ⟨d[i - 1],by unfold K9;rw [if_neg h0,List.getElem?_eq_getElem hi1],by omega,?_,hd.tz _ (List.getElem_mem hi1)⟩
    rw [show ((i:Nat):Int) - 1=((i - 1:Nat):Int) by omega];exact jb hi1
  generalize d[i]=l at x1 hb hz ih ⊢;have y3:jF 3 (.elt (jy l) 0)=some (ltm l):=rfl;have ie:=JC l.2;have ie:G 49 [.agg [sv l.2.name,.sl 2 (l.2.args.map jx)]]=some (vb (decide (l.2.name = [61])),[]):=ie;have second:∀(sel:Bool),sel=yA l->((pG (vb sel) false (some (vi (i:Nat)))).bind λt23=>(pG (vb sel) false (js .gtr false t23 (vi 0))).bind λt24=>(pG (vb sel) false (some t24)).bind λt25=>(yF t25 true).bind λ_=>(pG t25 true (some (.sl 3 (d.map jy)))).bind λt27=>(pG t25 true (some (vi (i:Nat)))).bind λt28=>(pG t25 true (js .sub false t28 (vi 1))).bind λt29=>(pG t25 true (jh 3 t27 t29)).bind λt30=>(pG t25 true (zU t30 1)).bind λt31=>(pG t25 true (jF 2 t31)).bind λt32=>(yF t25 true).bind λ_=>(yF t25 true).bind λ_=>(pG t25 true ((G 50 [t32,A.agg [sv l.2.name,.sl 2 (l.2.args.map jx)]]).bind (fin false))).bind λt35=>(pG (vb sel) false (yr t25 t35 (vb false))).bind λt36=>(yr (vb sel) (vb true) t36).bind λt37=>(zi t37).bind λt38=>brn t38 (some ((vb true,[]))) ((js .add false (vi (i:Nat)) (vi 1)).bind λt39=>jfD (.sl 3 (d.map jy)) (vi (d.length:Nat)) t39 (.sl 3 (d.map jy))))=some (vb (yA l || (jcq (K9 d i) l || Ji (some l) (d.drop (i+1)))),[]):=by
   intro sel hsel;rw [<-hsel];cases sel with
   | true=>simp only [jf,Bool.true_or]
   | false=>
    rw [Bool.false_or];rcases hprev with ⟨h0,hp⟩|⟨q,hp,hpos,hix,hzq⟩
    ·rw [hp,show jcq none l=false from rfl,Bool.false_or];subst h0;have n0:¬(0:Int) < ((0:Nat):Int):=by decide
     simp only [jf,n0,h5,ih]
    ·rw [hp];have p0:(0:Int) < ((i:Nat):Int):=by omega
     have c2:ck ((i:Int) - 1)=some (vi ((i:Nat) - 1:Int)):=by have:=hd.1;exact jE (by omega) (by omega)
     have w2:zU (.elt (jy q) 0) 1=some (.elt (jy q) 1):=rfl;have w3:jF 2 (.elt (jy q) 1)=some (tm q.2):=rfl;have eq2:=z8 q.2 hzq.wf l.2 hz.wf;have eq2:G 50 [tm q.2,.agg [sv l.2.name,.sl 2 (l.2.args.map jx)]]=some (vb (dq q.2 l.2),[]):=eq2;show _=some (vb (dq q.2 l.2 || Ji (some l) (d.drop (i+1))),[]);cases hdq:dq q.2 l.2<;>rw [hdq] at eq2
     ·rw [Bool.false_or];simp only [jf,p0,c2,hix,w2,w3,eq2,h5,ih]
     ·rw [Bool.true_or];simp only [jf,p0,c2,hix,w2,w3,eq2]
  rw [jrk];cases h1:l.1 with
  | false=>
   have hs:yA l=false:=by unfold yA;rw [h1];rfl
   have:=second false hs.symm;have y3:jF 3 (.elt (jy l) 0)=some (.agg [vb false,sv l.2.name,.sl 2 (l.2.args.map jx)]):=by rw [<-h1];exact y3
   generalize hX:(some (vb (yA l || (jcq (K9 d i) l || Ji (some l) (d.drop (i+1)))),[]):Option Out)=X at this ⊢;simp only [jf,hlt,x1,y3];simp only [jf] at this;exact this
  | true=>
   have y3:jF 3 (.elt (jy l) 0)=some (.agg [vb true,sv l.2.name,.sl 2 (l.2.args.map jx)]):=by rw [<-h1];exact y3
   by_cases hn:l.2.name = [61]
   ·rw [decide_eq_true hn] at ie;have h2:l.2.args.length=2:=by
     rcases hb with h|h
     ·exact h.2.1
     ·rw [hn] at h;exact absurd h.1 (by decide)
    have i0:jh 2 (.sl 2 (l.2.args.map jx)) (vi 0)=some (.elt (jx (J0 l.2)) 0):=by
     have:=jb (f:=jx) (xs:=l.2.args) (i:=0) (k:=2) (by omega);rw [show l.2.args[0]=J0 l.2 by unfold J0;rw [List.getD_eq_getElem?_getD,List.getElem?_eq_getElem (by omega)];rfl] at this;exact this
    have i1:jh 2 (.sl 2 (l.2.args.map jx)) (vi 1)=some (.elt (jx (J5 l.2)) 0):=by
     have:=jb (f:=jx) (xs:=l.2.args) (i:=1) (k:=2) (by omega);rw [show l.2.args[1]=J5 l.2 by unfold J5;rw [List.getD_eq_getElem?_getD,List.getElem?_eq_getElem (by omega)];rfl] at this;exact this
    have hm:=jsD h2;have eq1:=z8 (J0 l.2) (hz.args _ hm.1).wf (J5 l.2) (hz.args _ hm.2).wf;have hs:yA l=dq (J0 l.2) (J5 l.2):=by unfold yA;rw [h1,decide_eq_true hn,Bool.true_and,Bool.true_and]
    have:=second (dq (J0 l.2) (J5 l.2)) hs.symm;generalize hX:(some (vb (yA l || (jcq (K9 d i) l || Ji (some l) (d.drop (i+1)))),[]):Option Out)=X at this ⊢;simp only [jf,hlt,x1,y3,ie,i0,i1,jg,eq1];simp only [jf] at this;exact this
   ·rw [decide_eq_false hn] at ie;have hs:yA l=false:=by unfold yA;rw [h1,decide_eq_false hn];rfl
    have:=second false hs.symm;generalize hX:(some (vb (yA l || (jcq (K9 d i) l || Ji (some l) (d.drop (i+1)))),[]):Option Out)=X at this ⊢;simp only [jf,hlt,x1,y3,ie];simp only [jf] at this;exact this
theorem jbQ (d:j7) (hd:Cz d):G 8 [cm d]=some (.tup [vb (jM d && Ji none d),vb (jM d)],[])/\G 9 [cm d]=some (vb (jM d),[]):=by
 have v1:=kA d hd.1 hd.2;have w1:=yO d hd.1 hd.2;refine ⟨?_,?_⟩
 ·rw [g8];cases hv:jM d<;>rw [hv] at v1
  ·simp only [jf,v1];rfl
  ·have e:=jlk d (kr hv).1;simp only [jf,v1,e];rfl
 ·rw [g9];simp only [jf,w1]
theorem jh7 {c:j7} (hc:jM c=true) {s:jk} (hs:kC s=true) (hz:SzB s) (hsm:∀l∈qZ s c,ko l.2=true) (hv:jM (kz cmpL (qZ s c))=true):G 11 [sb s,cm c]=some (.tup [cm (kz cmpL (qZ s c)),vb true],[]):=by
 obtain ⟨cn,_,_⟩:=kr hc;have v1:=kA c (by have:=cn.1;omega) cn.tz;rw [hc] at v1;have v2:=jef s hz;rw [hs] at v2;have e1:=jm0 s hs c ⟨by have:=cn.1;omega,λx hx=>⟨(cn.2 x hx).1,by have:=(cn.2 x hx).2;omega⟩⟩;have hall:(c.all λx=>ko (sub s x.2))=true:=List.all_eq_true.2 λx hx=>hsm (x.1,sub s x.2) (List.mem_map.2 ⟨x,hx,rfl⟩);have ha:jbp s c=some (kz cmpL (qZ s c)):=by
  unfold jbp;have hv':jM (kz cmpL (c.map λx=>(x.1,sub s x.2)))=true:=hv;rw [hall,hv',Bool.true_and,if_pos rfl];rfl
 rw [ha] at e1;have e1:G 29 [.agg [.sl 3 (s.map bc)],.sl 3 (c.map jy)]=some (.tup [cm (kz cmpL (qZ s c)),vb true],[]):=e1;rw [g11];simp only [jf,v1,v2,e1]
theorem jfU {u:List (List UInt8 × T)} (hu:u.length<=4/\Sz 192 u) (l:List Lt) (hl:l.length<=30) (hz:∀x∈l,tsz x.2<=1000):∃(e:j7) (b:Bool),(e.length<=30/\Cz e)/\G 16 [sb u,.sl 3 (l.map jy)]=some (.tup [cm e,vb b],[]):=by
 have happ:∀x∈l.map (λx=>(x.1,sub u x.2)),Tz x.2:=λx hx=>by
  obtain ⟨y,hy,rfl⟩:=List.mem_map.1 hx;have hsz:=jhD (u:=u) (Z:=192) (by decide) (λq hq=>(hu.2.2 q hq).2) y.2;have:=hz y hy;show tsz (sub u y.2)<=1048576;omega
 have hml:=J1 cmpL (l.map λx=>(x.1,sub u x.2));rw [List.length_map] at hml;have e1:=jls (l.map λx=>(x.1,sub u x.2)) (by rw [List.length_map];omega) happ;have e2:=yO (kz cmpL (l.map λx=>(x.1,sub u x.2))) (by omega) λx hx=>happ x (qP.1 hx);have cz1:Cz (kz cmpL (l.map λx=>(x.1,sub u x.2))):=⟨by omega,λx hx=>happ x (qP.1 hx)⟩;have cz2:([]:j7).length<=30/\Cz []:=⟨by simp,by simp,λx h=>by cases h⟩;generalize hd:l.map (λx=>(x.1,sub u x.2))=d at *;have hdl:d.length=l.length:=by rw [<-hd,List.length_map]
 have ld:∀l:Lt,kZ (.elt (jy l) 0)=some (vb l.1):=λl=>rfl;have ad:∀(l:Lt) (n:Nat),zU (.elt (jy l) 0) n=some (.elt (jy l) n):=λl n=>by rw [qh,Nat.zero_add]
 have ld2:∀l:Lt,jF 2 (.elt (jy l) 1)=some (tm l.2):=λl=>rfl;have key:=upto (P:=λi=>∃(e:j7) (b:Bool),(e.length<=30/\Cz e)/\jjq (.sl 3 (l.map jy)) (vi (i:Nat)) (sbs u) ((d.take i).map jy) []=some (.tup [cm e,vb b],[])) (n:=l.length) ?_ ?_ 0 (Nat.zero_le _)
 ·obtain ⟨e,b,h1,h2⟩:=key;simp only [Int.natCast_zero,List.take_zero,List.map_nil] at h2;refine ⟨e,b,h1,?_⟩;rw [<-h2,g16];simp only [jf]
 ·have hlt:¬((l.length:Nat):Int) < ((l.length:Nat):Int):=by omega
  rw [jrg,List.take_of_length_le (by omega)];cases hv:jM (kz cmpL d)<;>rw [hv] at e2
  ·refine ⟨[],false,cz2,?_⟩;simp only [jf,e1,e2]<;>rfl
  ·refine ⟨kz cmpL d,true,⟨by omega,cz1⟩,?_⟩;simp only [jf,e1,e2]<;>rfl
 ·intro i hi ih;have hi2:i < d.length:=by omega
  have hlt:(i:Int) < ((l.length:Nat):Int):=by omega
  have h5:=jz hi (by show l.length<=9223372036854775807;omega)
  have hb:=hz _ (List.getElem_mem hi);have tz2:Tz (sub u l[i].2):=by
   have hsz:=jhD (u:=u) (Z:=192) (by decide) (λq hq=>(hu.2.2 q hq).2) l[i].2;show tsz (sub u l[i].2)<=1048576;omega
  have e3:=jiB u ⟨by omega,λq hq=>by have:=hu.2.2 q hq;omega⟩ l[i].2 (by omega)
  have e4:=jdw (sub u l[i].2) tz2.wf tz2;have hdi:d[i]=(l[i].1,sub u l[i].2):=by simp only [<-hd,List.getElem_map]
  have ta:=jcN (f:=jy) hi2;have tl:=take_len (f:=jy) (Nat.le_of_lt hi2);have hf:jJ (i+1) 48=true:=jaI (by omega);rw [hdi] at ta;rw [jrg];cases hsm:zy (sub u l[i].2)<;>rw [hsm] at e4
  ·refine ⟨[],false,cz2,?_⟩;simp only [jf,hlt,jb hi,ad,ld2,e3,e4]<;>rfl
  ·obtain ⟨e,b,h1,h2⟩:=ih;refine ⟨e,b,h1,?_⟩;generalize (d.take i).map jy=R at *;generalize sub u l[i].2=w at *;rw [<-h2];simp only [jf,hlt,jb hi,ad,ld,ld2,e3,e4,tl,hf,ta,h5]
theorem jik {code:List Int} (hb:By code):∃c d:j7,(c.length<=12/\ ∀l∈c,tsz l.2<=1000/\K0 l.2=true)/\Cz d/\G 5 [jZ code]=some (.tup [cm c,cm d],[]):=by
 obtain ⟨a1,s1,c,q1,q2,hc,e1⟩:=ZP hb 0 0 (by decide) (by decide);obtain ⟨a2,s2,b,r1,r2,e2⟩:=qp hb 3 (by decide) (by decide) a1 s1 (by omega) (by omega);obtain ⟨a3,s3,c3,u1,u2,u3,e3⟩:=jcY hb a2 s2 (by omega) (by omega);have okb:jP (jZ code)=true:=rfl;have okc:jP (.sl 3 (c.map jy))=true:=rfl;have hcz:Cz c:=⟨by have:=hc.1;omega,λl hl=>by have:=(hc.2 l hl).1;unfold Tz;omega⟩;have v1:=yO c hcz.1 hcz.2;cases b with
 | true=>
  refine ⟨c,c3,hc,u3.cz,?_⟩;rw [g5];simp only [jf,okb,okc,e1,e2,e3,List.getElem?_cons_zero,List.getElem?_cons_succ]
 | false=>
  cases hv:jM c<;>rw [hv] at v1
  ·refine ⟨c,c3,hc,u3.cz,?_⟩;rw [g5];simp only [jf,okb,okc,e1,e2,v1,e3,List.getElem?_cons_zero,List.getElem?_cons_succ]
  ·obtain ⟨a4,s4,u,v2,v3,v4,v5,e4⟩:=jaK hb a2 s2 (by omega) (by omega);obtain ⟨a5,s5,ls,w1,w2,w3,w4,e5⟩:=jag hb 2 (by decide) a4 s4 (by omega) (by omega);have e5:jdc (vi 2) (jZ code) (vi a4) (vu s4)=_:=e5;obtain ⟨a6,s6,c6,x1,x2,⟨x3,x4,x5⟩,e6⟩:=jbv hb a5 s5 (by omega) (by omega);obtain ⟨e,eb,⟨he1,he2⟩,e7⟩:=jfU ⟨v4,v5⟩ (c++ls) (by rw [List.length_append];have:=hc.1;omega) λl hl=>by
    rcases List.mem_append.1 hl with h|h
    ·exact (hc.2 l h).1
    ·have:=(w4 l h).tsz;omega
   have pr:K5 3 (.sl 3 (c.map jy))=some (c.map jy):=by unfold K5;exact if_pos rfl
   have f1:jJ c.length 48=true:=jaI (by have:=hc.1;omega)
   have f2:jJ (c.length+ls.length) 48=true:=jaI (by have:=hc.1;omega)
   have hap:km (c.map jy) (ls.map jy)=(c++ls).map jy:=by rw [List.map_append];rfl
   rw [<-hap] at e7;have oke:jP (.sl 3 (e.map jy))=true:=rfl;have e7:G 16 [sb u,.sl 3 (km (c.map jy) (ls.map jy))]=some (.tup [.agg [.sl 3 (e.map jy)],vb eb],[]):=e7;cases eb with
   | false=>
    refine ⟨c,c6,hc,⟨by omega,λl hl=>(x5 l hl).tz⟩,?_⟩;rw [g5];simp only [jf,okb,okc,e1,e2,v1,e4,pr,f1,List.length_map,e5,ZV,f2,e7,e6,List.getElem?_cons_zero,List.getElem?_cons_succ]
   | true=>
    refine ⟨c,e,hc,he2,?_⟩;rw [g5];simp only [jf,okb,okc,oke,e1,e2,v1,e4,pr,f1,List.length_map,e5,ZV,f2,e7,List.getElem?_cons_zero,List.getElem?_cons_succ]
theorem jaH (code:List Int) (hp:(∀n∈code,0<=n/\n<=255)/\code.length<=9223372036854775807):G 3 [jZ code]=some (vb true,[]):=by
 have e0:=jsf code;rw [g3];by_cases hbig:65536 < ((code.length:Nat):Int)
 ·rw [decide_eq_true hbig] at e0;simp only [jf,e0]
 rw [decide_eq_false hbig] at e0;have hb:By code:=⟨hp.1,by omega⟩;obtain ⟨c,d,⟨hcl,hcz⟩,hdz,e1⟩:=jik hb;have hcz':Cz c:=⟨by omega,λl hl=>by have:=(hcz l hl).1;unfold Tz;omega⟩;have okb:jP (jZ code)=true:=rfl;obtain ⟨t1,t2⟩:=jbQ d hdz;have taut:∀b,(jM d && Ji none d)=b->b=true->G 10 [jZ code,.sl 1 [],.agg [.sl 3 (d.map jy)]]=some (vb true,[]):=λb hb1 hb2=>by
  rw [hb2,Bool.and_eq_true] at hb1;obtain ⟨dn,da,_⟩:=kr hb1.1;exact jhz hb [] (by simp) (λy h=>by cases h) d dn (jqF dn da hb1.2)
 generalize hbt:(jM d && Ji none d)=bt at t1 taut;have taut:=taut bt rfl;by_cases hbad:(jM c && jM d)=false
 ·obtain ⟨s1,s2⟩:=jfo c d hcz' hdz hbad;generalize jM d=vd at t1 t2;cases bt with
  | false=>simp only [jf,e0,e1,s1,s2,t1,t2]<;>rfl
  | true=>
   have taut:=taut rfl;simp only [jf,e0,e1,s1,s2,t1,t2,taut]<;>rfl
 ·have hgood:jM c=true/\jM d=true:=by
   cases h1:jM c<;>cases h2:jM d<;>simp_all
  obtain ⟨hvc,hvd⟩:=hgood;obtain ⟨cn,_,_⟩:=kr hvc;obtain ⟨dn,_,_⟩:=kr hvd;have h10:=jga λl hl=>(hcz l hl).2;rw [hvd] at t1 t2;rcases jdb hvc hvd h10 with ⟨m,s,hm,hvs,s1,s2⟩|⟨s1,s2⟩
  rotate_left
  ·cases bt with
   | false=>simp only [jf,e0,e1,s1,s2,t1,t2]<;>rfl
   | true=>
    have taut:=taut rfl;simp only [jf,e0,e1,s1,s2,t1,t2,taut]<;>rfl
  ·have hin:=jpY (zq hvd) (zq hvc) hm;obtain ⟨k1,k2⟩:=jba (S:=zj c) (zq hvd) c (λl hl=>⟨zq hvc l hl,λx hx=>Kj.2 ⟨l,hl,hx⟩⟩) (Z2.nil _) (λq h=>by cases h) hm;obtain ⟨hg,_⟩:=jaa h10 k1 k2;obtain ⟨iv,im⟩:=jit cn.1 hvd hin;have ap:=jh7 hvc hvs (QO hg) (λl hl=>(JQ.1 ((kr hvd).2.2 l (hin l hl))).2) iv;have sd:=js0 (λy hy=>(cn.2 y hy).1) hin;have t3:=jhz hb [c] (by simp) (λy h=>by simp only [List.mem_singleton] at h;rw [h];exact cn) d dn sd;have t3:G 10 [jZ code,.sl 1 [[.sl 3 (c.map jy)]],.agg [.sl 3 (d.map jy)]]=some (vb true,[]):=t3;have iz:∀l∈kz cmpL (qZ (jR (jW m)) c),Tz l.2:=λl hl=>dn.tz l (im l hl);have il:=(kr iv).1.1;generalize kz cmpL (qZ (jR (jW m)) c)=e at ap im iz il;generalize jR (jW m)=sm at s1 ap;have okc:jP (.sl 3 (c.map jy))=true:=rfl;have okd:jP (.sl 3 (d.map jy))=true:=rfl;have inner:∀(i:Nat) (hi:i < e.length),jmR (jZ code) (vb true) (vi ((i+1:Nat):Int)) (.sl 3 (c.map jy)) (.sl 3 (d.map jy)) (.sl 3 (e.map jy))=some (vb true,[])->
     ∀k,k<=d.length-> ∀b:Bool,(b=true\/e[i]∈d.drop k)->jkY (jZ code) (vb true) (vi (i:Nat)) (vb b) (vi (k:Nat)) (.sl 3 (c.map jy)) (.sl 3 (d.map jy)) (.sl 3 (e.map jy))=some (vb true,[]):=by
    intro i hi ih;have h6:ck ((i:Int)+1)=some (vi ((i+1:Nat):Int)):=jE (by omega) (by omega);have x1:jh 3 (.sl 3 (e.map jy)) (vi (i:Nat))=some (.elt (jy e[i]) 0):=jb hi;have hzl:=iz _ (List.getElem_mem hi);generalize e[i]=l at x1 hzl;refine upto (P:=λk=>∀b:Bool,(b=true\/l∈d.drop k)->jkY (jZ code) (vb true) (vi (i:Nat)) (vb b) (vi (k:Nat)) (.sl 3 (c.map jy)) (.sl 3 (d.map jy)) (.sl 3 (e.map jy))=some (vb true,[])) ?_ ?_
    ·intro b hbm;have hbt:b=true:=by
      rcases hbm with h|h
      ·exact h
      ·rw [List.drop_length] at h;cases h
     have nlt:¬((d.length:Nat):Int) < ((d.length:Nat):Int):=by omega
     rw [hbt,juk];simp only [jf,nlt,h6,ih]
    ·intro k hk ih2 b hbm;have hlt:(k:Int) < ((d.length:Nat):Int):=by omega
     have h5:=jz hk (by have:=dn.1;show d.length<=9223372036854775807;omega)
     have x2:jh 3 (.sl 3 (d.map jy)) (vi (k:Nat))=some (.elt (jy d[k]) 0):=jb hk;have hzx:=dn.tz _ (List.getElem_mem hk);rw [jl hk] at hbm;generalize d[k]=x at x2 hzx hbm;have ld:∀l:Lt,kZ (.elt (jy l) 0)=some (vb l.1):=λl=>rfl;have ad:∀(l:Lt) (n:Nat),zU (.elt (jy l) 0) n=some (.elt (jy l) n):=λl n=>by rw [qh,Nat.zero_add]
     have ld2:∀l:Lt,jF 2 (.elt (jy l) 1)=some (tm l.2):=λl=>rfl;have ve:=jmn l.2 hzl.wf x.2 hzx.wf;rw [juk];cases b with
     | true=>
      have:=ih2 true (Or.inl rfl);simp only [jf,hlt,h5,this]
     | false=>
      by_cases hs:l.1=x.1
      ·have:=ih2 (dq l.2 x.2) (by
        rcases hbm with h|h
        ·cases h
        ·rcases List.mem_cons.1 h with h|h
         ·exact Or.inl (by rw [h];exact Kd _)
         ·exact Or.inr h)
       generalize dq l.2 x.2=q at ve this;simp only [jf,hlt,x1,x2,ad,ld,ld2,hs,ve,h5,this]
      ·have:=ih2 false (by
        rcases hbm with h|h
        ·cases h
        ·rcases List.mem_cons.1 h with h|h
         ·exact absurd (by rw [h]) hs
         ·exact Or.inr h)
       simp only [jf,hlt,x1,x2,ad,ld,hs,h5,this]
   have outer:=upto (n:=e.length) (P:=λi=>jmR (jZ code) (vb true) (vi (i:Nat)) (.sl 3 (c.map jy)) (.sl 3 (d.map jy)) (.sl 3 (e.map jy))=some (vb true,[])) ?_ ?_ 0 (Nat.zero_le _);rotate_left
   ·have nlt:¬((e.length:Nat):Int) < ((e.length:Nat):Int):=by omega
    rw [juj];simp only [jf,nlt,okb,okc,okd,t3]
   ·intro i hi ih;have hlt:(i:Int) < ((e.length:Nat):Int):=by omega
    have in1:=inner i hi ih 0 (Nat.zero_le _) false (Or.inr (by rw [List.drop_zero];exact im _ (List.getElem_mem hi)))
    have in1:jkY (jZ code) (vb true) (vi (i:Nat)) (vb false) (vi 0) (.sl 3 (c.map jy)) (.sl 3 (d.map jy)) (.sl 3 (e.map jy))=some (vb true,[]):=in1;rw [juj];simp only [jf,hlt,in1]
   simp only [Int.natCast_zero] at outer;cases bt with
   | false=>simp only [jf,e0,e1,s1,s2,t1,t2,ap,outer]
   | true=>
    have taut:=taut rfl;simp only [jf,e0,e1,s1,s2,t1,t2,taut,ap,outer]
end Go.Proofs.YtdbgbieenhcldaaGreat
