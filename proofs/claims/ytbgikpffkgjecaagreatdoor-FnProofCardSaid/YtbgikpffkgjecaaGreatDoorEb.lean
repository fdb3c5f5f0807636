/- Eb -/
import Derived.Test.YtbgikpffkgjecaaGreatDoorEa
import Derived.Laws.BytesArg
namespace Go.Proofs.YtbgikpffkgjecaaGreatDoor.Abs
open Go Go.RowKit
set_option linter.unusedSimpArgs false
set_option linter.unusedVariables false
noncomputable section
section
variable {X:Ctx} {o:Oper} {ρ:Operand->V} {C:Cfg} {M:Node->Option Out} {st:jB}
theorem jnt (hD:J7 C.P C.D) {t:Nat} (h:jns C t=true):C.P.underlying t=some .bool:=by
 unfold jns at h;split at h
 ·rename_i i hi;have hd:=(hD _ _ hi).desc;split at h
  ·rename_i hk;rw [hk] at hd;exact hd
  ·cases h
 ·cases h
theorem kq (hD:J7 C.P C.D) {t:Nat} {i:TI} (h:C.D t=some i) {k:TK} (hk:i.kind=k):k.desc C.P t:=by
 have:=(hD _ _ h).desc;rwa [hk] at this
theorem jAu (hD:J7 C.P C.D) {s:TypeId} {x:Operand} {f:Nat} (ho:o.op = .field s x f):KP C.P X C M o ρ st (match zC C s f with
  | some (off,j)=>(match ρ x with
   | .agg cs=>if j.kind.plain then (match cs[off]? with|some v=> .val v []|none=> .no)
     else if Nat.ble (off+j.size) cs.length then .val (.agg ((cs.drop off).take j.size)) [] else .no
   | .d a=>if j.kind.plain then .opt (.opt (jjq off a)) [] else .opt (.opt (jnX off j.size a)) []
   | _=> .no)
  | none=> .no):=by
 have hmem:x∈o.op.operands:=by simp [ho,Op.operands]
 split
 ·rename_i off j hf;obtain ⟨i,fs,t,h1,h2,h3,h4,h5,h6⟩:=jaD hD hf;split
  ·rename_i cs hx;split
   ·rename_i hp;split
    ·rename_i v hv;refine ⟨zB.same λw O0 m st ev hs hg hr=> ?_,by simp⟩;have hx':=hr x hmem;rw [hx] at hx';simp only [relV] at hx';obtain ⟨vs,g1,g2⟩:=hx';obtain ⟨u,g3,g4⟩:=Zy g2 hv;have hl:=(ZW.1 g3).1;obtain ⟨z,q1,q2⟩:=jcW (P:=C.P) (w:=w) ho h6 h3 (hD _ _ h4) h5 g1 (by rw [(hD _ _ h4).one hp];omega);rcases q2 with ⟨_,q2⟩|⟨q2,_⟩
     ·rw [g3] at q2;cases q2;exact ⟨_,q1,g4⟩
     ·rw [hp] at q2;cases q2
    ·trivial
   ·rename_i hp;split
    ·rename_i hl;rw [jdt] at hl;refine ⟨zB.same λw O0 m st ev hs hg hr=> ?_,by simp⟩;have hx':=hr x hmem;rw [hx] at hx';simp only [relV] at hx';obtain ⟨vs,g1,g2⟩:=hx';have hvl:=yf g2;obtain ⟨z,q1,q2⟩:=jcW (P:=C.P) (w:=w) ho h6 h3 (hD _ _ h4) h5 g1 (by omega);rcases q2 with ⟨q2,_⟩|⟨_,rfl⟩
     ·exact absurd q2 hp
     ·refine ⟨_,q1,?_⟩;simp only [relV];exact ⟨_,rfl,Y0 _ (YZ _ g2)⟩
    ·trivial
  ·rename_i a hx;split
   ·rename_i hp;refine KP.opt1 λr hr=>zB.data λw O0 m st ev hs hg hrel=> ?_;have hx':=hrel x hmem;rw [hx] at hx';simp only [relV] at hx';unfold jjq at hr;split at hr
    ·simp only [rel] at hx';obtain ⟨vs,g1,g2⟩:=hx';obtain ⟨u,g3,g4⟩:=YX g2 hr;have hl:=(ZW.1 g3).1;obtain ⟨z,q1,q2⟩:=jcW (P:=C.P) (w:=w) ho h6 h3 (hD _ _ h4) h5 g1 (by rw [(hD _ _ h4).one hp];omega);rcases q2 with ⟨_,q2⟩|⟨q2,_⟩
     ·rw [g3] at q2;cases q2;exact ⟨_,q1,g4⟩
     ·rw [hp] at q2;cases q2
    ·cases hr
   ·rename_i hp;refine KP.opt1 λr hr=>zB.data λw O0 m st ev hs hg hrel=> ?_;have hx':=hrel x hmem;rw [hx] at hx';simp only [relV] at hx';unfold jnX at hr;split at hr
    ·split at hr
     ·rename_i hl;cases hr;simp only [rel] at hx';obtain ⟨vs,g1,g2⟩:=hx';have hvl:=kC g2;obtain ⟨z,q1,q2⟩:=jcW (P:=C.P) (w:=w) ho h6 h3 (hD _ _ h4) h5 g1 (by omega);rcases q2 with ⟨q2,_⟩|⟨_,rfl⟩
      ·exact absurd q2 hp
      ·refine ⟨_,q1,?_⟩;simp only [rel];exact ⟨_,rfl,KE _ (YA _ g2)⟩
     ·cases hr
    ·cases hr
  ·trivial
 ·trivial
theorem jnT (hD:J7 C.P C.D) {s:TypeId} {x:Operand} {f:Nat} (ho:o.op = .fieldAddr s x f):KP C.P X C M o ρ st (match zC C s f with
  | some (off,j)=>if Nat.beq j.size 0 then .no else (match ρ x with
   | .ptr id p=> .val (.ptr id (p+off)) []
   | .rptr id i k p=> .val (.rptr id i k (p+off)) []
   | .d a=> .opt (.opt (qi a off)) []
   | _=> .no)
  | none=> .no):=by
 have hmem:x∈o.op.operands:=by simp [ho,Op.operands]
 split
 ·rename_i off j hf;obtain ⟨i,fs,t,h1,h2,h3,h4,h5,h6⟩:=jaD hD hf;split
  ·trivial
  ·rename_i h0;have h0:j.size≠0:=λe=>h0 (by rw [e];rfl);split
   ·rename_i id p hx;refine ⟨zB.same λw O0 m st ev hs hg hr=> ?_,by simp⟩;have hx':=hr x hmem;rw [hx] at hx';simp only [relV] at hx' ⊢;obtain ⟨b,c,n,g1,g2⟩:=hx';exact ⟨_,QJ ho h6 h3 (hD _ _ h4) h0 g2,b,c,n,g1,rfl⟩
   ·rename_i id i k p hx;refine ⟨zB.same λw O0 m st ev hs hg hr=> ?_,by simp⟩;have hx':=hr x hmem;rw [hx] at hx';simp only [relV] at hx' ⊢;obtain ⟨b,c,n,g1,g2⟩:=hx';exact ⟨_,QJ ho h6 h3 (hD _ _ h4) h0 g2,b,c,n,g1,by rw [jd5]⟩
   ·rename_i a hx;refine KP.opt1 λr hr=>zB.data λw O0 m st ev hs hg hrel=> ?_;have hx':=hrel x hmem;rw [hx] at hx';simp only [relV] at hx';unfold qi at hr;split at hr
    ·cases hr;simp only [rel] at hx' ⊢;obtain ⟨b,o',g1,g2,g3,g4⟩:=hx';exact ⟨_,QJ ho h6 h3 (hD _ _ h4) h0 g1,b,o',by simp [jd5],g2,g3,g4⟩
    ·cases hr
   ·trivial
 ·trivial
theorem ZG {w:World} {O0:Nat->Prop} {m:zV} (hs:Sto X w O0 m st) {id k:Nat} {xs:List (List A)} (hf:st id = .fro k xs) {u:Value} (hr:relV w (Ow O0 m st) m (.row id) u):rel w (Ow O0 m st) (.sl k xs) u:=by
 simp only [relV] at hr;obtain ⟨hd,h1,h2⟩:=hr;have ho:=hs.obj id;rw [hf] at ho;obtain ⟨hd',g1,g2⟩:=ho;rw [h1] at g1;cases g1;exact g2.2 u h2
theorem jxo {w:World} {O0:Nat->Prop} {m:zV} (hs:Sto X w O0 m st) {id k:Nat} {f:Bool} {xs:List (List A)} (hf:st id = .tre f k xs) {u:Value} (hr:relV w (Ow O0 m st) m (.row id) u):∃a c,u = .slice a xs.length c:=by
 simp only [relV] at hr;obtain ⟨hd,h1,h2⟩:=hr;have ho:=hs.obj id;rw [hf] at ho;obtain ⟨hd',g1,g2,_⟩:=ho;rw [h1] at g1;cases g1;cases hd with
 | none=>simp only [qt] at g2;subst g2;simp only [hdr] at h2;obtain ⟨a,rfl⟩:=h2;exact ⟨a,0,rfl⟩
 | blk b c n=>simp [qt] at g2
 | mp=>simp [qt] at g2
 | tre f' b c n ks=>simp only [qt] at g2;simp only [hdr] at h2;obtain ⟨_,rfl,_⟩:=g2;exact ⟨_,_,h2⟩
theorem jlJ {w:World} {O0:Nat->Prop} {m:zV} (hs:Sto X w O0 m st) {id k:Nat} {xs:List (List A)} (hf:st id = .row k xs) {u:Value} (hr:relV w (Ow O0 m st) m (.row id) u):∃a c,u = .slice a xs.length c:=by
 simp only [relV] at hr;obtain ⟨hd,h1,h2⟩:=hr;have ho:=hs.obj id;rw [hf] at ho;obtain ⟨hd',g1,g2⟩:=ho;rw [h1] at g1;cases g1;cases hd with
 | none=>simp only [rowOk] at g2;subst g2;simp only [hdr] at h2;obtain ⟨a,rfl⟩:=h2;exact ⟨a,0,rfl⟩
 | blk b c n=>simp only [hdr] at h2;obtain ⟨rfl,_⟩:=g2;exact ⟨_,_,h2⟩
 | tre=>exact g2.elim
 | mp=>exact g2.elim
theorem jnU (hD:J7 C.P C.D) {t:TypeId} {x i:Operand} (ho:o.op = .indexAddr t x i):KP C.P X C M o ρ st (match C.D t,dat (ρ i) with
  | some ti,some n=>(match ti.kind with
   | .slice e=>(match C.D e with
    | some j=>(match ρ x with
     | .d a=> .opt (.opt (jl j.size a n)) []
     | .row id=>(match st id with | .fro k xs=> .opt (.opt (jl j.size (.sl k xs) n)) [.obj id (.fro k xs)]|_=> .no)
     | _=> .no)
    | none=> .no)
   | _=> .no)
  | _,_=> .no):=by
 have hmem:x∈o.op.operands:=by simp [ho,Op.operands]
 have hmem2:i∈o.op.operands:=by simp [ho,Op.operands]
 split
 ·rename_i ti n ht hn;split
  ·rename_i e hk;split
   ·rename_i j hj;split
    ·rename_i a hx;refine KP.opt1 λr hr=>zB.data λw O0 m st ev hs hg hrel=> ?_;have hx':=hrel x hmem;rw [hx] at hx';simp only [relV] at hx';exact jdp ho (kq hD ht hk) (hD _ _ hj) hx' (kY hn (hrel i hmem2)) hr
    ·rename_i id hx;split
     ·rename_i k xs hst;intro r hr;refine ⟨zB.data λw O0 m st' ev hs hg hrel=> ?_,by simpa [yV] using hst⟩;have hx':=hrel x hmem;rw [hx] at hx';have hf:st' id = .fro k xs:=hg _ (ku.2 rfl);exact jdp ho (kq hD ht hk) (hD _ _ hj) (ZG hs hf hx') (kY hn (hrel i hmem2)) hr
     ·trivial
    ·trivial
   ·trivial
  ·trivial
 ·trivial
theorem jCi {y:Operand} {a:Option A} (h:(dat (ρ y)).map some=some a):∃b,a=some b/\dat (ρ y)=some b:=by
 rw [yB] at h;obtain ⟨b,h1,rfl⟩:=h;exact ⟨b,rfl,h1⟩
theorem Jn {lo:Option Operand} {l:Option A} (h:(match lo with|none=>some none|some y=>(dat (ρ y)).map some)=some l):(∀y,lo=some y-> ∃a,l=some a/\dat (ρ y)=some a)/\(lo=none->l=none):=by
 cases lo with
 | none=>simp only [zg] at h;exact ⟨λy hy=>(by cases hy),λ_=>h.symm⟩
 | some y=>exact ⟨λz hz=>(by cases hz;exact jCi h),λhz=>(by cases hz)⟩
theorem ok_slice (hD:J7 C.P C.D) {t:TypeId} {x:Operand} {lo hi:Option Operand} (ho:o.op = .slice t x lo hi none):KP C.P X C M o ρ st (match C.D t with
  | some ti=>(match ti.kind with
   | .slice e=>(match C.D e with
    | some j=>(match (match ρ x with
      | .d a=>some (a,[])
      | .row id=>(match st id with | .fro k xs=>some (A.sl k xs,[Rd.obj id (.fro k xs)])|_=>none)
      | _=>none),(match lo with|none=>some none|some y=>(dat (ρ y)).map some),(match hi with|none=>some none|some y=>(dat (ρ y)).map some) with
     | some (a,rds),some l,some h=> .opt (.opt (yq j.size a l h)) rds
     | _,_,_=> .no)
    | none=> .no)
   | .str=>(match dat (ρ x),(match lo with|none=>some none|some y=>(dat (ρ y)).map some),(match hi with|none=>some none|some y=>(dat (ρ y)).map some) with
    | some a,some l,some h=> .opt (.opt (Ym a l h)) []
    | _,_,_=> .no)
   | _=> .no)
  | none=> .no):=by
 have hmem:x∈o.op.operands:=by simp [ho,Op.operands]
 have hlo:∀y,lo=some y->y∈o.op.operands:=λy hy=>by simp [ho,Op.operands,hy]
 have hhi:∀y,hi=some y->y∈o.op.operands:=λy hy=>by simp [ho,Op.operands,hy]
 split
 ·rename_i ti ht;split
  ·rename_i e hk;split
   ·rename_i j hj;split
    ·rename_i a rds l h h1 h2 h3;obtain ⟨l1,l2⟩:=Jn h2;obtain ⟨u1,u2⟩:=Jn h3;intro r hr;refine ⟨zB.data λw O0 m st' ev hs hg hrel=> ?_,?_⟩
     ·have hx':rel w (Ow O0 m st') a (ev x):=by
       have hx':=hrel x hmem;split at h1
       ·rename_i a' hx;cases h1;rw [hx] at hx';simpa only [relV] using hx'
       ·rename_i id hx;split at h1
        ·rename_i k xs hst;cases h1;rw [hx] at hx';exact ZG hs (hg _ (ku.2 rfl)) hx'
        ·cases h1
       ·cases h1
      refine jlM ho (kq hD ht hk) (hD _ _ hj) hx' (λy hy=> ?_) l2 (λy hy=> ?_) u2 hr
      ·obtain ⟨b,hb,hd⟩:=l1 y hy;exact ⟨b,hb,kY hd (hrel y (hlo y hy))⟩
      ·obtain ⟨b,hb,hd⟩:=u1 y hy;exact ⟨b,hb,kY hd (hrel y (hhi y hy))⟩
     ·split at h1
      ·cases h1;simp
      ·split at h1
       ·rename_i hst;cases h1;simpa [yV] using hst
       ·cases h1
      ·cases h1
    ·trivial
   ·trivial
  ·rename_i hk;split
   ·rename_i a l h h1 h2 h3;obtain ⟨l1,l2⟩:=Jn h2;obtain ⟨u1,u2⟩:=Jn h3;refine KP.opt1 λr hr=>zB.data λw O0 m st' ev hs hg hrel=> ?_;refine jtz ho (kq hD ht hk) (kY h1 (hrel x hmem)) (λy hy=> ?_) l2 (λy hy=> ?_) u2 hr
    ·obtain ⟨b,hb,hd⟩:=l1 y hy;exact ⟨b,hb,kY hd (hrel y (hlo y hy))⟩
    ·obtain ⟨b,hb,hd⟩:=u1 y hy;exact ⟨b,hb,kY hd (hrel y (hhi y hy))⟩
   ·trivial
  ·trivial
 ·trivial
theorem jwB (hD:J7 C.P C.D) {t:TypeId} {x l h m:Operand} (ho:o.op = .slice t x (some l) (some h) (some m)):KP C.P X C M o ρ st (if !jiF l h m then .no else match C.D t,ρ l,ρ h,ρ m with
  | some ti,.d (.val (.int _ 0)),.d (.val (.int _ 0)),.d (.val (.int _ 0))=>(match ti.kind with
   | .slice e=>(match C.D e with
    | some _=>(match ρ x with
     | .row id=>(match st id with | .row k xs=> .val (.nil k) [.obj id (.row k xs)] | .fro k xs=> .val (.nil k) [.obj id (.fro k xs)]|_=> .no)
     | .nil k=> .val (.nil k) []
     | _=> .no)
    | none=> .no)
   | _=> .no)
  | _,_,_,_=> .no):=by
 have m1:x∈o.op.operands:=by simp [ho,Op.operands]
 have m2:l∈o.op.operands:=by simp [ho,Op.operands]
 have m3:h∈o.op.operands:=by simp [ho,Op.operands]
 have m4:m∈o.op.operands:=by simp [ho,Op.operands]
 split
 ·trivial
 split
 ·rename_i ti k1 k2 k3 ht hl hh hm;split
  ·rename_i e hk;split
   ·rename_i j hj;have key:∀(w:World) (O0:Nat->Prop) (mm:zV) (st:jB) (ev:Operand->Value),(∀x∈o.op.operands,relV w (Ow O0 mm st) mm (ρ x) (ev x))-> ∀a n c,ev x = .slice a n c->
      ∃u,(execOp ev o).run C.P w = .ok (.value u) w/\ ∀k,relV w (Ow O0 mm st) mm (.nil k) u:=by
     intro w O0 mm st ev hr a n c hx;have e1:=hr l m2;have e2:=hr h m3;have e3:=hr m m4;rw [hl] at e1;rw [hh] at e2;rw [hm] at e3;simp only [relV,rel] at e1 e2 e3 ⊢;exact ⟨_,jjR ho (kq hD ht hk) (hD _ _ hj) hx e1 e2 e3,λ_=>⟨a,rfl⟩⟩
    split
    ·rename_i id hx;split
     ·rename_i k xs hst;refine ⟨zB.same λw O0 mm st' ev hs hg hr=> ?_,by simpa [yV] using hst⟩;have hx':=hr x m1;rw [hx] at hx';obtain ⟨a,c,hv⟩:=jlJ hs (hg _ (ku.2 rfl)) hx';obtain ⟨u,k1,k2⟩:=key w O0 mm st' ev hr _ _ _ hv;exact ⟨u,k1,k2 _⟩
     ·rename_i k xs hst;refine ⟨zB.same λw O0 mm st' ev hs hg hr=> ?_,by simpa [yV] using hst⟩;have hx':=hr x m1;rw [hx] at hx';have:=ZG hs (hg _ (ku.2 rfl)) hx';simp only [rel] at this;obtain ⟨a,c,hv,_⟩:=this;obtain ⟨u,k1,k2⟩:=key w O0 mm st' ev hr _ _ _ hv;exact ⟨u,k1,k2 _⟩
     ·trivial
    ·rename_i hx;refine ⟨zB.same λw O0 mm st' ev hs hg hr=> ?_,by simp⟩;have hx':=hr x m1;rw [hx] at hx';simp only [relV] at hx';obtain ⟨a,hv⟩:=hx';obtain ⟨u,k1,k2⟩:=key w O0 mm st' ev hr _ _ _ hv;exact ⟨u,k1,k2 _⟩
    ·trivial
   ·trivial
  ·trivial
 ·trivial
theorem jAt (hD:J7 C.P C.D) {t:TypeId} {ps:Array (Nat × Operand)} (ho:o.op = .build t ps):KP C.P X C M o ρ st (match C.D t with
  | some i=>(match i.kind with
   | .struct fs=>(match jc5 (zeroV C t i),jfK (ZI C fs (ps.toList.map λp=>(p.1,ρ p.2))) with
    | some z,some l=>if Qn C fs then (if jBK (ZI C fs (ps.toList.map λp=>(p.1,ρ p.2))) (zeroV C t i) fs.length then .opt (.opt (kX (zC C t) z l)) [] else .no) else .no
    | _,_=> .no)
   | _=> .no)
  | none=> .no):=by
 split
 ·rename_i i hi;split
  ·rename_i fs hk;split
   ·rename_i z l hz hl;split
    ·rename_i hfs;split;rotate_left
     ·trivial
     refine KP.opt1 λr hr=>zB.data λw O0 m st' ev hs hg hrel=> ?_;have h1:jx w (Ow O0 m st') m ((ps.toList.map λp=>(p.1,ρ p.2)).map Prod.snd) ((ps.toList.map λp=>(p.1,ev p.2)).map Prod.snd):=by
      rw [qa,qa];have:=Kl (w:=w) (O:=Ow O0 m st') (m:=m) (ρ:=ρ) (ev:=ev) (ps.toList.map Prod.snd) λx hx=>hrel x (by
       rw [ho];simp only [Op.operands];simpa using hx)
      rw [qa,qa] at this;exact this
     obtain ⟨h2,h3⟩:=jb8 (C:=C) (fs:=fs) h1;obtain ⟨h4,h5⟩:=jij hl h2;obtain ⟨cells',h6,h7⟩:=jk4 (sz:=zC C t) (λq off j hq hp=>by
      obtain ⟨_,_,_,_,_,_,g4,_⟩:=jaD hD hq;exact (hD _ _ g4).one hp) l (ps.toList.map λp=>(p.1,ev p.2)) z i.zero.cells r (J0 (m:=m) hz (Ji t i)) (by
       rw [h5,h3];simp) h4 hr
     exact ⟨_,run_build hD ho hi hk hfs h6,h7⟩
    ·trivial
   ·trivial
  ·trivial
 ·trivial
theorem jDF (hM:QU X C M) {f:Operand} {xs:Array Operand} {ts:Array TypeId} (ho:o.op = .call { callee:= .value f,args:=xs,argTypes:=ts }):KP C.P X C M o ρ st (match ρ f with
   | .fn g caps=>(match C.sig g with
    | some _=>if C.both g && (!C.sl g && (!(C.stf g || C.srf g && jst (xs.toList.map ρ)) && !juV C (xs.toList.map ρ))) then (match KM st 60 (Yj C.D ts.toList (xs.toList.map ρ)++caps) with|some (as,rds)=> .opt (.call g as (Ks rds)) rds|none=> .no) else .no
    | none=>(match KM st 60 (Yj C.D ts.toList (xs.toList.map ρ)++caps) with
     | some (as,rds)=> .opt (.call g as (Ks rds)) rds
     | none=> .no))
   | .d a=>(match KM st 60 (Yj C.D ts.toList (xs.toList.map ρ)) with
    | some (as,rds)=> .opt (.callc a as (Ks rds)) rds
    | none=> .no)
   | _=> .no):=by
 have mf:f∈o.op.operands:=by simp [ho,Op.operands,Call.operands]
 have mx:∀x∈xs.toList,x∈o.op.operands:=λx hx=>by simp [ho,Op.operands,Call.operands];exact Or.inr (by simpa using hx)
 split
 ·rename_i g caps hf;have gen:∀as rds,KM st 60 (Yj C.D ts.toList (xs.toList.map ρ)++caps)=some (as,rds)->C.pureF g=true->KP C.P X C M o ρ st (.opt (.call g as (Ks rds)) rds):=by
   intro as rds hto hsig a ha;simp only [DX.run] at ha;rw [zI] at ha;obtain ⟨out,h1,h2⟩:=ha;have hp:=hM g as out hsig h1;refine ⟨zB.call ho hp (λw O0 m st' ev hs hg hr=> ?_) h2,?_⟩
   ·have hf':=hr f mf;rw [hf] at hf';simp only [relV] at hf';obtain ⟨us,g1,g2⟩:=hf';have g3:=Kl (w:=w) (O:=Ow O0 m st') (m:=m) (ρ:=ρ) (ev:=ev) xs.toList λx hx=>hr x (mx x hx);exact ⟨us,g1,YY hs 60 _ (Y8 60 _ hto hg) (qD (Kw g3) g2)⟩
   ·exact λr hr=>Y9 60 _ hto r hr
  split
  ·split
   ·rename_i hb;split
    ·rename_i as rds hto;rw [jy] at hb;exact gen as rds hto (by simp [Cfg.pureF,hb.1])
    ·trivial
   ·trivial
  ·rename_i hsig;split
   ·rename_i as rds hto;exact gen as rds hto (by simp [Cfg.pureF,hsig])
   ·trivial
 ·rename_i fa hf;split
  ·rename_i as rds hto;intro a ha;simp only [DX.run] at ha;split at ha
   ·rename_i g caps;split at ha
    ·rename_i hsig;rw [zI] at ha;obtain ⟨out,h1,h2⟩:=ha;have hp:=hM g _ out (by simpa using hsig) h1;refine ⟨zB.call ho hp (λw O0 m st' ev hs hg hr=> ?_) h2,?_⟩
     ·have hf':=hr f mf;rw [hf] at hf';simp only [relV,rel] at hf';obtain ⟨us,g1,g2⟩:=hf';have g3:=Kl (w:=w) (O:=Ow O0 m st') (m:=m) (ρ:=ρ) (ev:=ev) xs.toList λx hx=>hr x (mx x hx);exact ⟨us,g1,yu (YY hs 60 _ (Y8 60 _ hto hg) (Kw g3)) (zv (MonoW.sub (jfI _)) _ _ g2)⟩
     ·exact λr hr=>Y9 60 _ hto r hr
    ·cases ha
   ·cases ha
  ·trivial
 ·trivial
theorem jgC:∀ {xs:List (List A)} {ns:List Int},bytesOf xs=some ns->ns.length=xs.length/\ ∀(i:Nat) (n:Int),ns[i]? = some n->xs[i]? = some [.val (.int .u8 n)]
 | [],ns,h=>by simp only [bytesOf] at h;cases h;simp
 | x::xs,ns,h=>by
  unfold bytesOf at h;split at h
  ·rename_i e;cases e
  ·rename_i n r e;cases e;obtain ⟨l,hl,rfl⟩:=yB.1 h;obtain ⟨h1,h2⟩:=jgC hl;refine ⟨by simp [h1],λi m hi=> ?_⟩;cases i with
   | zero=>simp at hi;subst hi;rfl
   | succ i=>simpa using h2 i m (by simpa using hi)
  ·cases h
theorem jqv {a r:A} (h:jjo a=some r):jeK r=true:=by
 unfold jjo at h;split at h
 ·obtain ⟨ns,_,rfl⟩:=yB.1 h;rfl
 ·cases h
theorem jw2 {P:Program} {w:World} {O:Nat->Prop} {o:Oper} {ev:Operand->Value} {s d e:TypeId} {x:Operand} (ho:o.op = .convert s d x) (hs:P.underlying s=some (.slice e)) (he:P.underlying e=some (.int .u8)) (hd:P.underlying d=some .string) {a:A} (hx:rel w O a (ev x)) {r:A} (h:jjo a=some r) :
  ∃z,(execOp ev o).run P w = .ok (.value z) w/\rel w O r z:=by
 unfold jjo at h;split at h
 ·rename_i k xs;obtain ⟨ns,hns,rfl⟩:=yB.1 h;obtain ⟨hl,hget⟩:=jgC hns;simp only [rel] at hx;obtain ⟨ad,cap,hv,_,_,hor⟩:=hx;have hconv:(convert s d (ev x)).run P w = .ok (.string (Go.strOfNums ns)) w:=by
   rw [hv];rcases hor with rfl|⟨b,off,rfl,_,_,hrows⟩
   ·have hn0:ns = []:=by simpa using hl
    subst hn0;rw [run_convert_bytes_string w s d e _ _ cap hs he hd];cases ad with
    | none=>simp [Conv.bytesToString,yG];rfl
    | some ad=>
     rw [run_bytesToString w ad _ cap [] (by simp [loadCells,loadCellsFrom,yG])];rfl
   ·refine run_convert_bytes_arg w s e hs he b off xs.length cap ns hl (λi hi=> ?_) d hd;have hi':i < ns.length:=by omega
    have hx:=hget i ns[i] (kO hi');obtain ⟨g1,g2⟩:=Qu hrows hx;simp only [zk,yw] at g1;rw [<-g1,Nat.mul_one] at g2;simp only [yr] at g2;obtain ⟨⟨v,q1,_,q2⟩,_⟩:=g2;simp only [rel] at q2;rw [q1,q2];simp [zY,hi']
  refine ⟨.string (Go.strOfNums ns),?_,?_⟩
  ·simp [execOp,ho,hconv]
  ·simp only [rel,strOfNums]
 ·cases h
theorem jk3 (hD:J7 C.P C.D) (hM:QU X C M):KP C.P X C M o ρ st (evD C o ρ st):=by
 unfold evD;split
 ·rename_i x ho;refine ⟨zB.same λw O0 m st ev hs hg hr=>⟨_,run_move (Or.inl ho) w,qY (hr x (by simp [ho,Op.operands]))⟩,by simp⟩
 ·rename_i x ho;refine ⟨zB.same λw O0 m st ev hs hg hr=>⟨_,run_move (Or.inr ho) w,qY (hr x (by simp [ho,Op.operands]))⟩,by simp⟩
 ·rename_i c a b ho;split
  ·rename_i c' a' b' hc ha hb;refine KP.opt1 λr hr=>zB.data λw O0 m st ev hs hg hrel=> ?_;unfold KY at hr;rw [yB] at hr;obtain ⟨t,h1,rfl⟩:=hr;have h2:=kY hc (hrel c (by simp [ho,Op.operands]));unfold JB at h1;split at h1
   ·cases h1;simp only [rel] at h2;refine ⟨_,jBa ho h2,?_⟩;cases t
    ·exact kY hb (qY (hrel b (by simp [ho,Op.operands])))
    ·exact kY ha (qY (hrel a (by simp [ho,Op.operands])))
   ·cases h1
  ·trivial
 ·rename_i op t x y u ho;split
  ·trivial
  split
  ·rename_i a b ha hb;refine KP.opt1 λr hr=>zB.data λw O0 m st ev hs hg hrel=> ?_;exact jDX ho (jnt hD) (kY ha (hrel x (by simp [ho,Op.operands]))) (kY hb (hrel y (by simp [ho,Op.operands]))) hr
  ·trivial
 ·rename_i op t x ho;split
  ·rename_i a ha;refine KP.opt1 λr hr=>zB.data λw O0 m st ev hs hg hrel=> ?_;exact jG5 ho (kY ha (hrel x (by simp [ho,Op.operands]))) hr
  ·trivial
 ·rename_i t x ho;obtain ⟨h1,h2⟩:=jnl (X:=X) (ρ:=ρ) hD ho (st:=st);cases he:Zn C t (ρ x) st with
  | no=>trivial
  | val v rds=>exact h1 v rds he
  | opt y rds=>
   cases y with
   | opt y=>exact λa ha=>h2 y rds a he ha
   | _=>
    exfalso;unfold Zn at he
    repeat' (first|split at he|cases he)
 ·rename_i s x f ho;exact jnT hD ho
 ·rename_i s x f ho;exact jAu hD ho
 ·rename_i t x i ho;exact jnU hD ho
 ·rename_i t x i ho;split
  ·rename_i ti a n ht ha hn;split
   ·rename_i hk;refine KP.opt1 λr hr=>zB.data λw O0 m st ev hs hg hrel=> ?_;exact jty ho (kq hD ht hk) (kY ha (hrel x (by simp [ho,Op.operands]))) (kY hn (hrel i (by simp [ho,Op.operands]))) hr
   ·trivial
  ·trivial
 ·rename_i t x k c ho;split
  ·rename_i ti ka ht hka;split
   ·rename_i kt et hk;have hu:=kq hD ht hk;split
    ·rename_i ki ei hki hei;split
     ·rename_i ks z hks hz;split
      ·rename_i hzo;have hkt:=jle hks (hD _ _ hki).desc;split
       ·rename_i a hx;refine KP.opt1 λr hr=>zB.data λw O0 m st ev hs hg hrel=> ?_;have hx':=hrel x (by simp [ho,Op.operands]);rw [hx] at hx';simp only [relV] at hx';have hk':=kY hka (hrel k (by simp [ho,Op.operands]));unfold Zg at hr;split at hr
        ·rename_i hok;obtain ⟨xs,g1,g2⟩:=zI.1 hr;rw [yB] at g2;obtain ⟨r',g2,rfl⟩:=g2;exact jq6 ho hu hkt (hD _ _ hei) hzo hz (jDy g1 hx') hk' hok g2
        ·cases hr
       ·rename_i id hx;split
        ·rename_i xs hst;intro r hr;refine ⟨zB.data λw O0 m st' ev hs hg hrel=> ?_,by simpa [yV] using hst⟩;have hx':=hrel x (by simp [ho,Op.operands]);rw [hx] at hx';have hst':st' id = .map xs:=hg _ (ku.2 rfl);have hk':=kY hka (hrel k (by simp [ho,Op.operands]));simp only [DX.run] at hr;unfold Zg at hr;split at hr
         ·rename_i hok;obtain ⟨xs',g1,g2⟩:=zI.1 hr;simp only [jDx,zg] at g1;subst g1;rw [yB] at g2;obtain ⟨r',g2,rfl⟩:=g2;obtain ⟨b,es,clock,_,q2,q3,q4⟩:=jAg hs hst' hx';exact jq6 ho hu hkt (hD _ _ hei) hzo hz (Or.inr ⟨b,es,clock,q2,q3,q4⟩) hk' hok g2
         ·cases hr
        ·trivial
       ·trivial
      ·trivial
     ·trivial
    ·trivial
   ·trivial
  ·trivial
 ·rename_i t x lo hi ho;exact ok_slice hD ho
 ·rename_i t x l h m ho;exact jwB hD ho
 ·rename_i s d x ho;split
  ·rename_i si di hs' hd;split
   ·rename_i k k' hk hk';split
    ·rename_i a ha;refine KP.opt1 λr hr=>zB.data λw O0 m st ev hs hg hrel=> ?_;exact jA9 ho ⟨_,kq hD hs' hk⟩ (kq hD hd hk') (kY ha (hrel x (by simp [ho,Op.operands]))) hr
    ·trivial
   ·rename_i e hk hk';split
    ·rename_i j a rds hj ha;split
     ·rename_i hj';intro r hr;refine ⟨zB.data λw O0 m st' ev hs hg hrel=> ?_,jhK 60 _ ha⟩;have ha':=jvD 60 _ ha hg;obtain ⟨z,q1,q2⟩:=jw2 ho (kq hD hs' hk) (kq hD hj hj') (kq hD hd hk') (jhF hs 60 _ ha' (hrel x (by simp [ho,Op.operands]))) hr;exact ⟨z,q1,jjJ r z (jqv hr) q2⟩
     ·trivial
    ·trivial
   ·trivial
  ·trivial
 ·rename_i g fs cs ho;split
  ·rename_i h0;obtain rfl:fs = #[]:=by simpa using h0
   refine ⟨zB.same λw O0 m st ev hs hg hr=> ?_,by simp⟩;have h2:=Kl (w:=w) (O:=Ow O0 m st) (m:=m) (ρ:=ρ) (ev:=ev) cs.toList λx hx=>hr x (by simp [ho,Op.operands];simpa using hx);have e:(cs.toList.map ev).toArray=cs.map ev:=by rw [<-jkn,Array.toArray_toList]
   refine ⟨.func (.func g) #[] (cs.map ev),by simp only [execOp,ho,Instr.makeFunc,yz,yG,ym];simp,?_⟩
   simp only [relV];exact ⟨cs.toList.map ev,by rw [e],h2⟩
  ·trivial
 ·rename_i x n ho;split
  ·rename_i cs hx;split
   ·rename_i v hv;refine ⟨zB.same λw O0 m st ev hs hg hr=> ?_,by simp⟩;have hx':=hr x (by simp [ho,Op.operands]);rw [hx] at hx';simp only [relV] at hx';obtain ⟨vs,h1,h2⟩:=hx';obtain ⟨u,h3,h4⟩:=Zy h2 hv;exact ⟨u,jg4 ho h1 h3,h4⟩
   ·trivial
  ·rename_i a hx;refine KP.opt1 λr hr=>zB.data λw O0 m st ev hs hg hrel=> ?_;have hx':=hrel x (by simp [ho,Op.operands]);rw [hx] at hx';simp only [relV] at hx';unfold jb7 at hr;split at hr
   ·simp only [rel] at hx';obtain ⟨vs,h1,h2⟩:=hx';obtain ⟨u,h3,h4⟩:=YX h2 hr;exact ⟨u,jg4 ho h1 h3,h4⟩
   ·cases hr
  ·trivial
 ·rename_i x ho;have m1:x∈o.op.operands:=by simp [ho,Op.operands]
  split
  ·rename_i id off hx;refine ⟨zB.same λw O0 m st ev hs hg hr=> ?_,by simp⟩;have hx':=hr x m1;rw [hx] at hx';have h2:=hx';simp only [relV] at hx';obtain ⟨b,c,n,_,h1⟩:=hx';exact ⟨ev x,by simp [execOp,ho,h1],h2⟩
  ·rename_i id i k j hx;refine ⟨zB.same λw O0 m st ev hs hg hr=> ?_,by simp⟩;have hx':=hr x m1;rw [hx] at hx';have h2:=hx';simp only [relV] at hx';obtain ⟨b,c,n,_,h1⟩:=hx';exact ⟨ev x,by simp [execOp,ho,h1],h2⟩
  ·rename_i f cs hx;refine ⟨zB.same λw O0 m st ev hs hg hr=> ?_,by simp⟩;have hx':=hr x m1;rw [hx] at hx';have h2:=hx';simp only [relV] at hx';obtain ⟨vs,h1,_⟩:=hx';exact ⟨ev x,by simp [execOp,ho,h1],h2⟩
  ·rename_i a hx;refine KP.opt1 λr hr=>zB.data λw O0 m st ev hs hg hrel=> ?_;have hx':=hrel x m1;rw [hx] at hx';simp only [relV] at hx';have h2:=hx';unfold jIR at hr;split at hr
   ·cases hr;simp only [rel] at hx';obtain ⟨b,o',h1,_⟩:=hx';exact ⟨ev x,by simp [execOp,ho,h1],h2⟩
   ·cases hr;simp only [rel] at hx';obtain ⟨vs,h1,_⟩:=hx';exact ⟨ev x,by simp [execOp,ho,h1],h2⟩
   ·cases hr
  ·trivial
 ·rename_i t ps ho;exact jAt hD ho
 ·rename_i c ho;obtain ⟨callee,args,ts⟩:=c;dsimp only;split
  ·split
   ·rename_i x t hxs hts;obtain ⟨y,rfl⟩:∃y,args = #[y]:=by
     obtain ⟨l⟩:=args;simp only at hxs;subst hxs;exact ⟨_,rfl⟩
    obtain rfl:ts = #[t]:=by apply ZE;simpa using hts
    simp only [Qd,and_true] at hxs;subst hxs;have m1:y∈o.op.operands:=by simp [ho,Op.operands,Call.operands]
    split
    ·rename_i ti ht;split
     ·rename_i e hk;have hu:=kq hD ht hk;split
      ·rename_i hx;refine ⟨zB.data λw O0 m st ev hs hg hr=> ?_,by simp⟩;have hx':=hr y m1;rw [hx] at hx';simp only [relV] at hx';obtain ⟨a,h1⟩:=hx';exact ⟨_,run_len_slice ho rfl rfl hu h1,by simp [rel]⟩
      ·rename_i id hx;split
       ·rename_i k xs hst;refine ⟨zB.data λw O0 m st' ev hs hg hr=> ?_,by simp [yV,hst]⟩;have hx':=hr y m1;rw [hx] at hx';obtain ⟨xs',g1,g2⟩:=hg _ (ku.2 rfl);obtain ⟨a,c,hv⟩:=jlJ hs g1 hx';exact ⟨_,run_len_slice ho rfl rfl hu hv,by simp [zU,rel,g2]⟩
       ·rename_i k xs hst;refine ⟨zB.data λw O0 m st' ev hs hg hr=> ?_,by simpa [yV] using hst⟩;have hx':=hr y m1;rw [hx] at hx';have:=ZG hs (hg _ (ku.2 rfl)) hx';simp only [rel] at this;obtain ⟨a,c,hv,_⟩:=this;exact ⟨_,run_len_slice ho rfl rfl hu hv,by simp [zU,rel]⟩
       ·rename_i f' k xs hst;refine ⟨zB.data λw O0 m st' ev hs hg hr=> ?_,by simp [yV,hst]⟩;have hx':=hr y m1;rw [hx] at hx';obtain ⟨xs',g1,g2⟩:=hg _ (ku.2 rfl);obtain ⟨a,c,hv⟩:=jxo hs g1 hx';exact ⟨_,run_len_slice ho rfl rfl hu hv,by simp [zU,rel,g2]⟩
       ·trivial
      ·rename_i a hx;refine KP.opt1 λr hr=>zB.data λw O0 m st ev hs hg hrel=> ?_;have hx':=hrel y m1;rw [hx] at hx';simp only [relV] at hx';unfold zn at hr;split at hr
       ·cases hr;simp only [rel] at hx';obtain ⟨a,c,h1,_⟩:=hx';exact ⟨_,run_len_slice ho rfl rfl hu h1,by simp [rel]⟩
       ·cases hr
      ·rename_i id k off n hx;refine ⟨zB.data λw O0 m st ev hs hg hr=> ?_,by simp⟩;have hx':=hr y m1;rw [hx] at hx';simp only [relV] at hx';obtain ⟨hd,_,h1⟩:=hx';obtain ⟨a,c,h1⟩:∃a c,ev y = .slice a n c:=by
        cases hd with
        | none=>simp only [Kf] at h1;obtain ⟨_,rfl,a,h1⟩:=h1;exact ⟨a,0,h1⟩
        | blk b c l=>simp only [Kf] at h1;obtain ⟨_,q,h1,_⟩:=h1;exact ⟨_,_,h1⟩
        | tre=>exact h1.elim
        | mp=>exact h1.elim
       exact ⟨_,run_len_slice ho rfl rfl hu h1,by simp [rel,nA]⟩
      ·trivial
     ·rename_i hk;have hu:=kq hD ht hk;split
      ·rename_i a ha;refine KP.opt1 λr hr=>zB.data λw O0 m st ev hs hg hrel=> ?_;have hx':=kY ha (hrel y m1);unfold jb5 at hr;split at hr
       ·cases hr;simp only [rel] at hx';exact ⟨_,jq5 ho rfl rfl hu hx',by simp [rel,jfd]⟩
       ·cases hr
      ·trivial
     ·trivial
    ·trivial
   ·trivial
  ·split
   ·rename_i x y hxs;obtain rfl:args = #[x,y]:=by apply ZE;simpa using hxs
    split
    ·rename_i a b ha hb;refine KP.opt1 λr hr=>zB.data λw O0 m st ev hs hg hrel=> ?_;exact jD0 ho rfl (kY ha (hrel x (by simp [ho,Op.operands,Call.operands]))) (kY hb (hrel y (by simp [ho,Op.operands,Call.operands]))) hr
    ·trivial
   ·trivial
  ·split
   ·rename_i x y hxs;obtain rfl:args = #[x,y]:=by apply ZE;simpa using hxs
    split
    ·rename_i a b ha hb;refine KP.opt1 λr hr=>zB.data λw O0 m st ev hs hg hrel=> ?_;exact jD1 ho rfl (kY ha (hrel x (by simp [ho,Op.operands,Call.operands]))) (kY hb (hrel y (by simp [ho,Op.operands,Call.operands]))) hr
    ·trivial
   ·trivial
  ·exact jDF hM ho
  ·trivial
 ·trivial
end
end
noncomputable section
mutual
def jIZ:V->List Nat
 | .ptr id _=>[id]
 | .row id=>[id]
 | .rptr id _ _ _=>[id]
 | .win id _ _ _=>[id]
 | .sub id _ _ _=>[id]
 | .agg cs=>je4 cs
 | .tup cs=>je4 cs
 | .fn _ cs=>je4 cs
 | _=>[]
def je4:List V->List Nat
 | []=>[]
 | c::cs=>jIZ c++je4 cs
end
def jIY:Obj->List Nat
 | .box cs=>je4 cs
 | _=>[]
def jdC (x:Nat):List Nat->Bool
 | []=>false
 | y::ys=>Nat.beq x y || jdC x ys
def reach (st:jB):Nat->List Nat->List Nat->List Nat
 | 0,_,done=>done
 | _+1,[],done=>done
 | n+1,id::todo,done=>if jdC id done then reach st n todo done else reach st n (todo++jIY (st id)) (done++[id])
def Qg (x:Nat):List Nat->Nat->Option Nat
 | [],_=>none
 | y::ys,i=>if Nat.beq x y then some i else Qg x ys (i+1)
def jjf:List Nat->Bool
 | []=>true
 | x::xs=> !jdC x xs && jjf xs
mutual
def ren (ids:List Nat):V->V
 | .ptr id off=>(match Qg id ids 0 with|some i=> .ptr i off|none=> .top)
 | .row id=>(match Qg id ids 0 with|some i=> .row i|none=> .top)
 | .rptr id i k j=>(match Qg id ids 0 with|some q=> .rptr q i k j|none=> .top)
 | .win id k off n=>(match Qg id ids 0 with|some q=> .win q k off n|none=> .top)
 | .sub id i k j=>(match Qg id ids 0 with|some q=> .sub q i k j|none=> .top)
 | .agg cs=> .agg (Z7 ids cs)
 | .tup cs=> .tup (Z7 ids cs)
 | .fn f cs=> .fn f (Z7 ids cs)
 | v=>v
def Z7 (ids:List Nat):List V->List V
 | []=>[]
 | c::cs=>ren ids c::Z7 ids cs
end
def jn3 (ids:List Nat):Obj->Obj
 | .box cs=> .box (Z7 ids cs)
 | o=>o
mutual
def Za:V->Nat->V × List Obj
 | .nil k,n=>(.row n,[.row k []])
 | .agg cs,n=>(match Yc cs n with|(cs',os)=>(.agg cs',os))
 | .tup cs,n=>(match Yc cs n with|(cs',os)=>(.tup cs',os))
 | .fn f cs,n=>(match Yc cs n with|(cs',os)=>(.fn f cs',os))
 | v,_=>(v,[])
def Yc:List V->Nat->List V × List Obj
 | [],_=>([],[])
 | c::cs,n=>(match Za c n with|(c',os)=>(match Yc cs (n+os.length) with|(cs',os')=>(c'::cs',os++os')))
end
def Kj:List Obj->Nat->List Obj × List Obj
 | [],_=>([],[])
 | .box cs::l,n=>(match Yc cs n with|(cs',os)=>(match Kj l (n+os.length) with|(l',os')=>(.box cs'::l',os++os')))
 | o::l,n=>(match Kj l n with|(l',os')=>(o::l',os'))
theorem JX {x:Nat} :∀ {l:List Nat} {i j:Nat},Qg x l i=some j-> ∃q,j=i+q/\l[q]? = some x
 | [],_,_,h=>by cases h
 | y::ys,i,j,h=>by
  simp only [Qg] at h;split at h
  ·rename_i hb;cases h;exact ⟨0,rfl,by simp [zw hb]⟩
  ·obtain ⟨q,h1,h2⟩:=JX h;exact ⟨q+1,by omega,by simpa using h2⟩
theorem jpA {x:Nat} :∀ {l:List Nat},jdC x l=true↔x∈l
 | []=>by simp [jdC]
 | y::ys=>by
  simp only [jdC,jow,jZ];rw [jpA];exact or_congr ⟨zw,λe=>by simp [e]⟩ Iff.rfl
theorem jfZ:∀ {l:List Nat},jjf l=true->l.Nodup
 | [],_=>jkc
 | x::xs,h=>by
  simp only [jjf,jy,jan] at h;refine List.nodup_cons.mpr ⟨λhm=> ?_,jfZ h.2⟩;rw [jpA.mpr hm] at h;cases h.1
section
variable {w:World} {O O':Nat->Prop} {m m':zV} {ids:List Nat}
mutual
theorem jDS (h:MonoW w O w O') (hm:∀q id,ids[q]? = some id-> ∀hd,m id=some hd->m' q=some hd):∀(v:V) (u:Value),relV w O m v u->relV w O' m' (ren ids v) u
 | .top,_,_=>by simp [ren,relV]
 | .nil _,v,hr=>by simpa [ren,relV] using hr
 | .ub _ _,v,hr=>by simpa [ren,relV] using hr
 | .d a,v,hr=>by simp only [ren,relV] at hr ⊢;exact yc h a v hr
 | .agg cs,v,hr=>by
  simp only [ren,relV] at hr ⊢;obtain ⟨vs,h1,h2⟩:=hr;exact ⟨vs,h1,ZT h hm cs vs h2⟩
 | .tup cs,v,hr=>by
  simp only [ren,relV] at hr ⊢;obtain ⟨vs,h1,h2⟩:=hr;exact ⟨vs,h1,ZT h hm cs vs h2⟩
 | .fn f cs,v,hr=>by
  simp only [ren,relV] at hr ⊢;obtain ⟨vs,h1,h2⟩:=hr;exact ⟨vs,h1,ZT h hm cs vs h2⟩
 | .ptr id off,v,hr=>by
  simp only [ren,relV] at hr ⊢;obtain ⟨b,c,n,h1,h2⟩:=hr;cases hi:Qg id ids 0 with
  | none=>simp [relV]
  | some i=>
   obtain ⟨q,e1,e2⟩:=JX hi;simp only [relV];exact ⟨b,c,n,by rw [show i=q by omega];exact hm q id e2 _ h1,h2⟩
 | .row id,v,hr=>by
  simp only [ren,relV] at hr ⊢;obtain ⟨hd,h1,h2⟩:=hr;cases hi:Qg id ids 0 with
  | none=>simp [relV]
  | some i=>
   obtain ⟨q,e1,e2⟩:=JX hi;simp only [relV];exact ⟨hd,by rw [show i=q by omega];exact hm q id e2 _ h1,h2⟩
 | .rptr id i k j,v,hr=>by
  simp only [ren,relV] at hr ⊢;obtain ⟨b,c,h1,n,h2⟩:=hr;cases hi:Qg id ids 0 with
  | none=>simp [relV]
  | some i'=>
   obtain ⟨q,e1,e2⟩:=JX hi;simp only [relV];exact ⟨b,c,by rw [show i'=q by omega];exact hm q id e2 _ h1,n,h2⟩
 | .sub id i k j,v,hr=>by
  simp only [ren,relV] at hr ⊢;obtain ⟨hd,h1,h2⟩:=hr;cases hi:Qg id ids 0 with
  | none=>simp [relV]
  | some i'=>
   obtain ⟨q,e1,e2⟩:=JX hi;simp only [relV];exact ⟨hd,by rw [show i'=q by omega];exact hm q id e2 _ h1,h2⟩
 | .win id k off n,v,hr=>by
  simp only [ren,relV] at hr ⊢;obtain ⟨hd,h1,h2⟩:=hr;cases hi:Qg id ids 0 with
  | none=>simp [relV]
  | some i=>
   obtain ⟨q,e1,e2⟩:=JX hi;simp only [relV];exact ⟨hd,by rw [show i=q by omega];exact hm q id e2 _ h1,h2⟩
theorem ZT (h:MonoW w O w O') (hm:∀q id,ids[q]? = some id-> ∀hd,m id=some hd->m' q=some hd):∀(cs:List V) (vs:List Value),jx w O m cs vs->jx w O' m' (Z7 ids cs) vs
 | [],vs,hr=>by simpa [Z7,jx] using hr
 | c::cs,vs,hr=>by
  simp only [Z7,jx] at hr ⊢;obtain ⟨v,r,h1,h2,h3⟩:=hr;exact ⟨v,r,h1,jDS h hm c v h2,ZT h hm cs r h3⟩
end
def KO (os:List Abs.Obj):Prop:=∀o∈os,∃k,o = .row k []
mutual
theorem jAR:∀(v:V) (n:Nat),KO (Za v n).2
 | .top,_=>by intro o h;simp [Za] at h
 | .nil k,_=>by intro o h;simp [Za] at h;exact ⟨k,h⟩
 | .d _,_=>by intro o h;simp [Za] at h
 | .agg cs,n=>by simp only [Za];exact Zu cs n
 | .tup cs,n=>by simp only [Za];exact Zu cs n
 | .fn _ cs,n=>by simp only [Za];exact Zu cs n
 | .ptr _ _,_=>by intro o h;simp [Za] at h
 | .row _,_=>by intro o h;simp [Za] at h
 | .rptr _ _ _ _,_=>by intro o h;simp [Za] at h
 | .win _ _ _ _,_=>by intro o h;simp [Za] at h
 | .ub _ _,_=>by intro o h;simp [Za] at h
 | .sub _ _ _ _,_=>by intro o h;simp [Za] at h
theorem Zu:∀(cs:List V) (n:Nat),KO (Yc cs n).2
 | [],_=>by intro o h;simp [Yc] at h
 | c::cs,n=>by
  simp only [Yc];intro o h;rcases List.mem_append.mp h with h|h
  ·exact jAR c n o h
  ·exact Zu cs _ o h
end
mutual
theorem jAS:∀(v:V) (n:Nat) (u:Value),(∀i,n<=i->i < n+(Za v n).2.length->m i=some .none)->relV w O m v u->relV w O m (Za v n).1 u
 | .top,_,_,_,_=>by simp [Za,relV]
 | .nil k,n,u,hn,hr=>by
  simp only [Za,relV,zk,yw] at hn hr ⊢;exact ⟨.none,hn n (kz _) (by omega),hr⟩
 | .d a,_,_,_,hr=>by simpa [Za] using hr
 | .agg cs,n,u,hn,hr=>by
  simp only [Za,relV] at hn hr ⊢;obtain ⟨vs,h1,h2⟩:=hr;exact ⟨vs,h1,Zv cs n vs hn h2⟩
 | .tup cs,n,u,hn,hr=>by
  simp only [Za,relV] at hn hr ⊢;obtain ⟨vs,h1,h2⟩:=hr;exact ⟨vs,h1,Zv cs n vs hn h2⟩
 | .fn f cs,n,u,hn,hr=>by
  simp only [Za,relV] at hn hr ⊢;obtain ⟨vs,h1,h2⟩:=hr;exact ⟨vs,h1,Zv cs n vs hn h2⟩
 | .ptr _ _,_,_,_,hr=>by simpa [Za] using hr
 | .row _,_,_,_,hr=>by simpa [Za] using hr
 | .rptr _ _ _ _,_,_,_,hr=>by simpa [Za] using hr
 | .win _ _ _ _,_,_,_,hr=>by simpa [Za] using hr
 | .ub _ _,_,_,_,hr=>by simpa [Za] using hr
 | .sub _ _ _ _,_,_,_,hr=>by simpa [Za] using hr
theorem Zv:∀(cs:List V) (n:Nat) (us:List Value),(∀i,n<=i->i < n+(Yc cs n).2.length->m i=some .none)->jx w O m cs us->jx w O m (Yc cs n).1 us
 | [],_,us,_,hr=>by simpa [Yc] using hr
 | c::cs,n,us,hn,hr=>by
  simp only [Yc,jx,zh] at hn hr ⊢;obtain ⟨v,r,h1,h2,h3⟩:=hr;exact ⟨v,r,h1,jAS c n v (λi h4 h5=>hn i h4 (by omega)) h2,Zv cs _ r (λi h4 h5=>hn i (by omega) (by omega)) h3⟩
end
theorem jjB:∀(l:List Abs.Obj) (n:Nat),KO (Kj l n).2/\(Kj l n).1.length=l.length/\
  ((∀i,n<=i->i < n+(Kj l n).2.length->m i=some .none)-> ∀(i:Nat) (o':Abs.Obj),(Kj l n).1[i]? = some o'-> ∃o,l[i]? = some o/\(o'=o\/ ∃cs cs',o=Abs.Obj.box cs/\o'=Abs.Obj.box cs'/\ ∀us,jx w O m cs us->jx w O m cs' us))
 | [],n=>⟨by intro o h;simp [Kj] at h,rfl,by simp [Kj]⟩
 | o::l,n=>by
  have gen:∀o:Abs.Obj,Kj (o::l) n=(o::(Kj l n).1,(Kj l n).2)->KO (Kj (o::l) n).2/\(Kj (o::l) n).1.length=(o::l).length/\
    ((∀i,n<=i->i < n+(Kj (o::l) n).2.length->m i=some .none)-> ∀(i:Nat) (o':Abs.Obj),(Kj (o::l) n).1[i]? = some o'-> ∃o'',(o::l)[i]? = some o''/\(o'=o''\/ ∃cs cs',o''=Abs.Obj.box cs/\o'=Abs.Obj.box cs'/\ ∀us,jx w O m cs us->jx w O m cs' us)):=by
   intro o e;obtain ⟨h1,h2,h3⟩:=jjB l n;rw [e];refine ⟨h1,by simp [h2],λhn i o' hi=> ?_⟩;cases i with
   | zero=>simp at hi;subst hi;exact ⟨_,rfl,Or.inl rfl⟩
   | succ i=>simpa using h3 hn i o' (by simpa using hi)
  cases o with
  | box cs=>
   obtain ⟨h1,h2,h3⟩:=jjB l (n+(Yc cs n).2.length);simp only [Kj,zh];refine ⟨?_,by simp [h2],λhn i o' hi=> ?_⟩
   ·intro o h;rcases List.mem_append.mp h with h|h
    ·exact Zu cs n o h
    ·exact h1 o h
   ·cases i with
    | zero=>
     simp at hi;subst hi;exact ⟨_,rfl,Or.inr ⟨cs,_,rfl,rfl,λus hus=>Zv cs n us (λi h4 h5=>hn i h4 (by omega)) hus⟩⟩
    | succ i=>
     simpa using h3 (λi h4 h5=>hn i (by omega) (by omega)) i o' (by simpa using hi)
  | dead=>exact gen _ rfl
  | gone=>exact gen _ rfl
  | row k xs=>exact gen _ rfl
  | fro k xs=>exact gen _ rfl
  | tre f k xs=>exact gen _ rfl
  | map xs=>exact gen _ rfl
end
theorem jjK {ids:List Nat} {o:Abs.Obj} :(jn3 ids o).alive=o.alive:=by cases o<;>rfl
def z7 (objs:List Abs.Obj):jB:=λi=>objs.getD i .dead
theorem ZA {objs:List Abs.Obj} {i:Nat} {o:Abs.Obj} (h:objs[i]? = some o):z7 objs i=o:=by
 simp [z7,zY,h]
theorem jlU {objs:List Abs.Obj} {i:Nat} (h:objs.length<=i):z7 objs i = .dead:=by
 simp [z7,zY,y9 h]
theorem KO.get {os:List Abs.Obj} (h:KO os) {i:Nat} {o:Abs.Obj} (hi:os[i]? = some o):∃k,o = .row k []:=h o (Yd hi)
theorem KO.append {a b:List Abs.Obj} (h:KO a) (k:KO b):KO (a++b):=λo ho=>(List.mem_append.mp ho).elim (h o) (k o)
theorem jqL (w:World) (O:Nat->Prop) (m:zV) {ids:List Nat} {st:jB} {os1 ob os3:List Abs.Obj} (n1:KO os1) (e3:Kj (ids.map λid=>jn3 ids (st id)) (ids.length+os1.length)=(ob,os3))
  (hm:∀q,ids.length<=q->q < ids.length+os1.length+os3.length->m q=some .none) :
  ob.length=ids.length/\
  (∀i id,ids[i]? = some id->z7 (ob++os1++os3) i=jn3 ids (st id)\/ ∃cs cs',st id = .box cs/\z7 (ob++os1++os3) i = .box cs'/\ ∀us,jx w O m (Z7 ids cs) us->jx w O m cs' us)/\
  (∀i,ids.length<=i->i < ids.length+os1.length+os3.length-> ∃k,z7 (ob++os1++os3) i = .row k [])/\(∀i,ids.length+os1.length+os3.length<=i->z7 (ob++os1++os3) i = .dead):=by
 obtain ⟨n3,l3,p3⟩:=jjB (w:=w) (O:=O) (m:=m) (ids.map λid=>jn3 ids (st id)) (ids.length+os1.length);rw [e3] at n3 l3 p3;simp only [kj] at l3;have p3:=p3 λi h1 h2=>hm i (by omega) h2;refine ⟨l3,?_,?_,?_⟩
 ·intro i id hi;have hlt:=(List.getElem?_eq_some_iff.mp hi).1;have hob:ob[i]? = some ob[i]:=kO (by omega);have hst:z7 (ob++os1++os3) i=ob[i]:=ZA (by rw [yv,K7 (by omega),hob]);obtain ⟨o,h3,h4⟩:=p3 i _ hob;rw [Jv,hi] at h3;cases h3;rcases h4 with h4|⟨cs,cs',h4,h5,h6⟩
  ·exact Or.inl (by rw [hst,h4])
  ·right;dsimp only at h4;cases ho:st id with
   | box cs0=>
    rw [ho] at h4;cases h4;exact ⟨cs0,cs',rfl,by rw [hst,h5],h6⟩
   | dead=>rw [ho] at h4;cases h4
   | gone=>rw [ho] at h4;cases h4
   | row k xs=>rw [ho] at h4;cases h4
   | fro k xs=>rw [ho] at h4;cases h4
   | tre f k xs=>rw [ho] at h4;cases h4
   | map xs=>rw [ho] at h4;cases h4
 ·intro i h1 h2;have hlt:i - ob.length < (os1++os3).length:=by simp;omega
  obtain ⟨k,hk⟩:=(n1.append n3).get (kO hlt);refine ⟨k,?_⟩;rw [<-hk];exact ZA (by rw [yv,Qe (by omega),kO hlt])
 ·intro i h1;exact jlU (by simp;omega)
theorem Sto.pick {X:Ctx} {w:World} {O0 O0':Nat->Prop} {m m':zV} {st st':jB} (hs:Sto X w O0 m st) (hN:∀b,X.N b->O0' b) (hO:∀b,O0' b->Ow O0 m st b)
  (src:Nat->Option Nat)
  (h:∀i,(st' i = .dead/\m' i=none)\/st' i = .gone\/((∃k,st' i = .row k []\/st' i = .tre true k [])/\m' i=some .none)\/
   (∃id,src i=some id/\m' i=m id/\(((∃k xs,st' i = .row k xs\/st' i = .fro k xs\/(∃f,st' i = .tre f k xs)\/st' i = .map xs)/\st id=st' i)\/ ∃cs cs',st id = .box cs/\st' i = .box cs'/\((∀b,Ow O0' m' st' b->Ow O0 m st b)->(∀b,Mz m' st' b-> ∃i id hd,src i=some id/\(st id).alive=true/\m id=some hd/\b∈hd.blocks)-> ∀us,jx w (Ow O0 m st) m cs us->jx w (Ow O0' m' st') m' cs' us))))
  (hinj:∀i i' id,src i=some id->src i'=some id->(st' i).alive=true->(st' i').alive=true->i=i')
  (hdis:∀i id hd b,src i=some id->(st' i).alive=true->m id=some hd->b∈hd.blocks-> ¬O0' b) :
  Sto X w O0' m' st'/\(∀b,Mz m' st' b->Mz m st b):=by
 have blk:∀i hd b,(st' i).alive=true->m' i=some hd->b∈hd.blocks-> ∃id,src i=some id/\(st id).alive=true/\m id=some hd:=by
  intro i hd b ha hm hb;rcases h i with ⟨h1,_⟩|h1|⟨_,h2⟩|⟨id,h1,h2,h3⟩
  ·rw [h1] at ha;cases ha
  ·rw [h1] at ha;cases ha
  ·rw [h2] at hm;cases hm;simp [Hd.blocks] at hb
  ·refine ⟨id,h1,?_,by rw [<-h2];exact hm⟩
   rcases h3 with ⟨_,h4⟩|⟨cs,cs',h4,_⟩
   ·rw [h4];exact ha
   ·rw [h4];rfl
 have hmz:∀b,Mz m' st' b->Mz m st b:=by
  rintro b ⟨i,hd,ha,hm,hb⟩;obtain ⟨id,_,h2,h3⟩:=blk i hd b ha hm hb;exact ⟨id,hd,h2,h3,hb⟩
 have hmi:∀b,Mz m' st' b-> ∃i id hd,src i=some id/\(st id).alive=true/\m id=some hd/\b∈hd.blocks:=by
  rintro b ⟨i,hd,ha,hm,hb⟩;obtain ⟨id,h1,h2,h3⟩:=blk i hd b ha hm hb;exact ⟨i,id,hd,h1,h2,h3,hb⟩
 have hsub:∀b,Ow O0' m' st' b->Ow O0 m st b:=λb hb=>hb.elim (hO b) λhb=>Or.inr (hmz b hb);have mono:=MonoW.sub (w:=w) hsub;refine ⟨⟨hs.j,hN,?_,?_,?_,?_,?_⟩,hmz⟩
 ·intro i hd;rcases h i with ⟨_,h2⟩|h1|⟨⟨k,h1|h1⟩,_⟩|⟨id,h1,h2,h3⟩
  ·exact h2
  ·rw [h1] at hd;cases hd
  ·rw [h1] at hd;cases hd
  ·rw [h1] at hd;cases hd
  ·rcases h3 with ⟨⟨k,xs,h4|h4|⟨f,h4⟩|h4⟩,_⟩|⟨cs,cs',_,h4,_⟩<;>rw [h4] at hd<;>cases hd
 ·intro b hb;rcases hO b hb with hb|⟨id,hd,ha,hm,hi⟩
  ·exact hs.old b hb
  ·exact (hs.blk id hd b ha hm hi).1
 ·intro i hd b ha hm hi;obtain ⟨id,h1,h2,h3⟩:=blk i hd b ha hm hi;exact ⟨(hs.blk id hd b h2 h3 hi).1,hdis i id hd b h1 ha h3 hi⟩
 ·intro i i' hd hd' b ha ha' hm hm' hi hi';obtain ⟨id,g1,g2,g3⟩:=blk i hd b ha hm hi;obtain ⟨id',g1',g2',g3'⟩:=blk i' hd' b ha' hm' hi';have:=hs.inj id id' hd hd' b g2 g2' g3 g3' hi hi';subst this;exact hinj i i' id g1 g1' ha ha'
 ·intro i;rcases h i with ⟨h1,_⟩|h1|⟨⟨k,h1|h1⟩,h2⟩|⟨id,h1,h2,h3⟩
  ·rw [h1];trivial
  ·rw [h1];trivial
  ·rw [h1,h2];exact ⟨.none,rfl,rfl⟩
  ·rw [h1,h2];exact ⟨.none,rfl,by simp [qt],by simp [Hd.blocks]⟩
  ·rw [h2];have ho:=hs.obj id;rcases h3 with ⟨h5,h4⟩|⟨cs,cs',h4,h5,h6⟩
   ·rw [h4] at ho;obtain ⟨k,xs,h5⟩:=h5;rcases h5 with h5|h5|⟨f,h5⟩|h5
    ·rw [h5] at ho ⊢;obtain ⟨hd,g1,g2⟩:=ho;exact ⟨hd,g1,jaT mono (λ_ _ _ _=>rfl) g2⟩
    ·rw [h5] at ho ⊢;obtain ⟨hd,g1,g0,g2⟩:=ho;exact ⟨hd,g1,g0,λv hv=>yc mono _ _ (g2 v hv)⟩
    ·rw [h5] at ho ⊢;exact ho
    ·rw [h5] at ho ⊢;obtain ⟨hd,g1,g2⟩:=ho;exact ⟨hd,g1,jdK mono (λ_ _=>rfl) g2⟩
   ·rw [h4] at ho;rw [h5];obtain ⟨hd,g1,g2⟩:=ho;refine ⟨hd,g1,?_⟩;cases hd with
    | none=>exact g2
    | tre=>exact g2.elim
    | mp=>exact g2.elim
    | blk b c n=>
     obtain ⟨cc,T,k1,k2,k3⟩:=g2;exact ⟨cc,T,k1,k2,h6 hsub hmi _ k3⟩
mutual
def Sh.toV (as:List A):Sh->V
 | .d i=> .d (as.getD i .top)
 | .row o=> .row o
 | .ptr o off=> .ptr o off
 | .agg l=> .agg (Sh.toVL as l)
 | .tup l=> .tup (Sh.toVL as l)
def Sh.toVL (as:List A):List Sh->List V
 | []=>[]
 | s::l=>Sh.toV as s::Sh.toVL as l
end
def Q7 (k:Nat) (xs:List (List A)):Abs.Obj:=bif Nat.blt k 64 then .row k xs else bif Nat.beq k 128 then .map xs else .tre true (k - 64) xs
theorem jgS (k:Nat) (xs:List (List A)):Q7 k xs = .row k xs\/Q7 k xs = .tre true (k - 64) xs\/Q7 k xs = .map xs:=by
 unfold Q7;cases Nat.blt k 64
 ·cases Nat.beq k 128
  ·exact Or.inr (Or.inl rfl)
  ·exact Or.inr (Or.inr rfl)
 ·exact Or.inl rfl
theorem jqh (k:Nat) (xs:List (List A)):(Q7 k xs).alive=true:=by
 rcases jgS k xs with h|h|h<;>rw [h]<;>rfl
def kdK (k:Nat):Nat:=bif Nat.blt k 256 then k else k % 256
def ZH (a:A):Bool:=match a with | .val (.bool b)=>b|_=>false
def jyk:List Nat->Option Nat
 | []=>none
 | k::ks=>bif Nat.blt k 256 then jyk ks else some (k / 256 - 1)
def jpf (ks:List Nat) (as:List A):A:=match jyk ks with|none=> .val (.bool true)|some i=>as.getD i .top
def QI (b:Bool) (k:Nat) (xs:List (List A)):Abs.Obj:=bif Nat.blt k 256 then Q7 k xs else bif b then Q7 (k % 256) xs else .gone
theorem Y1 (b:Bool) (k:Nat) (xs:List (List A)):QI b k xs = .gone\/ ∃k',QI b k xs=Q7 k' xs/\k'=kdK k:=by
 unfold QI kdK;cases Nat.blt k 256
 ·cases b
  ·exact Or.inl rfl
  ·exact Or.inr ⟨_,rfl,rfl⟩
 ·exact Or.inr ⟨_,rfl,rfl⟩
theorem jvu (b:Bool) (k:Nat) (xs:List (List A)):QI b k xs≠ .dead:=by
 rcases Y1 b k xs with h|⟨k',h,_⟩
 ·rw [h];intro e;cases e
 ·rw [h];intro e;have:=jqh k' xs;rw [e] at this;cases this
def jkF (b:Bool) (ks:List Nat) (rs:List (List (List A))) (j:Nat):Abs.Obj:=QI b (ks.getD j 0) (rs.getD j [])
def OW.toO (b:Bool) (ks:List Nat) (as:List A) (rs:List (List (List A))):OW->Abs.Obj
 | .cons=> .gone
 | .io j=>jkF b ks rs j
 | .box l=> .box (Sh.toVL as l)
def SigA.objsB (b:Bool) (sg:SigA) (as:List A) (rs:List (List (List A))):List Abs.Obj:=sg.ws.map (OW.toO b sg.ks as rs)++sg.nw.map (jkF b sg.ks rs)
def SigA.objs (sg:SigA) (as:List A) (rs:List (List (List A))):List Abs.Obj:=sg.objsB (ZH (jpf sg.ks as)) as rs
def hD (o:Out) (i:Nat):Option A:=o.2[i]?
def hR (k:Nat) (o:Out) (i:Nat):Option (List (List A)):=match o.2[i]? with|some (.sl k' xs)=>if k'=k then some xs else none|_=>none
structure HolesOk (sg:SigA) (o:Out) (as:List A) (rs:List (List (List A))):Prop where
 la:as.length=sg.nd
 da:∀i a,as[i]? = some a->hD o i=some a
 lr:rs.length=sg.ks.length
 dr:∀j r k,rs[j]? = some r->sg.ks[j]? = some k->hR k o (sg.nd+j)=some r
def bkI (l:List Nat) (i:Nat) (f:Nat->V):V:=match l[i]? with|some j=>f j|none=> .top
mutual
def bk (l:List Nat):V->V
 | .ptr id off=>bkI l id λj=> .ptr j off
 | .row id=>bkI l id .row
 | .rptr _ _ _ _=> .top
 | .win _ _ _ _=> .top
 | .sub _ _ _ _=> .top
 | .agg cs=> .agg (bkL l cs)
 | .tup cs=> .tup (bkL l cs)
 | .fn f cs=> .fn f (bkL l cs)
 | v=>v
def bkL (l:List Nat):List V->List V
 | []=>[]
 | c::cs=>bk l c::bkL l cs
end
def bkO (l:List Nat):Abs.Obj->Abs.Obj
 | .box cs=> .box (bkL l cs)
 | o=>o
section
variable {w:World} {O O':Nat->Prop} {m m':zV} {l:List Nat}
mutual
theorem jx4 (h:MonoW w O w O') (hm:∀q id,l[q]? = some id-> ∀hd,m q=some hd->m' id=some hd):∀(v:V) (u:Value),relV w O m v u->relV w O' m' (bk l v) u
 | .top,_,_=>by simp [bk,relV]
 | .nil _,v,hr=>by simpa [bk,relV] using hr
 | .d a,v,hr=>by simp only [bk,relV] at hr ⊢;exact yc h a v hr
 | .agg cs,v,hr=>by
  simp only [bk,relV] at hr ⊢;obtain ⟨vs,h1,h2⟩:=hr;exact ⟨vs,h1,jev h hm cs vs h2⟩
 | .tup cs,v,hr=>by
  simp only [bk,relV] at hr ⊢;obtain ⟨vs,h1,h2⟩:=hr;exact ⟨vs,h1,jev h hm cs vs h2⟩
 | .fn f cs,v,hr=>by
  simp only [bk,relV] at hr ⊢;obtain ⟨vs,h1,h2⟩:=hr;exact ⟨vs,h1,jev h hm cs vs h2⟩
 | .ptr id off,v,hr=>by
  simp only [bk,bkI,relV] at hr ⊢;obtain ⟨b,c,n,h1,h2⟩:=hr;cases hi:l[id]? with
  | none=>simp [relV]
  | some j=>simp only [relV];exact ⟨b,c,n,hm _ _ hi _ h1,h2⟩
 | .row id,v,hr=>by
  simp only [bk,bkI,relV] at hr ⊢;obtain ⟨hd,h1,h2⟩:=hr;cases hi:l[id]? with
  | none=>simp [relV]
  | some j=>simp only [relV];exact ⟨hd,hm _ _ hi _ h1,h2⟩
 | .rptr _ _ _ _,v,hr=>by simp [bk,relV]
 | .win _ _ _ _,v,hr=>by simp [bk,relV]
 | .sub _ _ _ _,v,hr=>by simp [bk,relV]
 | .ub _ _,v,hr=>by simpa [bk,relV] using hr
theorem jev (h:MonoW w O w O') (hm:∀q id,l[q]? = some id-> ∀hd,m q=some hd->m' id=some hd):∀(cs:List V) (vs:List Value),jx w O m cs vs->jx w O' m' (bkL l cs) vs
 | [],vs,hr=>by simpa [bkL,jx] using hr
 | c::cs,vs,hr=>by
  simp only [bkL,jx] at hr ⊢;obtain ⟨v,r,h1,h2,h3⟩:=hr;exact ⟨v,r,h1,jx4 h hm c v h2,jev h hm cs r h3⟩
end
end
theorem QX {l:List Nat} {o:Abs.Obj} :(bkO l o).alive=o.alive:=by cases o<;>rfl
def SOk (X:Ctx) (P:Program) (f:FuncId) (args:List V) (objs:List Abs.Obj) (sg:SigA) (out:Out):Prop:=Enters P f/\
 ∀(w:World) (O:Nat->Prop) (m:zV) (vs:List Value),Sto X w O m (z7 objs)->(∀i,i < objs.length-> ∃h,m i=some h/\h.fixed=true)->jx w (Ow O m (z7 objs)) m args vs->
  Calls P f vs.toArray w λe w'=>∃v,e = .returned v/\ ∃as rs m',HolesOk sg out as rs/\(w'.os=w.os/\w'.tape=w.tape/\Quiet w w'/\w.heap.size<=w'.heap.size)/\
   (∀b,b < w.heap.size-> ¬Mz m (z7 objs) b->w'.heap[b]? = w.heap[b]?)/\(∀b,Mz m' (z7 (sg.objs as rs)) b->Mz m (z7 objs) b\/w.heap.size<=b)/\(∀i,i < objs.length->m' i=m i)/\
   Sto X w' O m' (z7 (sg.objs as rs))/\relV w' (Ow O m' (z7 (sg.objs as rs))) m' (sg.r.toV as) v
def StM (X:Ctx) (C:Cfg) (M:Node->Option Out):Prop:=∀f args objs sgs sg out,C.sig f=some sgs->ja6 objs.length sgs=some sg->M (.callv f args objs)=some out->SOk X C.P f args objs sg out
def jjA (keep:Bool) (cs:List V) (n:Nat):List V × List Abs.Obj:=if keep then (cs,[]) else Yc cs n
theorem jwU (keep:Bool) (cs:List V) (n:Nat):KO (jjA keep cs n).2:=by
 unfold jjA;split
 ·intro o h;simp at h
 ·exact Zu cs n
theorem jwV {w:World} {O:Nat->Prop} {m:zV} (keep:Bool) (cs:List V) (n:Nat) (us:List Value) (h:∀i,n<=i->i < n+(jjA keep cs n).2.length->m i=some .none) (hr:jx w O m cs us):jx w O m (jjA keep cs n).1 us:=by
 unfold jjA at h ⊢;split at h
 ·rename_i hk;simp only [hk];exact hr
 ·rename_i hk;simp only [hk];exact Zv cs n us h hr
def jb9 (keep:Bool) (st:jB) (vs:List V):Option (List Nat × List V × List Abs.Obj × Nat):=
 let ids:=reach st 400 (je4 vs) []
 if jjf ids then
  match jjA keep (Z7 ids vs) ids.length with
  | (vs2,os1)=>(match Kj (ids.map λid=>jn3 ids (st id)) (ids.length+os1.length) with
   | (ob,os3)=>some (ids,vs2,ob++os1++os3,os1.length+os3.length))
 else none
def ji1:Abs.Obj->Bool
 | .dead=>false
 | .gone=>false
 | .tre f _ _=>f
 | _=>true
def Hb (ids:List Nat) (m:zV) (st:jB) (b:Nat):Prop:=∃id hd,id∈ids/\(st id).alive=true/\m id=some hd/\b∈hd.blocks
def jdJ (ids:List Nat) (p:Nat) (m:zV):zV:=λq=>if q < ids.length then (ids[q]?).bind m else if q < ids.length+p then some .none else none
theorem jnK {ids:List Nat} {p:Nat} {m:zV} {q id:Nat} (h:ids[q]? = some id):jdJ ids p m q=m id:=by
 have:=(List.getElem?_eq_some_iff.mp h).1;unfold jdJ;rw [jg this,h];rfl
theorem jDN {X:Ctx} {w:World} {O0:Nat->Prop} {m:zV} {st0 st:jB} {vs:List V} {ids:List Nat} {vs2:List V} {objs:List Abs.Obj} {p:Nat} {keep:Bool} (h:jb9 keep st0 vs=some (ids,vs2,objs,p)) (hlive:objs.all ji1=true)
  (hs:Sto X w O0 m st) (hag:∀id∈ids,st id=st0 id) {us:List Value} (hr:jx w (Ow O0 m st) m vs us) :
  ids.Nodup/\objs.length=ids.length+p/\(∀i,i < objs.length-> ∃h,jdJ ids p m i=some h/\h.fixed=true)/\(∀id∈ids,∃h,m id=some h)/\(∀b,Mz (jdJ ids p m) (z7 objs) b↔Hb ids m st b)/\
   Sto X w (λb=>Ow O0 m st b/\ ¬Hb ids m st b) (jdJ ids p m) (z7 objs)/\jx w (Ow (λb=>Ow O0 m st b/\ ¬Hb ids m st b) (jdJ ids p m) (z7 objs)) (jdJ ids p m) vs2 us:=by
 unfold jb9 at h;dsimp only at h;split at h;rotate_left
 ·cases h
 rename_i hnd;generalize reach st0 400 (je4 vs) []=ids' at h hnd;have hnd:=jfZ hnd;generalize e1:jjA keep (Z7 ids' vs) ids'.length=q1 at h;obtain ⟨vs2',os1⟩:=q1;dsimp only at h;generalize e3:Kj (ids'.map λid=>jn3 ids' (st0 id)) (ids'.length+os1.length)=q3 at h;obtain ⟨ob,os3⟩:=q3;simp only [zg,Jc] at h;obtain ⟨k1,k2,k3,k4⟩:=h;have k1:=k1.symm;subst k1;subst k2 k3 k4;have n1:KO os1:=by have:=jwU keep (Z7 ids vs) ids.length;rw [e1] at this;exact this
 generalize hmc:jdJ ids (os1.length+os3.length) m=mc;have m1:∀q id,ids[q]? = some id->mc q=m id:=λq id hq=>by rw [<-hmc];exact jnK hq
 have m2:∀q,ids.length<=q->q < ids.length+os1.length+os3.length->mc q=some .none:=λq h1 h2=>by
  rw [<-hmc];simp only [jdJ];rw [jf (by omega),jg (by omega)]
 have m3:∀q,ids.length+os1.length+os3.length<=q->mc q=none:=λq h1=>by
  rw [<-hmc];simp only [jdJ];rw [jf (by omega),jf (by omega)]
 generalize hst':z7 (ob++os1++os3)=st';generalize hO':(λb=>Ow O0 m st b/\ ¬Hb ids m st b)=O0';obtain ⟨l3,t1,t2,t3⟩:=jqL w (Ow O0' mc st') mc n1 e3 m2;rw [hst'] at t1 t2 t3;have hlen:(ob++os1++os3).length=ids.length+(os1.length+os3.length):=by simp;omega
 have hal:∀i,i < ids.length+os1.length+os3.length->ji1 (st' i)=true:=λi hi=>by
  rw [<-hst'];have:(ob++os1++os3)[i]? = some (ob++os1++os3)[i]:=kO (by omega);rw [ZA this];exact List.all_eq_true.mp hlive _ (jC _)
 have hst0:∀i id,ids[i]? = some id->ji1 (st id)=true/\(st' i).alive=(st id).alive:=λi id hi=>by
  have hl:=hal i (by have:=(List.getElem?_eq_some_iff.mp hi).1;omega)
  rw [hag id (Yd hi)];rcases t1 i id hi with h1|⟨cs,cs',h1,h2,_⟩
  ·rw [h1] at hl ⊢;refine ⟨?_,jjK⟩;cases ho:st0 id<;>rw [ho] at hl<;>simp [jn3,ji1] at hl ⊢ <;>exact hl
  ·rw [h1,h2];exact ⟨rfl,rfl⟩
 have hmid:∀id∈ids,∃h,m id=some h:=λid hid=>by
  obtain ⟨i,hi⟩:=List.mem_iff_getElem?.mp hid;have hl:=(hst0 i id hi).1;have ho:=hs.obj id;cases hc:st id<;>rw [hc] at hl ho
  ·cases hl
  ·cases hl
  all_goals (obtain ⟨hd,h1,_⟩:=ho;exact ⟨hd,h1⟩)
 have hmz:∀b,Mz mc st' b↔Hb ids m st b:=λb=>by
  constructor
  ·rintro ⟨i,hd,ha,hm,hb⟩;by_cases hi:i < ids.length
   ·have hg:ids[i]? = some ids[i]:=kO hi;exact ⟨ids[i],hd,jC _,by rw [<-(hst0 i _ hg).2];exact ha,by rw [<-m1 i _ hg];exact hm,hb⟩
   ·by_cases hi':i < ids.length+os1.length+os3.length
    ·rw [m2 i (by omega) hi'] at hm;cases hm;simp [Hd.blocks] at hb
    ·rw [m3 i (by omega)] at hm;cases hm
  ·rintro ⟨id,hd,hid,ha,hm,hb⟩;obtain ⟨i,hi⟩:=List.mem_iff_getElem?.mp hid;exact ⟨i,hd,by rw [(hst0 i id hi).2];exact ha,by rw [m1 i id hi];exact hm,hb⟩
 have hpick:=Sto.pick (X:=X) (w:=w) (O0':=O0') (m':=mc) (st':=st') hs (λb hb=>by
   rw [<-hO'];exact ⟨Or.inl (hs.jn b hb),λ⟨id,hd,_,ha,hm,hi⟩=>(hs.blk id hd b ha hm hi).2 (hs.jn b hb)⟩) (λb hb=>by rw [<-hO'] at hb;exact hb.1) (λi=>ids[i]?) (λi=> ?_)
   (λi i' id h1 h2 _ _=>(List.getElem?_inj (List.getElem?_eq_some_iff.mp h1).1 hnd).mp (h1.trans h2.symm))
   (λi id hd b h1 h2 h3 h4 hb=>by
    rw [<-hO'] at hb;exact hb.2 ⟨id,hd,Yd h1,by rw [<-(hst0 i id h1).2];exact h2,h3,h4⟩)
 rotate_left
 ·by_cases hi:i < ids.length
  ·have hg:ids[i]? = some ids[i]:=kO hi;have hag':=hag ids[i] (jC _);have hl:=(hst0 i _ hg).1;right;right;right;refine ⟨ids[i],hg,m1 i _ hg,?_⟩;rcases t1 i _ hg with h1|⟨cs,cs',h1,h2,h3⟩
   ·cases hc:st ids[i] with
    | dead=>rw [hc] at hl;cases hl
    | gone=>rw [hc] at hl;cases hl
    | box cs=>
     rw [<-hag',hc] at h1;refine Or.inr ⟨cs,_,rfl,h1,λhsub _ us hus=>ZT (MonoW.sub hsub) (λq id hq hd h=>by rw [m1 q id hq];exact h) _ _ hus⟩
    | row k xs=>rw [<-hag',hc] at h1;exact Or.inl ⟨⟨k,xs,Or.inl h1⟩,h1.symm⟩
    | fro k xs=>rw [<-hag',hc] at h1;exact Or.inl ⟨⟨k,xs,Or.inr (Or.inl h1)⟩,h1.symm⟩
    | tre f k xs=>rw [<-hag',hc] at h1;exact Or.inl ⟨⟨k,xs,Or.inr (Or.inr (Or.inl ⟨f,h1⟩))⟩,h1.symm⟩
    | map xs=>rw [<-hag',hc] at h1;exact Or.inl ⟨⟨0,xs,Or.inr (Or.inr (Or.inr h1))⟩,h1.symm⟩
   ·refine Or.inr ⟨cs,cs',by rw [hag',h1],h2,λhsub _ us hus=>h3 us (ZT (MonoW.sub hsub) (λq id hq hd h=>by rw [m1 q id hq];exact h) _ _ hus)⟩
  ·by_cases hi':i < ids.length+os1.length+os3.length
   ·obtain ⟨k,hk⟩:=t2 i (by omega) hi';exact Or.inr (Or.inr (Or.inl ⟨⟨k,Or.inl hk⟩,m2 i (by omega) hi'⟩))
   ·exact Or.inl ⟨t3 i (by omega),m3 i (by omega)⟩
 refine ⟨hnd,hlen,?_,hmid,hmz,hpick.1,?_⟩
 ·intro i hi;by_cases hi':i < ids.length
  ·have hg:ids[i]? = some ids[i]:=kO hi';rw [m1 i _ hg];obtain ⟨h,hh⟩:=hmid _ (jC hi');have hl:=(hst0 i _ hg).1;refine ⟨h,hh,hs.fixed hh (λk xs e=> ?_) λe=> ?_⟩
   ·rw [e] at hl;cases hl
   ·rw [e] at hl;cases hl
  ·exact ⟨.none,m2 i (by omega) (by omega),rfl⟩
 ·have hsub:∀b,Ow O0' mc st' b->Ow O0 m st b:=λb hb=>hb.elim (λh=>by rw [<-hO'] at h;exact h.1) λhb=>Or.inr (hpick.2 b hb)
  have g:=jwV keep _ ids.length _ (λi h1 h2=>m2 i h1 (by rw [e1] at h2;dsimp only at h2;omega)) (ZT (MonoW.sub hsub) (λq id hq hd h=>by rw [m1 q id hq];exact h) _ _ hr)
  rw [e1] at g;exact g
end
noncomputable section
def ups:Nat->Nat->List Nat
 | _,0=>[]
 | n,k+1=>n::ups (n+1) k
def jeO (st:jB):List Nat->List Rd
 | []=>[]
 | id::l=> .obj id (st id)::jeO st l
def jeM:List Nat->List Rd
 | []=>[]
 | id::l=> .fresh id::jeM l
def jgi:List Nat->List Abs.Obj->List Wr
 | id::l,o::os=> .obj id o::jgi l os
 | _,_=>[]
theorem jvI:∀ {k n i:Nat},i∈ups n k↔n<=i/\i < n+k
 | 0,n,i=>by simp only [ups,qK,j9,false_iff];omega
 | k+1,n,i=>by simp only [ups,jZ,jvI];omega
theorem jj4:∀(k n:Nat),(ups n k).length=k
 | 0,_=>rfl
 | k+1,n=>by simp [ups,jj4 k]
theorem jl0:∀(k n:Nat),(ups n k).Nodup
 | 0,_=>jkc
 | k+1,n=>List.nodup_cons.mpr ⟨λh=>by have:=jvI.mp h;omega,jl0 k _⟩
theorem jfU {st0 st:jB} :∀ {l:List Nat},(∀r∈jeO st0 l,yV st r)-> ∀id∈l,st id=st0 id
 | [],_,_,h=>by cases h
 | i::l,hg,id,h=>by
  rcases List.mem_cons.mp h with rfl|h
  ·exact hg (.obj id (st0 id)) (by simp [jeO])
  ·exact jfU (l:=l) (λr hr=>hg r (by simp [jeO,hr])) id h
theorem jdD {st:jB} :∀ {l:List Nat},∀r∈jeO st l,yV st r
 | [],_,h=>by cases h
 | i::l,r,h=>by
  simp only [jeO,jZ] at h;rcases h with rfl|h
  ·rfl
  ·exact jdD r h
theorem jfT {st:jB} :∀ {l:List Nat},(∀r∈jeM l,yV st r)-> ∀id∈l,st id = .dead
 | [],_,_,h=>by cases h
 | i::l,hg,id,h=>by
  rcases List.mem_cons.mp h with rfl|h
  ·exact hg (.fresh id) (by simp [jeM])
  ·exact jfT (l:=l) (λr hr=>hg r (by simp [jeM,hr])) id h
theorem jiA {st:jB} :∀ {l:List Nat},(∀id∈l,st id = .dead)-> ∀r∈jeM l,yV st r
 | [],_,_,h=>by cases h
 | i::l,hg,r,h=>by
  simp only [jeM,jZ] at h;rcases h with rfl|h
  ·exact hg i (by simp)
  ·exact jiA (λid hid=>hg id (by simp [hid])) r h
theorem jkW:∀(tot:List Nat) (os:List Abs.Obj) (st:jB),tot.Nodup->tot.length=os.length->
  (∀(q id:Nat) (o:Abs.Obj),tot[q]? = some id->os[q]? = some o->zi st (jgi tot os) id=o)/\(∀id,id ∉ tot->zi st (jgi tot os) id=st id)
 | [],_,st,_,_=>⟨λq id o h=>by simp at h,λ_ _=>rfl⟩
 | i::tot,[],st,_,h=>by cases h
 | i::tot,o::os,st,hn,hl=>by
  obtain ⟨hn1,hn2⟩:=List.nodup_cons.mp hn;obtain ⟨h1,h2⟩:=jkW tot os (upd st i o) hn2 (by simpa using hl);have e:zi st (jgi (i::tot) (o::os))=zi (upd st i o) (jgi tot os):=rfl;rw [e];refine ⟨λq id o' hq ho=> ?_,λid hid=> ?_⟩
  ·cases q with
   | zero=>
    simp at hq ho;subst hq ho;rw [h2 i hn1,jU]
   | succ q=>exact h1 q id o' (by simpa using hq) (by simpa using ho)
  ·rw [h2 id (λh=>hid (by simp [h])),upd_ne _ _ (λh=>hid (by simp [h]))]
theorem jyS {x:Nat} {l:List Nat} (hn:l.Nodup) {q:Nat} (h:l[q]? = some x):Qg x l 0=some q:=by
 cases hi:Qg x l 0 with
 | none=>
  exfalso;have:∀(l:List Nat) (i:Nat),Qg x l i=none->x ∉ l:=by
   intro l;induction l with
   | nil=>intro i _ h;cases h
   | cons y ys ih=>
    intro i hi hm;simp only [Qg] at hi;split at hi
    ·cases hi
    ·rename_i hb;rcases List.mem_cons.mp hm with rfl|hm
     ·simp at hb
     ·exact ih _ hi hm
  exact this l 0 hi (Yd h)
 | some j=>
  obtain ⟨q',e,h'⟩:=JX hi;have:=(List.getElem?_inj (List.getElem?_eq_some_iff.mp h').1 hn).mp (h'.trans h.symm);congr 1;omega
theorem jyT {x:Nat} {l:List Nat} (h:x ∉ l):Qg x l 0=none:=by
 cases hi:Qg x l 0 with
 | none=>rfl
 | some j=>
  obtain ⟨q,_,h'⟩:=JX hi;exact absurd (Yd h') h
theorem HolesOk.eq {sg:SigA} {o:Out} {as as':List A} {rs rs':List (List (List A))} (h:HolesOk sg o as rs) (h':HolesOk sg o as' rs'):as'=as/\rs'=rs:=by
 have la:=h.la;have la':=h'.la;have lr:=h.lr;have lr':=h'.lr;constructor
 ·refine jbh λi=> ?_;by_cases hi:i < sg.nd
  ·have e1:as[i]? = some as[i]:=kO (by omega);have e2:as'[i]? = some as'[i]:=kO (by omega);have:=(h.da i _ e1).symm.trans (h'.da i _ e2);rw [e1,e2];exact this.symm
  ·rw [y9 (by omega),y9 (by omega)]
 ·refine jbh λi=> ?_;by_cases hi:i < sg.ks.length
  ·have hi1:i < rs.length:=by omega
   have hi2:i < rs'.length:=by omega
   have e1:rs[i]? = some rs[i]:=kO hi1;have e2:rs'[i]? = some rs'[i]:=kO hi2;have e3:sg.ks[i]? = some sg.ks[i]:=kO hi;have:=(h.dr i _ _ e1 e3).symm.trans (h'.dr i _ _ e2 e3);rw [e1,e2];exact this.symm
  ·rw [y9 (by omega),y9 (by omega)]
theorem jnR {sg:SigA} {as:List A} {rs:List (List (List A))} {q:Nat} {o:Abs.Obj} (h:(sg.objs as rs)[q]? = some o):o≠ .dead:=by
 have:=Yd h;simp only [SigA.objs,SigA.objsB,kZ,zN] at this;rcases this with ⟨x,_,rfl⟩|⟨j,_,rfl⟩
 ·cases x with
  | cons=>intro h;cases h
  | io j=>exact jvu _ _ _
  | box l=>intro h;cases h
 ·exact jvu _ _ _
theorem zB.stcall {keep:Bool} {P:Program} {X:Ctx} {o:Oper} {ρ:Operand->V} {f:Operand} {xs:Array Operand} {ts:Array TypeId} (ho:o.op = .call { callee:= .value f,args:=xs,argTypes:=ts }) {g:FuncId} {st0:jB} {vs vs2:List V} {ids:List Nat} {objs:List Abs.Obj} {p:Nat} {sg:SigA} {out:Out}
  (hp:SOk X P g vs2 objs sg out) (hprep:jb9 keep st0 vs=some (ids,vs2,objs,p)) (hlive:objs.all ji1=true) (hws:sg.ws.length=objs.length)
  (hargs:∀(w:World) (O0:Nat->Prop) (m:zV) (st:jB) (ev:Operand->Value),Sto X w O0 m st->(∀x∈o.op.operands,relV w (Ow O0 m st) m (ρ x) (ev x))->
   ∃us:List Value,ev f = .func (.func g) #[] us.toArray/\jx w (Ow O0 m st) m vs (xs.toList.map ev++us))
  {as:List A} {rs:List (List (List A))} (hh:HolesOk sg out as rs) {nid:Nat} :
  zB P X o ρ ⟨bk (ids++ups nid (p+sg.nw.length)) (sg.r.toV as),jeO st0 ids++jeM (ups nid (p+sg.nw.length)),jgi (ids++ups nid (p+sg.nw.length)) ((sg.objs as rs).map (bkO (ids++ups nid (p+sg.nw.length))))⟩:=by
 intro w O0 m st ev hs hg hr _hc;have hag:=jfU (st0:=st0) (st:=st) (l:=ids) λr hr=>hg r (JA _ hr);have hfr:=jfT (st:=st) (l:=ups nid (p+sg.nw.length)) λr hr=>hg r (Kg _ hr);obtain ⟨us,h1,h2⟩:=hargs w O0 m st ev hs hr;obtain ⟨hnd,hlen,hsome,hmid,hmz,hsc,hrel⟩:=jDN hprep hlive hs hag h2;rw [Qj ho h1 hp.1 w];have e:(xs.toList.map ev++us).toArray=(xs.toList.map ev++us).toArray:=rfl;refine ⟨rfl,(hp.2 w _ _ _ hsc hsome hrel).mono ?_⟩;rintro e w' ⟨v,rfl,as',rs',mc',hh',⟨q1,q2,q3,q4⟩,hkeep,hnew,hsame,hs',hv⟩;obtain ⟨rfl,rfl⟩:=hh.eq hh';dsimp only [Qf];generalize hmc:jdJ ids p m=mc at *;generalize htot:ids++ups nid (p+sg.nw.length)=tot;generalize hobj:sg.objs as' rs'=objs' at *;have hol:objs'.length=tot.length:=by rw [<-hobj,<-htot];simp [SigA.objs,SigA.objsB,jj4,hws,hlen];omega
 have htn:tot.Nodup:=by
  rw [<-htot];refine List.nodup_append.mpr ⟨hnd,jl0 _ _,λa ha b hb e=> ?_⟩;subst e;obtain ⟨h,hh⟩:=hmid a ha;rw [hs.fresh a (hfr a hb)] at hh;cases hh
 obtain ⟨za,zb⟩:=jkW tot (objs'.map (bkO tot)) st htn (by simp [hol]);generalize hst2:zi st (jgi tot (objs'.map (bkO tot)))=st2 at *;have za:∀q id,tot[q]? = some id->st2 id=bkO tot (z7 objs' q):=λq id hq=>by
  have hlt:q < objs'.length:=by rw [hol];exact (List.getElem?_eq_some_iff.mp hq).1
  have:objs'[q]? = some objs'[q]:=kO hlt;rw [ZA this];exact za q id _ hq (by rw [Jv,this];rfl)
 refine ⟨v,rfl,λid=>match Qg id tot 0 with|some q=>mc' q|none=>m id,?_⟩;generalize hm2:((λid=>match Qg id tot 0 with|some q=>mc' q|none=>m id):zV)=m2;have ma:∀q id,tot[q]? = some id->m2 id=mc' q:=λq id hq=>by rw [<-hm2];simp only [jyS htn hq]
 have mb:∀id,id ∉ tot->m2 id=m id:=λid hid=>by rw [<-hm2];simp only [jyT hid]
 have tlt:∀q id,ids[q]? = some id->tot[q]? = some id:=λq id hq=>by rw [<-htot,K7 (List.getElem?_eq_some_iff.mp hq).1,hq]
 have idt:∀id∈ids,id∈tot:=λid h=>by rw [<-htot];exact JA _ h
 have mold:∀id∈ids,m2 id=m id:=λid hid=>by
  obtain ⟨q,hq⟩:=List.mem_iff_getElem?.mp hid;have hlt:=(List.getElem?_eq_some_iff.mp hq).1;rw [ma q id (tlt q id hq),hsame q (by omega),<-hmc];exact jnK hq
 have tot_or:∀id∈tot,id∈ids\/(m id=none/\st id = .dead):=λid h=>by
  rw [<-htot] at h;rcases List.mem_append.mp h with h|h
  ·exact Or.inl h
  ·exact Or.inr ⟨hs.fresh id (hfr id h),hfr id h⟩
 have apart:∀id hd b,id ∉ tot->(st id).alive=true->m id=some hd->b∈hd.blocks-> ¬Hb ids m st b:=λid hd b hid ha hm hi=>by
  rintro ⟨id',hd',h1,h2,h3,h4⟩;have:=hs.inj id id' hd hd' b ha h2 hm h3 hi h4;subst this;exact hid (idt _ h1)
 have mzlt:∀b,Mz m st b->b < w.heap.size:=λb ⟨id,hd,ha,hm,hi⟩=>(hs.blk id hd b ha hm hi).1;have hbmz:∀b,Hb ids m st b->Mz m st b:=λb ⟨id,hd,_,ha,hm,hi⟩=>⟨id,hd,ha,hm,hi⟩;have mz2:∀b,Mz m2 st2 b->Mz mc' (z7 objs') b\/(Mz m st b/\ ¬Hb ids m st b):=by
  rintro b ⟨id,hd,ha,hm,hi⟩;by_cases hid:id∈tot
  ·obtain ⟨q,hq⟩:=List.mem_iff_getElem?.mp hid;rw [za q id hq,QX] at ha;rw [ma q id hq] at hm;exact Or.inl ⟨q,hd,ha,hm,hi⟩
  ·rw [zb id hid] at ha;rw [mb id hid] at hm;exact Or.inr ⟨⟨id,hd,ha,hm,hi⟩,apart id hd b hid ha hm hi⟩
 have hkeep:∀b,b < w.heap.size-> ¬Hb ids m st b->w'.heap[b]? = w.heap[b]? :=λb hb hn=>hkeep b hb λh=>hn ((hmz b).mp h);have hnew:∀b,Mz mc' (z7 objs') b->Hb ids m st b\/w.heap.size<=b:=λb hb=>(hnew b hb).imp (hmz b).mp id;have hsub:∀b,Ow O0 m2 st2 b->Ow (λb=>Ow O0 m st b/\ ¬Hb ids m st b) mc' (z7 objs') b:=by
  rintro b (hb|hb)
  ·exact Or.inl ⟨Or.inl hb,λ⟨id,hd,_,ha,hm,hi⟩=>(hs.blk id hd b ha hm hi).2 hb⟩
  ·rcases mz2 b hb with hb|⟨h3,h4⟩
   ·exact Or.inr hb
   ·exact Or.inl ⟨Or.inr h3,h4⟩
 have hchg:Chg w m st w' m2 st2:=by
  refine ⟨q1,q2,q3,q4,λb hb hn=>hkeep b hb λh=>hn (hbmz b h),MLe.of ?_,?_⟩
  ·intro id h e;by_cases hid:id∈tot
   ·rcases tot_or id hid with h1|⟨h1,_⟩
    ·rw [mold id h1];exact e
    ·rw [h1] at e;cases e
   ·rw [mb id hid];exact e
  ·intro b hb;rcases mz2 b hb with hb|hb
   ·exact (hnew b hb).imp (hbmz b) (λh=>h)
   ·exact Or.inl hb.1
 have hbk:∀q id,tot[q]? = some id-> ∀hd,mc' q=some hd->m2 id=some hd:=λq id hq hd h=>by rw [ma q id hq];exact h
 refine ⟨hchg,hs.chg hchg ?_ ?_ ?_ ?_,jx4 (MonoW.sub hsub) hbk _ _ hv⟩
 ·intro id hd;by_cases hid:id∈tot
  ·obtain ⟨q,hq⟩:=List.mem_iff_getElem?.mp hid;rw [za q id hq] at hd;have hlt:q < objs'.length:=by rw [hol];exact (List.getElem?_eq_some_iff.mp hq).1
   have hget:objs'[q]? = some objs'[q]:=kO hlt;rw [ZA hget] at hd;have hne:=jnR (sg:=sg) (as:=as') (rs:=rs') (q:=q) (by rw [hobj];exact hget);exfalso;cases hc:objs'[q]<;>rw [hc] at hd hne<;>simp [bkO] at hd hne
  ·rw [zb id hid] at hd;rw [mb id hid];exact hs.fresh id hd
 ·intro id hd b ha hm hi;by_cases hid:id∈tot
  ·obtain ⟨q,hq⟩:=List.mem_iff_getElem?.mp hid;rw [za q id hq,QX] at ha;rw [ma q id hq] at hm;have:=hs'.blk q hd b ha hm hi;exact Or.inr ⟨this.1,λh=>this.2 ⟨Or.inl h,λ⟨id,hd,_,ha,hm,hi⟩=>(hs.blk id hd b ha hm hi).2 h⟩⟩
  ·rw [zb id hid] at ha;rw [mb id hid] at hm;exact Or.inl ⟨ha,hm⟩
 ·intro id id' hd hd' b ha ha' hm hm' hi hi';by_cases hid:id∈tot
  ·obtain ⟨q,hq⟩:=List.mem_iff_getElem?.mp hid;rw [za q id hq,QX] at ha;rw [ma q id hq] at hm;by_cases hid':id'∈tot
   ·obtain ⟨q',hq'⟩:=List.mem_iff_getElem?.mp hid';rw [za q' id' hq',QX] at ha';rw [ma q' id' hq'] at hm';have:=hs'.inj q q' hd hd' b ha ha' hm hm' hi hi';subst this;rw [hq] at hq';cases hq';rfl
   ·exfalso;rw [zb id' hid'] at ha';rw [mb id' hid'] at hm';rcases hnew b ⟨q,hd,ha,hm,hi⟩ with h|h
    ·exact apart id' hd' b hid' ha' hm' hi' h
    ·have:=(hs.blk id' hd' b ha' hm' hi').1;omega
  ·rw [zb id hid] at ha;rw [mb id hid] at hm;by_cases hid':id'∈tot
   ·exfalso;obtain ⟨q,hq⟩:=List.mem_iff_getElem?.mp hid';rw [za q id' hq,QX] at ha';rw [ma q id' hq] at hm';rcases hnew b ⟨q,hd',ha',hm',hi'⟩ with h|h
    ·exact apart id hd b hid ha hm hi h
    ·have:=(hs.blk id hd b ha hm hi).1;omega
   ·rw [zb id' hid'] at ha';rw [mb id' hid'] at hm';exact hs.inj id id' hd hd' b ha ha' hm hm' hi hi'
 ·intro id;by_cases hid:id∈tot
  ·right;obtain ⟨q,hq⟩:=List.mem_iff_getElem?.mp hid;rw [za q id hq,ma q id hq];have ho:=hs'.obj q;generalize z7 objs' q=oo at ho;cases oo with
   | dead=>trivial
   | gone=>trivial
   | box cs=>
    obtain ⟨hd,g1,g2⟩:=ho;refine ⟨hd,g1,?_⟩;cases hd with
    | none=>exact g2
    | tre=>exact g2.elim
    | mp=>exact g2.elim
    | blk b c n=>
     obtain ⟨cc,T,k1,k2,k3⟩:=g2;exact ⟨cc,T,k1,k2,jev (MonoW.sub hsub) hbk _ _ k3⟩
   | row k xs=>
    obtain ⟨hd,g1,g2⟩:=ho;exact ⟨hd,g1,jaT (MonoW.sub hsub) (λ_ _ _ _=>rfl) g2⟩
   | map xs=>
    obtain ⟨hd,g1,g2⟩:=ho;exact ⟨hd,g1,jdK (MonoW.sub hsub) (λ_ _=>rfl) g2⟩
   | fro k xs=>
    obtain ⟨hd,g1,g0,g2⟩:=ho;exact ⟨hd,g1,g0,λv hv=>yc (MonoW.sub hsub) _ _ (g2 v hv)⟩
   | tre f k xs=>exact ho
  ·left;refine ⟨zb id hid,mb id hid,λhd b ha hm hi=> ?_⟩;exact hkeep b (hs.blk id hd b ha hm hi).1 (apart id hd b hid ha hm hi)
end
open Go Go.RowKit Go.MapKept
noncomputable section
section
variable {P:Program} {X:Ctx} {o:Oper} {ρ:Operand->V} {C:Cfg}
def jer (st:jB) (ws:List Wr):Prop:=∀w∈ws,∃id k xs,w = .obj id (.fro k xs)/\(st id = .row k xs\/st id = .fro k xs)
theorem jvx {w:World} {O0:Nat->Prop} {m:zV} :∀(ws:List Wr) (st:jB),Sto X w O0 m st->jer st ws->
  Sto X w O0 m (zi st ws)/\Chg w m st w m (zi st ws)/\(∀b,Ow O0 m (zi st ws) b->Ow O0 m st b)/\(∀id k xs,Wr.obj id (.fro k xs)∈ws->zi st ws id = .fro k xs)/\
   (∀id,(∀k xs,Wr.obj id (.fro k xs) ∉ ws)->zi st ws id=st id)
 | [],st,hs,_=>⟨hs,Chg.refl _ _ _,λ_ h=>h,(λ_ _ _ h=>by cases h),λ_ _=>rfl⟩
 | x::ws,st,hs,hw=>by
  obtain ⟨id,k,xs,rfl,h1⟩:=hw x (by simp);have hs1:Sto X w O0 m (app st (.obj id (.fro k xs)))/\Chg w m st w m (app st (.obj id (.fro k xs)))/\(∀b,Ow O0 m (app st (.obj id (.fro k xs))) b->Ow O0 m st b):=by
   show Sto X w O0 m (upd st id (.fro k xs))/\_;rcases h1 with h1|h1
   ·exact ⟨hs.freeze h1,Chg.ghost (λh=>(by cases h)),jfJ (λh=>(by cases h))⟩
   ·have e:upd st id (.fro k xs)=st:=by
     funext i;by_cases e:i=id
     ·subst e;rw [jU,h1]
     ·rw [upd_ne _ _ e]
    show _/\Chg w m st w m (upd st id (.fro k xs))/\ ∀b,Ow O0 m (upd st id (.fro k xs)) b->_;rw [e];exact ⟨hs,Chg.refl _ _ _,λ_ h=>h⟩
  have hw':jer (app st (.obj id (.fro k xs))) ws:=by
   intro y hy;obtain ⟨id',k',xs',rfl,h2⟩:=hw y (by simp [hy]);refine ⟨id',k',xs',rfl,?_⟩;show upd st id (.fro k xs) id'=_\/upd st id (.fro k xs) id'=_;by_cases e:id'=id
   ·subst e;right;rw [jU];rcases h1 with h1|h1<;>rcases h2 with h2|h2<;>rw [h1] at h2<;>cases h2<;>rfl
   ·rw [upd_ne _ _ e];exact h2
  obtain ⟨a1,a2,a3,a4,a5⟩:=jvx ws _ hs1.1 hw';refine ⟨a1,hs1.2.1.trans a2,λb hb=>hs1.2.2 b (a3 b hb),?_,?_⟩
  ·intro id' k' xs' hm;by_cases hin:Wr.obj id' (.fro k' xs')∈ws
   ·exact a4 id' k' xs' hin
   ·rcases jZ.1 hm with hm|hm
    ·simp only [Wr.obj.injEq,Obj.fro.injEq] at hm;obtain ⟨rfl,rfl,rfl⟩:=hm;by_cases hin2:∃k2 xs2,Wr.obj id' (.fro k2 xs2)∈ws
     ·obtain ⟨k2,xs2,hin2⟩:=hin2;obtain ⟨id3,k3,xs3,e3,h3⟩:=hw _ (JR _ hin2);cases e3;have:(.fro k' xs':Obj) = .fro k2 xs2:=by
       rcases h1 with h1|h1<;>rcases h3 with h3|h3<;>rw [h1] at h3<;>cases h3<;>rfl
      cases this;exact absurd hin2 hin
     ·show zi (app st _) ws id'=_;rw [a5 id' λk2 xs2 h2=>hin2 ⟨k2,xs2,h2⟩];exact jU _ _ _
    ·exact absurd hm hin
  ·intro id' hn;show zi (app st _) ws id'=_;rw [a5 id' λk2 xs2 h2=>hn k2 xs2 (by simp [h2])];exact upd_ne _ _ λe=>hn k xs (by subst e;simp)
def JM (st:jB):List V->Option (List A × List Rd × List Wr)
 | []=>some ([],[],[])
 | .d a::cs=>(match JM st cs with|some (as,r,w)=>some (a::as,r,w)|none=>none)
 | .nil k::cs=>(match JM st cs with|some (as,r,w)=>some (.sl k []::as,r,w)|none=>none)
 | .row id::cs=>(match JM st cs with
  | some (as,r,w)=>(match st id with
   | .row k xs=>some (.sl k xs::as,.obj id (.row k xs)::r,.obj id (.fro k xs)::w)
   | .fro k xs=>some (.sl k xs::as,.obj id (.fro k xs)::r,w)
   | _=>none)
  | none=>none)
 | _::_=>none
theorem Kx {st st':jB} :∀ {cs:List V} {as:List A} {r:List Rd} {ws:List Wr},JM st cs=some (as,r,ws)->(∀x∈r,yV st' x)->jer st' ws
 | [],as,r,ws,h,_=>by simp only [JM,zg,Jc] at h;obtain ⟨_,_,rfl⟩:=h;intro w hw;cases hw
 | c::cs,as,r,ws,h,hg=>by
  cases c<;>simp only [JM,reduceCtorEq] at h
  case d a=>
   split at h
   ·rename_i h1;cases h;exact Kx h1 hg
   ·cases h
  case nil k=>
   split at h
   ·rename_i h1;cases h;exact Kx h1 hg
   ·cases h
  case row id=>
   split at h
   ·rename_i as' r' w' h1;split at h
    ·rename_i k xs h2;cases h;intro w hw;rcases jZ.1 hw with rfl|hw
     ·exact ⟨id,k,xs,rfl,Or.inl (hg (.obj id (.row k xs)) (by simp))⟩
     ·exact Kx h1 (λx hx=>hg x (by simp [hx])) w hw
    ·cases h;exact Kx h1 λx hx=>hg x (by simp [hx])
    ·cases h
   ·cases h
theorem Zz {st:jB} :∀ {cs:List V} {as:List A} {r:List Rd} {ws:List Wr},JM st cs=some (as,r,ws)-> ∀x∈r,yV st x
 | [],as,r,ws,h=>by simp only [JM,zg,Jc] at h;obtain ⟨_,rfl,_⟩:=h;simp
 | c::cs,as,r,ws,h=>by
  cases c<;>simp only [JM,reduceCtorEq] at h
  case d a=>
   split at h
   ·rename_i h1;cases h;exact Zz h1
   ·cases h
  case nil k=>
   split at h
   ·rename_i h1;cases h;exact Zz h1
   ·cases h
  case row id=>
   split at h
   ·rename_i as' r' w' h1;split at h
    ·rename_i k xs h2;cases h;intro x hx;rcases jZ.1 hx with rfl|hx
     ·exact h2
     ·exact Zz h1 x hx
    ·rename_i k xs h2;cases h;intro x hx;rcases jZ.1 hx with rfl|hx
     ·exact h2
     ·exact Zz h1 x hx
    ·cases h
   ·cases h
theorem YB {st0 st st1:jB} {w:World} {O0:Nat->Prop} {m:zV} (hs1:Sto X w O0 m st1) (hsub:∀b,Ow O0 m st1 b->Ow O0 m st b):∀ {cs:List V} {as:List A} {r:List Rd} {ws:List Wr} {us:List Value},
  JM st0 cs=some (as,r,ws)->(∀x∈r,yV st x)->(∀id k xs,Wr.obj id (.fro k xs)∈ws->st1 id = .fro k xs)->(∀id k xs,st id = .fro k xs->st1 id = .fro k xs)->jx w (Ow O0 m st) m cs us->jS w (Ow O0 m st1) as us
 | [],as,r,ws,us,h,_,_,_,hr=>by simp only [JM,zg,Jc] at h;obtain ⟨rfl,_,_⟩:=h;simpa [jx,jS] using hr
 | c::cs,as,r,ws,us,h,hg,h1,h2,hr=>by
  cases c<;>simp only [JM,reduceCtorEq] at h
  case d a=>
   split at h
   ·rename_i h3;cases h;simp only [jx,relV] at hr;obtain ⟨v,t,rfl,g1,g2⟩:=hr;simp only [jS];exact ⟨v,t,rfl,yc (MonoW.sub hsub) _ _ g1,YB hs1 hsub h3 hg h1 h2 g2⟩
   ·cases h
  case nil k=>
   split at h
   ·rename_i h3;cases h;simp only [jx,relV] at hr;obtain ⟨v,t,rfl,⟨a,rfl⟩,g2⟩:=hr;simp only [jS,rel];exact ⟨_,t,rfl,⟨a,0,rfl,by simp,by omega,Or.inl trivial⟩,YB hs1 hsub h3 hg h1 h2 g2⟩
   ·cases h
  case row id=>
   simp only [jx] at hr;obtain ⟨v,t,rfl,g1,g2⟩:=hr;have key:∀k xs,st1 id = .fro k xs->rel w (Ow O0 m st1) (.sl k xs) v:=λk xs hf=>by
    refine ZG hs1 hf ?_;simp only [relV] at g1 ⊢;exact g1
   split at h
   ·rename_i as' r' w' h3;split at h
    ·rename_i k xs h4;cases h;simp only [jS];exact ⟨v,t,rfl,key k xs (h1 id k xs (by simp)),YB hs1 hsub h3 (λx hx=>hg x (by simp [hx])) (λid' k' xs' hm=>h1 id' k' xs' (by simp [hm])) h2 g2⟩
    ·rename_i k xs h4;cases h;simp only [jS];exact ⟨v,t,rfl,key k xs (h2 id k xs (hg (.obj id (.fro k xs)) (by simp))),YB hs1 hsub h3 (λx hx=>hg x (by simp [hx])) h1 h2 g2⟩
    ·cases h
   ·cases h
theorem jo1 (st:jB) (a b:List Wr):zi st (a++b)=zi (zi st a) b:=by simp [zi]
theorem jlN {st0 st:jB} {w:World} {O0:Nat->Prop} {m:zV} (hs:Sto X w O0 m st) {cs:List V} {as:List A} {r:List Rd} {ws:List Wr} {us:List Value} (h:JM st0 cs=some (as,r,ws)) (hg:∀x∈r,yV st x) (hr:jx w (Ow O0 m st) m cs us) :
  Sto X w O0 m (zi st ws)/\Chg w m st w m (zi st ws)/\jS w (Ow O0 m (zi st ws)) as us/\(∀b,Ow O0 m (zi st ws) b->Ow O0 m st b)/\(∀id,st id = .dead->zi st ws id = .dead)/\
   (∀id k xs,st id = .row k xs->zi st ws id = .row k xs\/zi st ws id = .fro k xs)/\(∀id cs,st id = .box cs->zi st ws id = .box cs)/\(∀id k xs,st id = .fro k xs->zi st ws id = .fro k xs):=by
 have hab:=Kx h hg;obtain ⟨a1,a2,a3,a4,a5⟩:=jvx ws st hs hab;have key:∀id,zi st ws id=st id\/ ∃k xs,zi st ws id = .fro k xs/\(st id = .row k xs\/st id = .fro k xs):=by
  intro id;by_cases hin:∃k xs,Wr.obj id (.fro k xs)∈ws
  ·obtain ⟨k,xs,hin⟩:=hin;obtain ⟨id',k',xs',e,h1⟩:=hab _ hin;cases e;exact Or.inr ⟨k,xs,a4 id k xs hin,h1⟩
  ·exact Or.inl (a5 id λk xs hh=>hin ⟨k,xs,hh⟩)
 have hfro:∀id k xs,st id = .fro k xs->zi st ws id = .fro k xs:=λid k xs hh=>by
  rcases key id with e|⟨k',xs',e,h1⟩
  ·rw [e,hh]
  ·rcases h1 with h1|h1<;>rw [hh] at h1<;>cases h1<;>exact e
 refine ⟨a1,a2,YB a1 a3 h hg a4 hfro hr,a3,λid hd=> ?_,λid k xs hh=> ?_,λid cs hh=> ?_,hfro⟩
 ·rcases key id with e|⟨k',xs',e,h1⟩
  ·rw [e,hd]
  ·rcases h1 with h1|h1<;>rw [hd] at h1<;>cases h1
 ·rcases key id with e|⟨k',xs',e,h1⟩
  ·exact Or.inl (by rw [e,hh])
  ·rcases h1 with h1|h1<;>rw [hh] at h1<;>cases h1<;>exact Or.inr e
 ·rcases key id with e|⟨k',xs',e,h1⟩
  ·rw [e,hh]
  ·rcases h1 with h1|h1<;>rw [hh] at h1<;>cases h1
theorem jqj {w w':World} {O0:Nat->Prop} {m:zV} {st:jB} (hs:Sto X w O0 m st) (hb:Below w.heap.size w w') {nid:Nat} (hf:st nid = .dead) {o:Obj} {hd:Hd} (hnew:∀b∈hd.blocks,w.heap.size<=b) :
  MonoW w (Ow O0 m st) w' (Ow O0 (upd m nid (some hd)) (upd st nid o))/\MLe m (upd m nid (some hd)):=by
 have hm:=hs.fresh nid hf;have hmz:∀b,Ow O0 (upd m nid (some hd)) (upd st nid o) b->Ow O0 m st b\/w.heap.size<=b:=by
  rintro b (h|⟨i,hd',ha,hmi,hi⟩)
  ·exact Or.inl (Or.inl h)
  ·by_cases e:i=nid
   ·subst e;rw [jU] at hmi;cases hmi;exact Or.inr (hnew b hi)
   ·rw [upd_ne _ _ e] at ha hmi;exact Or.inl (Or.inr ⟨i,hd',ha,hmi,hi⟩)
 refine ⟨⟨hb.size,λb h _=>hb.block b h,λb h hn ho=>by rcases hmz b ho with h1|h1;exact hn h1;omega⟩,MLe.of λid h e=> ?_⟩
 have:id≠nid:=λe'=>by subst e';rw [hm] at e;cases e
 rw [upd_ne _ _ this];exact e
theorem jgW {w w':World} {O0:Nat->Prop} {m:zV} {st:jB} (hs:Sto X w O0 m st) (hb:Below w.heap.size w w') (hsz:w.heap.size < w'.heap.size) {nid:Nat} (hf:st nid = .dead) {cs:List V} {c:Array Value} {T:TypeId}
  (hc:w'.heap[w.heap.size]? = some (.cells c T (0,0))) (ho:jJ c.toList) (hr:jx w (Ow O0 m st) m cs c.toList) :
  Qf X w O0 m st [.obj nid (.box cs)] (.ptr nid 0) w' (.pointer (some ⟨w.heap.size,0,none⟩)):=by
 have hnew:∀b∈(Hd.blk w.heap.size 0 0).blocks,w.heap.size<=b:=λb e=>by rw [jew e];exact kz _
 obtain ⟨hmono,hext⟩:=jqj hs hb hf (o:= .box cs) hnew;obtain ⟨k1,k2⟩:=jnO hs hb hf (hd:= .blk w.heap.size 0 0) (o:= .box cs) (λh=>by cases h) (λb e=>by rw [jew e];exact ⟨kz _,hsz⟩) ⟨_,rfl,c,T,hc,ho,Kv hmono hext _ _ hr⟩;exact ⟨_,k1,k2,by simp only [relV];exact ⟨_,_,_,jU _ _ _,rfl⟩⟩
def jFA (w w':World) (O:Nat->Prop) (k:Nat) (xs:List (List A)) (hd:Hd):Prop:=
 (hd = .none/\xs = [])\/ ∃cap c T,hd = .blk w.heap.size cap xs.length/\w.heap.size < w'.heap.size/\xs.length<=cap/\cap<=9223372036854775807/\(∀x∈xs,x.length=k)/\w'.heap[w.heap.size]? = some (.cells c T (0,0))/\
   c.size=cap * k/\jJ (c.toList.take (xs.length * k))/\jS w O xs.flatten (c.toList.take (xs.length * k))
theorem JK {w w':World} {O0:Nat->Prop} {m:zV} {st:jB} (hs:Sto X w O0 m st) (hb:Below w.heap.size w w') {nid:Nat} (hf:st nid = .dead) {k:Nat} {xs:List (List A)} {hd:Hd} {v:Value} (hv:hdr hd v)
  (hr:jFA w w' (Ow O0 m st) k xs hd):Qf X w O0 m st [.obj nid (.row k xs)] (.row nid) w' v:=by
 have hnew:∀b∈hd.blocks,w.heap.size<=b/\b < w'.heap.size:=λb e=>by
  rcases hr with ⟨rfl,_⟩|⟨cap,c',T,rfl,h1,_⟩
  ·simp [Hd.blocks] at e
  ·rw [jew e];exact ⟨kz _,h1⟩
 obtain ⟨hmono,hext⟩:=jqj hs hb hf (o:= .row k xs) (hd:=hd) λb e=>(hnew b e).1;obtain ⟨k1,k2⟩:=jnO hs hb hf (hd:=hd) (o:= .row k xs) (λh=>by cases h) hnew ⟨hd,rfl,by
  rcases hr with ⟨rfl,rfl⟩|⟨cap,c,T,rfl,h1,h2,h3,h4,h5,h6,h7,h8⟩
  ·simp [rowOk]
  ·exact ⟨rfl,h2,h3,h4,c,T,h5,h6,h7,zv hmono _ _ h8⟩⟩
 exact ⟨_,k1,k2,by simp only [relV];exact ⟨_,jU _ _ _,hv⟩⟩
theorem Qf.after {w w':World} {O0:Nat->Prop} {m:zV} {st:jB} {ws ws':List Wr} {v:V} {u:Value} (hc:Chg w m st w m (zi st ws)) (h:Qf X w O0 m (zi st ws) ws' v w' u):Qf X w O0 m st (ws++ws') v w' u:=by
 obtain ⟨m',h1,h2,h3⟩:=h;rw [<-jo1] at h1 h2 h3;exact ⟨m',hc.trans h1,h2,h3⟩
theorem jaV (P:Program) {w:World} {b:Nat} {c:Array Value} {T:TypeId} (h:w.heap[b]? = some (.cells c T (0,0))) (off:Nat) (vs:List Value) (hl:off+vs.length<=c.size) (h1:jJ vs) :
  ∃W:World,(storeCells ⟨b,off,none⟩ vs).run P w = .ok () W/\W.os=w.os/\W.tape=w.tape/\Quiet w W/\W.heap.size=w.heap.size/\(∀b',b'≠b->W.heap[b']? = w.heap[b']?)/\
   W.heap[b]? = some (.cells (over c.toList off vs).toArray T (0,0)):=by
 have hst:=run_storeCells_at P b off T vs 0 c w h (by omega) h1;simp only [j9] at hst;exact ⟨_,hst,rfl,rfl,(Quiet.refl _),by simp,λb' hne=>setRow_other w b b' _ hne,setRow_heap w b c _ T _ h⟩
theorem jjz {w W:World} {O0:Nat->Prop} {m:zV} {st:jB} (hs:Sto X w O0 m st) {id b:Nat} {hd:Hd} (ha:(st id).alive=true) (hm:m id=some hd) (hi:b∈hd.blocks) {o':Obj} (ha':o'.alive=true)
  (w1:W.os=w.os) (w2:W.tape=w.tape) (w3:Quiet w W) (w4:W.heap.size=w.heap.size) (w5:∀b',b'≠b->W.heap[b']? = w.heap[b']?)
  (hok:MonoW w (Ow O0 m st) W (Ow O0 m (upd st id o'))->jdc W (Ow O0 m (upd st id o')) m o' (m id)):Chg w m st W m (upd st id o')/\Sto X W O0 m (upd st id o'):=by
 have hMz:∀b',Mz m (upd st id o') b'->Mz m st b':=λb'=>jsp λ_=>ha;have hchg:Chg w m st W m (upd st id o'):=
  ⟨w1,w2,w3,by omega,λb' _ hn=>w5 b' λe=>hn (by subst e;exact ⟨id,hd,ha,hm,hi⟩),MLe.refl m,λb' h=>Or.inl (hMz b' h)⟩
 have al:∀i,(upd st id o' i).alive=true->(st i).alive=true:=λi h=>by
  by_cases e:i=id
  ·subst e;exact ha
  ·rwa [upd_ne _ _ e] at h
 refine ⟨hchg,hs.chg hchg ?_ (λi hd' b' h1 h2 _=>Or.inl ⟨al i h1,h2⟩) (λi i' hd1 hd2 b' h1 h2=>hs.inj i i' hd1 hd2 b' (al i h1) (al i' h2)) ?_⟩
 ·intro i h;by_cases e:i=id
  ·subst e;rw [jU] at h;rw [h] at ha';cases ha'
  ·rw [upd_ne _ _ e] at h;exact hs.fresh i h
 ·intro i;by_cases e:i=id
  ·subst e;rw [jU];exact Or.inr (hok (hchg.monoW O0))
  ·rw [upd_ne _ _ e];refine Or.inl ⟨rfl,rfl,λhd' b' h1 h2 h3=>w5 b' λe'=>e ?_⟩;subst e';exact hs.inj i id hd' hd b' h1 ha h2 hm h3 hi
theorem jf9 {w W:World} {O0:Nat->Prop} {m:zV} {st:jB} (hs:Sto X w O0 m st) {id b c n:Nat} (ha:(st id).alive=true) (hm:m id=some (.blk b c n)) {o':Obj} (ha':o'.alive=true)
  (w1:W.os=w.os) (w2:W.tape=w.tape) (w3:Quiet w W) (w4:W.heap.size=w.heap.size) (w5:∀b',b'≠b->W.heap[b']? = w.heap[b']?)
  (hok:MonoW w (Ow O0 m st) W (Ow O0 m (upd st id o'))->jdc W (Ow O0 m (upd st id o')) m o' (m id)):Chg w m st W m (upd st id o')/\Sto X W O0 m (upd st id o'):=
 jjz hs ha hm Ko ha' w1 w2 w3 w4 w5 hok
theorem jAi {w:World} {O0:Nat->Prop} {m:zV} {st:jB} (hs:Sto X w O0 m st) {id nid:Nat} (hne:id≠nid) (hal:(st id).alive=true) (hf:st nid = .dead) {hd hd':Hd} (hm:m id=some hd)
  (hsub:∀b∈hd'.blocks,b∈hd.blocks) {o:Obj} (ho:o≠ .dead)
  (hok:MonoW w (Ow O0 m st) w (Ow O0 (upd m nid (some hd')) (upd (upd st id .gone) nid o))->jdc w (Ow O0 (upd m nid (some hd')) (upd (upd st id .gone) nid o)) (upd m nid (some hd')) o (some hd')) :
  Chg w m st w (upd m nid (some hd')) (upd (upd st id .gone) nid o)/\Sto X w O0 (upd m nid (some hd')) (upd (upd st id .gone) nid o):=by
 have hmn:=hs.fresh nid hf;have sid:upd (upd st id .gone) nid o id = .gone:=by rw [upd_ne _ _ hne,jU]
 have oth:∀i,i≠id->i≠nid->upd (upd st id .gone) nid o i=st i/\upd m nid (some hd') i=m i:=λi h1 h2=>by
  rw [upd_ne _ _ h2,upd_ne _ _ h1,upd_ne _ _ h2];exact ⟨rfl,rfl⟩
 have hchg:Chg w m st w (upd m nid (some hd')) (upd (upd st id .gone) nid o):=by
  refine ⟨rfl,rfl,(Quiet.refl _),kz _,λ_ _ _=>rfl,MLe.of λi h e=> ?_,λb hb=>Or.inl ?_⟩
  ·have:i≠nid:=λe'=>by subst e';rw [hmn] at e;cases e
   rw [upd_ne _ _ this];exact e
  ·obtain ⟨i,hi,h1,h2,h3⟩:=hb;by_cases e1:i=nid
   ·subst e1;rw [jU] at h2;cases h2;exact ⟨id,hd,hal,hm,hsub b h3⟩
   ·by_cases e2:i=id
    ·subst e2;rw [sid] at h1;cases h1
    ·obtain ⟨g1,g2⟩:=oth i e2 e1;rw [g1] at h1;rw [g2] at h2;exact ⟨i,hi,h1,h2,h3⟩
 refine ⟨hchg,hs.chg hchg ?_ ?_ ?_ ?_⟩
 ·intro i h;by_cases e1:i=nid
  ·subst e1;rw [jU] at h;exact (ho h).elim
  ·by_cases e2:i=id
   ·subst e2;rw [sid] at h;cases h
   ·obtain ⟨g1,g2⟩:=oth i e2 e1;rw [g1] at h;rw [g2];exact hs.fresh i h
 ·intro i hi b h1 h2 h3;by_cases e1:i=nid
  ·subst e1;rw [jU] at h2;cases h2;exact Or.inr (hs.blk id hd b hal hm (hsub b h3))
  ·by_cases e2:i=id
   ·subst e2;rw [sid] at h1;cases h1
   ·obtain ⟨g1,g2⟩:=oth i e2 e1;rw [g1] at h1;rw [g2] at h2;exact Or.inl ⟨h1,h2⟩
 ·have key:∀i hi b,i≠nid->(upd (upd st id .gone) nid o i).alive=true->upd m nid (some hd') i=some hi->b∈hi.blocks->b∈hd'.blocks->False:=by
   intro i hi b e1 h1 h2 h3 h4;by_cases e2:i=id
   ·subst e2;rw [sid] at h1;cases h1
   ·obtain ⟨g1,g2⟩:=oth i e2 e1;rw [g1] at h1;rw [g2] at h2;exact e2 (hs.inj i id hi hd b h1 hal h2 hm h3 (hsub b h4))
  intro i i' hi hi' b h1 h2 h3 h4 h5 h6;by_cases e1:i=nid
  ·by_cases e2:i'=nid
   ·rw [e1,e2]
   ·subst e1;rw [jU] at h3;cases h3;exact (key i' hi' b e2 h2 h4 h6 h5).elim
  ·by_cases e2:i'=nid
   ·subst e2;rw [jU] at h4;cases h4;exact (key i hi b e1 h1 h3 h5 h6).elim
   ·by_cases e3:i=id
    ·subst e3;rw [sid] at h1;cases h1
    ·by_cases e4:i'=id
     ·subst e4;rw [sid] at h2;cases h2
     ·obtain ⟨g1,g2⟩:=oth i e3 e1;obtain ⟨g3,g4⟩:=oth i' e4 e2;rw [g1] at h1;rw [g3] at h2;rw [g2] at h3;rw [g4] at h4;exact hs.inj i i' hi hi' b h1 h2 h3 h4 h5 h6
 ·intro i;by_cases e1:i=nid
  ·subst e1;right;rw [jU,jU];exact hok (hchg.monoW O0)
  ·by_cases e2:i=id
   ·subst e2;right;rw [sid];trivial
   ·obtain ⟨g1,g2⟩:=oth i e2 e1;exact Or.inl ⟨g1,g2,λ_ _ _ _ _=>rfl⟩
def jcN (id off:Nat):List V->List Wr
 | []=>[]
 | c::cs=> .cell id off c::jcN id (off+1) cs
theorem jwF {α:Type} {cs:List α} {off:Nat} {d:α} {ds:List α} (h:off+1+ds.length<=cs.length):over (cs.set off d) (off+1) ds=over cs off (d::ds):=by
 unfold over;exact jbY cs off d ds h
theorem jet {id:Nat} :∀ {ds:List V} {off:Nat} {st:jB} {cs:List V},st id = .box cs->off+ds.length<=cs.length->zi st (jcN id off ds)=upd st id (.box (over cs off ds))
 | [],off,st,cs,h,_=>by
  funext i;show st i=_;by_cases e:i=id
  ·subst e;rw [jU,h];simp [over]
  ·rw [upd_ne _ _ e]
 | d::ds,off,st,cs,h,hl=>by
  have h1:app st (.cell id off d)=upd st id (.box (cs.set off d)):=by
   show upd st id (Wr.on _ (st id))=_;rw [h];rfl
  show zi (app st (.cell id off d)) (jcN id (off+1) ds)=_;rw [h1,jet (cs:=cs.set off d) (jU _ _ _) (by simp at hl ⊢;omega),jj3,jwF (by simp at hl;omega)]
theorem ZR {α:Type} {cs ds:List α} {off:Nat} (h:off+ds.length<=cs.length):(over cs off ds).length=cs.length:=by
 simp [over];omega
theorem jcZ {α:Type} (l us:List α) (n off:Nat) (h:off+us.length<=n) (hn:n<=l.length) :
  (over l off us).take n=over (l.take n) off us:=by
 unfold over;have a1:(l.take off).length=off:=by simp;omega
 rw [List.take_append,Zd (by simp [a1];omega),List.take_take,ja4 (by omega),List.drop_take]
 congr 2;simp [a1]
theorem Zo {α:Type} {k:Nat} :∀(xs:List (List α)) (i j:Nat) (x ds:List α),(∀y∈xs,y.length=k)->xs[i]? = some x->j+ds.length<=x.length->
  (xs.set i (over x j ds)).flatten=over xs.flatten (i * k+j) ds
 | [],i,j,x,ds,_,h,_=>by simp at h
 | y::xs,i,j,x,ds,hk,h,hl=>by
  have hy:=hk y (by simp);cases i with
  | zero=>
   simp at h;subst h;simp only [jrO,J6,over,Nat.zero_mul,yd];rw [ja2 (by omega),List.drop_append_of_le_length (by omega)];simp [yv]
  | succ i=>
   simp at h;have ih:=Zo xs i j x ds (λz hz=>hk z (by simp [hz])) h hl;rw [jrP,J6,J6,ih];unfold over;have e1:(i+1) * k+j=y.length+(i * k+j):=by rw [yF];omega
   have e2:(i+1) * k+j+ds.length=y.length+(i * k+j+ds.length):=by omega
   rw [e2,e1,List.take_length_add_append,List.drop_length_add_append];simp [yv]
theorem zB.storeBox {t:TypeId} {a x:Operand} (ho:o.op = .store t a x) {i:TI} (hi:TI.ok P t i) {id off len:Nat} (ha:ρ a = .ptr id off) {ds:List V}
  (hx:∀(w:World) (O:Nat->Prop) (m:zV) (u:Value),relV w O m (ρ x) u->jx w O m ds u.cells.toList/\jJ u.cells.toList) (hsz:ds.length=i.size) (hl:off+ds.length<=len) :
  zB P X o ρ ⟨.d (.val undef),[.blen id len],jcN id off ds⟩:=by
 intro w O0 m st ev hs hg hr _hc;have ha':=hr a (by simp [ho,Op.operands]);have hx':=hr x (by simp [ho,Op.operands]);rw [ha] at ha';simp only [relV] at ha';obtain ⟨b,c,n,h1,h2⟩:=ha';obtain ⟨h3,h4⟩:=hx _ _ _ _ hx';obtain ⟨cs,g1,g2⟩:=hg _ (ku.2 rfl);have hob:=hs.obj id;rw [g1] at hob;obtain ⟨hd,q1,q2⟩:=hob;rw [h1] at q1;cases q1;obtain ⟨cc,T,q3,q4,q5⟩:=q2;have l1:=yf h3;have l2:=yf q5;obtain ⟨W,hst,w1,w2,w3,w4,w5,w6⟩:=jaV P q3 off (ev x).cells.toList (by simp only [jao] at l1 l2 ⊢;omega) h4;have hrun:(execOp ev o).run P w = .ok .skip W:=by
  have hsize:(ev x).cells.size=i.size:=by rw [<-hsz];simpa using l1
  simp only [execOp,ho,Instr.storeAt,h2,Instr.sureAddr,storeVar,yz,yG,ym,hi.run_sizeOf w,hsize,ne_eq,not_true_eq_false,K6,hst]
 rw [hrun];have hal:(st id).alive=true:=by rw [g1];rfl
 obtain ⟨k1,k2⟩:=jf9 hs hal h1 (o':= .box (over cs off ds)) rfl w1 w2 w3 w4 w5 λhmono=>⟨_,h1,_,T,w6,by simpa using jJ.over q4 h4 off,by
  have:=Kv (m:=m) hmono (MLe.refl m) _ _ (jjI (off:=off) q5 h3);simpa using this⟩
 have e:=jet (id:=id) (ds:=ds) (off:=off) (st:=st) (cs:=cs) g1 (by omega);show Qf X w O0 m st (jcN id off ds) (.d (.val undef)) W undef;refine ⟨m,?_,?_,by simp [relV,rel]⟩<;>rw [e]
 ·exact k1
 ·exact k2
theorem zB.storeRow {t:TypeId} {a x:Operand} (ho:o.op = .store t a x) {i:TI} (hi:TI.ok P t i) {id ii k j:Nat} (ha:ρ a = .rptr id ii k j) {cs:List A} {vs:List V} {ds:List A} {st0:jB} {r:List Rd} {ws:List Wr}
  (hx:∀(w:World) (O:Nat->Prop) (m:zV) (u:Value),relV w O m (ρ x) u->jx w O m vs u.cells.toList) (hseal:JM st0 vs=some (ds,r,ws)) (hok:ds.all jI=true) (hsz:ds.length=i.size) (hl:j+ds.length<=k)
  (hne:∀kk xs,Wr.obj id (.fro kk xs) ∉ ws):zB P X o ρ ⟨.d (.val undef),.elem id ii k cs::r,ws++[.elem id ii (over cs j ds)]⟩:=by
 intro w O0 m st ev hs hg hr _hc;have ha':=hr a (by simp [ho,Op.operands]);have hx':=hr x (by simp [ho,Op.operands]);rw [ha] at ha';simp only [relV] at ha';obtain ⟨hd0,b,h0,h1,h2⟩:=ha';have h3:=hx _ _ _ _ hx';have hgr:∀y∈r,yV st y:=λy hy=>hg y (by simp [hy]);obtain ⟨s1,s2,s3,s4,s5,s6,s7,s8⟩:=jlN hs hseal hgr h3;obtain ⟨xs,g1,g2⟩:=hg (.elem id ii k cs) (by simp);obtain ⟨c,n,h1⟩:=jq2 hs g1 h0 h1;have hab:=Kx hseal hgr;have g1':zi st ws id = .row k xs:=by
  obtain ⟨_,_,_,_,a5⟩:=jvx ws st hs hab;rw [a5 id hne,g1]
 have hone:jJ (ev x).cells.toList:=by
  have:∀ {as:List A} {us:List Value},jS w (Ow O0 m (zi st ws)) as us->as.all jI=true->jJ us:=by
   intro as;induction as with
   | nil=>intro us h _;simp only [jS] at h;subst h;intro v hv;cases hv
   | cons a as ih=>
    intro us h hk;simp only [jS,yU,jy] at h hk;obtain ⟨v,t,rfl,e1,e2⟩:=h;intro y hy;rcases jZ.1 hy with rfl|hy
    ·exact je7 e1 hk.1
    ·exact ih e2 hk.2 y hy
  exact this s3 hok
 have hob:=s1.obj id;rw [g1'] at hob;obtain ⟨hd,q1,q2⟩:=hob;rw [h1] at q1;cases q1;obtain ⟨q0,q6,q7,q8,cc,T,q3,q9,q4,q5⟩:=q2;have hcl:cs.length=k:=q8 cs (Yd g2);have hii:ii < xs.length:=(ZW.1 g2).1;have l1:=kC s3;have hfit:ii * k+j+ds.length<=xs.length * k:=by
  have:(ii+1) * k<=xs.length * k:=jbg k (by omega);rw [yF] at this;omega
 have hcap:xs.length * k<=cc.size:=by rw [q9];exact jbg k q6
 obtain ⟨W,hst,w1,w2,w3,w4,w5,w6⟩:=jaV P q3 (ii * k+j) (ev x).cells.toList (by rw [l1];omega) hone
 have hrun:(execOp ev o).run P w = .ok .skip W:=by
  have hsize:(ev x).cells.size=i.size:=by rw [<-hsz,<-l1];simp
  simp only [execOp,ho,Instr.storeAt,h2,Instr.sureAddr,storeVar,yz,yG,ym,hi.run_sizeOf w,hsize,ne_eq,not_true_eq_false,K6,hst]
 rw [hrun];have hal:(zi st ws id).alive=true:=by rw [g1'];rfl
 obtain ⟨k1,k2⟩:=jf9 s1 hal h1 (o':= .row k (xs.set ii (over cs j ds))) rfl w1 w2 w3 w4 w5 λhmono=>by
  refine ⟨_,h1,by simpa using q0,by simpa using q6,q7,?_,_,T,w6,?_,?_,?_⟩
  ·intro y hy;rcases jmh hy with hy|rfl
   ·exact q8 y hy
   ·rw [ZR (by omega)];exact hcl
  ·rw [List.size_toArray,ZR (by have:=l1;have:=hcap;simp only [jao] at *;omega),jao];exact q9
  ·simp only [jkm];rw [jcZ _ _ _ _ (by rw [l1];exact hfit) (by simpa using hcap)];exact jJ.over q4 hone _
  ·rw [Zo xs ii j cs ds q8 g2 (by omega)];simp only [jkm];rw [jcZ _ _ _ _ (by rw [l1];exact hfit) (by simpa using hcap)];exact zv hmono _ _ (jcU q5 s3)
 refine Qf.after (X:=X) s2 ?_;have e:zi (zi st ws) [.elem id ii (over cs j ds)]=upd (zi st ws) id (.row k (xs.set ii (over cs j ds))):=by
  show upd (zi st ws) id (Wr.on _ (zi st ws id))=_;rw [g1'];rfl
 refine ⟨m,?_,?_,by simp [relV,rel]⟩<;>rw [e]
 ·exact k1
 ·exact k2
theorem zB.makeMap {t:TypeId} (ho:o.op = .makeMap t none) {nid:Nat} :zB P X o ρ ⟨.row nid,[.fresh nid],[.obj nid (.map [])]⟩:=by
 intro w O0 m st ev hs hg hr _hc;have hf:st nid = .dead:=hg (.fresh nid) (by simp);have hrun:(execOp ev o).run P w = .ok (.value (.map (some w.heap.size))) (w.alloc (.map #[] 0)):=by
  simp [execOp,ho,Instr.makeMap]
 rw [hrun];have hnew:∀b∈(Hd.mp w.heap.size).blocks,w.heap.size<=b/\b < (w.alloc (.map #[] 0)).heap.size:=λb e=>by
  simp only [Hd.blocks,ku] at e;subst e;rw [JN];omega
 obtain ⟨k1,k2⟩:=jnO hs (Kz w _) hf (hd:= .mp w.heap.size) (o:= .map []) (λh=>by cases h) hnew ⟨_,rfl,#[],0,heap_alloc_new w _,by simp [qe]⟩;exact ⟨_,k1,k2,by simp only [relV];exact ⟨_,jU _ _ _,rfl⟩⟩
theorem jn2 {w:World} {O:Nat->Prop} :∀ {xs:List (List A)} {es:List MapEntry},qe w O xs es->es.length=xs.length
 | [],es,h=>by simp only [qe] at h;simp [h]
 | x::xs,es,h=>by
  simp only [qe] at h;obtain ⟨e,r,rfl,_,h3⟩:=h;simp [jn2 h3]
theorem jlE {w:World} {O:Nat->Prop} {k v:A} {e':MapEntry} (hk:rel w O k e'.key) (hv:rel w O v e'.val):∀ {xs:List (List A)} {es:List MapEntry} (n:Nat),qe w O xs es->qe w O (xs.set n [k,v]) (es.set n e')
 | [],es,n,h=>by simp only [qe] at h;subst h;simp [qe]
 | x::xs,es,n,h=>by
  simp only [qe] at h;obtain ⟨e,r,rfl,h2,h3⟩:=h;cases n with
  | zero=>simp only [jrO,qe];exact ⟨_,_,rfl,by simp only [jS];exact ⟨_,_,rfl,hk,_,_,rfl,hv,rfl⟩,h3⟩
  | succ n=>simp only [jrP,qe];exact ⟨_,_,rfl,h2,jlE hk hv n h3⟩
theorem jjF {w:World} {O:Nat->Prop} {k v:A} {e':MapEntry} (hk:rel w O k e'.key) (hv:rel w O v e'.val):∀ {xs:List (List A)} {es:List MapEntry},qe w O xs es->qe w O (xs++[[k,v]]) (es++[e'])
 | [],es,h=>by simp only [qe] at h;subst h;simp only [Ju,qe];exact ⟨_,_,rfl,by simp only [jS];exact ⟨_,_,rfl,hk,_,_,rfl,hv,rfl⟩,rfl⟩
 | x::xs,es,h=>by
  simp only [qe] at h;obtain ⟨e,r,rfl,h2,h3⟩:=h;simp only [K5,qe];exact ⟨_,_,rfl,h2,jjF hk hv h3⟩
theorem zB.mapUpdate {t kt et:TypeId} {x k y:Operand} (ho:o.op = .mapUpdate t x k y) (ht:P.underlying t=some (.map kt et)) {ks:Option IntKind} (hkt:P.underlying kt=some (jnw ks)) {id:Nat} (hx:ρ x = .row id) {xs ys:List (List A)} {ka va:A} (hk:dat (ρ k)=some ka)
  (hv:∀(w:World) (O:Nat->Prop) (m:zV) (u:Value),relV w O m (ρ y) u->rel w O va u) (hp:jkD ks xs ka va=some ys):zB P X o ρ ⟨.d (.val undef),[.obj id (.map xs)],[.obj id (.map ys)]⟩:=by
 intro w O0 m st ev hs hg hr _hc;have hst:st id = .map xs:=hg (.obj id (.map xs)) (by simp);have hx':=hr x (by simp [ho,Op.operands]);rw [hx] at hx';have hk':=kY hk (hr k (by simp [ho,Op.operands]));have hv':=hv _ _ _ _ (hr y (by simp [ho,Op.operands]));obtain ⟨b,es,clock,h1,h2,h3,h4⟩:=jAg hs hst hx';unfold jkD at hp;split at hp
 ·rename_i hok;obtain ⟨hik,rfl⟩:=jpP hok hk';rw [yB] at hp;obtain ⟨r,hf,hy⟩:=hp;have hwd:∀ob:Go.Obj,∀b',b'≠b->(w.heap.setIfInBounds b ob)[b']? = w.heap[b']? :=λob b' hne=>by simp [Ne.symm hne]
  have hlt:b < w.heap.size:=(ZD.1 h3).1;have fin:∀(es':Array MapEntry) (clock':Nat),(Instr.mapUpdate t (ev x) (ev k) (ev y)).run P w = .ok () { w with heap:=w.heap.setIfInBounds b (.map es' clock') } ->(∀(w':World) (O':Nat->Prop),MonoW w (Ow O0 m st) w' O'->qe w' O' ys es'.toList)->
    Upon P (Qf X w O0 m st [.obj id (.map ys)] (.d (.val undef))) w ((execOp ev o).run P w):=by
   intro es' clock' hrun hes;have hex:(execOp ev o).run P w = .ok .skip { w with heap:=w.heap.setIfInBounds b (.map es' clock') } :=by
    simp only [execOp,ho,yz,hrun,ym,yG]
   rw [hex];obtain ⟨k1,k2⟩:=jjz (W:={ w with heap:=w.heap.setIfInBounds b (.map es' clock') }) hs (id:=id) (by rw [hst];rfl) h1 (b:=b) (by simp [Hd.blocks]) (o':= .map ys) rfl rfl rfl (Quiet.refl _) (by simp) (hwd _) λhmono=>
    ⟨_,h1,es',clock',by simp [hlt],hes _ _ hmono⟩
   exact ⟨m,k1,k2,by simp [relV,rel]⟩
  rcases ji8 h4 hf with ⟨rfl,q2⟩|⟨n,a,e,rfl,q2,q3,q4,q5,q6⟩
  ·refine fin (es.push { key:=ev k,val:=ev y,born:=clock }) (clock+1) ?_ λw' O' hmono=> ?_
   ·unfold Instr.mapUpdate;rw [h2];simp only [yz,zP ht,ym,joC h3,run_checkKey hkt hik,run_findKey hkt q2,MapKept.run_setObj_map _ h3]
   ·rw [<-hy,Array.toList_push];exact jjF (by simp [rel]) (yc hmono _ _ hv') (Zx hmono _ _ h4)
  ·refine fin (es.modify n λe=>{ e with key:=ev k,val:=ev y }) clock ?_ λw' O' hmono=> ?_
   ·have hj:es[n]? = some e:=by simpa using q3
    unfold Instr.mapUpdate;rw [h2];simp only [yz,zP ht,ym,joC h3,run_checkKey hkt hik,run_findKey hkt q2,yd,hj,JS,jBO,q4,run_keyThatStays hik,MapKept.run_setObj_map _ h3]
   ·rw [<-hy];simp only [yd];have e1:(es.modify n λe=>{ e with key:=ev k,val:=ev y }).toList=es.toList.set n { e with key:=ev k,val:=ev y } :=by
     rw [Array.toList_modify,List.modify_eq_set,q3];rfl
    rw [e1];exact jlE (by simp [rel]) (yc hmono _ _ hv') n (Zx hmono _ _ h4)
 ·cases hp
end
end
noncomputable section
section
variable {P:Program} {X:Ctx} {o:Oper} {ρ:Operand->V} {C:Cfg}
def jdd (w:World) (O:Nat->Prop) (k:Nat) (ys:List (List A)) (v:Value):Prop:=
 ∃ad c news,v = .slice ad ys.length c/\jS w O ys.flatten news/\jJ news/\(∀y∈ys,y.length=k)/\(ys = []\/ ∃b off,ad=some ⟨b,off,none⟩/\Reads w b off news)
theorem jrh {w:World} {O:Nat->Prop} {k:Nat} {ys:List (List A)} {v:Value} (h:rel w O (.sl k ys) v):jdd w O k ys v:=by
 simp only [rel] at h;obtain ⟨a,cap,rfl,h2,h3,h4⟩:=h;rcases h4 with rfl|⟨b,off,h5,h6,h7,h8⟩
 ·exact ⟨a,cap,[],rfl,by simp [jS],(λv h=>by cases h),by simp,Or.inl rfl⟩
 ·obtain ⟨vs,g1,g2,g4,g3⟩:=jaE h8;exact ⟨a,cap,vs,rfl,g1,g4,g3,Or.inr ⟨b,off,h5,g2⟩⟩
theorem jD8 {w:World} {O:Nat->Prop} {k:Nat} {ys:List (List A)} {hd:Hd} {v:Value} (h:rowOk w O k ys hd) (hv:hdr hd v):jdd w O k ys v:=by
 cases hd with
 | none=>
  simp only [rowOk] at h;simp only [hdr] at hv;subst h;obtain ⟨a,rfl⟩:=hv;exact ⟨a,0,[],rfl,by simp [jS],(λv h=>by cases h),by simp,Or.inl rfl⟩
 | blk b cap n=>
  obtain ⟨rfl,q1,q2,q3,c,T,q4,q5,q7,q6⟩:=h;simp only [hdr] at hv;exact ⟨_,cap,_,hv,q6,q7,q3,Or.inr ⟨b,0,rfl,(Reads.block q4).take _⟩⟩
 | tre=>exact h.elim
 | mp=>exact h.elim
theorem jD7 {w:World} {O:Nat->Prop} {k:Nat} {v:Value} (h:∃a,v = .slice a 0 0):jdd w O k [] v:=by
 obtain ⟨a,rfl⟩:=h;exact ⟨a,0,[],rfl,by simp [jS],(λv h=>by cases h),by simp,Or.inl rfl⟩
theorem jgz (P:Program) {w:World} {O:Nat->Prop} {t ty e:TypeId} {i:TI} (ht:P.underlying t=some (.slice e)) (hi:TI.ok P e i)
    {xs ys:List (List A)} {hd:Hd} {v u:Value} (hv:hdr hd v) (hrow:rowOk w O i.size xs hd) (hsrc:jdd w O i.size ys u)
    (hfit:(xs.length+ys.length) * i.bytes<=140737488355328) (h63:xs.length+ys.length<=9223372036854775807) :
    ∃v' w',(Builtin.append_ #[t,t] ty #[v,u]).run P w = .ok v' w'/\
      ((ys = []/\w'=w/\v'=v)\/
       (∃b cap n cs T,hd = .blk b cap n/\v' = .slice (some ⟨b,0,none⟩) (xs.length+ys.length) cap/\xs.length+ys.length<=cap/\cap<=9223372036854775807/\(w'.os=w.os/\w'.tape=w.tape/\Quiet w w'/\w'.heap.size=w.heap.size/\ ∀b',b'≠b->w'.heap[b']? = w.heap[b']?)/\
          w'.heap[b]? = some (.cells cs T (0,0))/\cs.size=cap * i.size/\jJ (cs.toList.take ((xs.length+ys.length) * i.size))/\jS w O (xs++ys).flatten (cs.toList.take ((xs.length+ys.length) * i.size)))\/
       (∃cap cs T,v' = .slice (some ⟨w.heap.size,0,none⟩) (xs.length+ys.length) cap/\xs.length+ys.length<=cap/\cap<=9223372036854775807/\Below w.heap.size w w'/\w.heap.size < w'.heap.size/\
          w'.heap[w.heap.size]? = some (.cells cs T (0,0))/\cs.size=cap * i.size/\jJ (cs.toList.take ((xs.length+ys.length) * i.size))/\jS w O (xs++ys).flatten (cs.toList.take ((xs.length+ys.length) * i.size)))):=by
  obtain ⟨ad,c,news,rfl,hnews,hok',hyk,hsrc⟩:=hsrc;obtain ⟨j,hj,j1,j2,j3⟩:=hi.some_info;have hnl:news.length=ys.length * i.size:=by rw [kC hnews,qA hyk]
  have hv2:∃base cap,v = .slice base xs.length cap/\xs.length<=cap/\((hd = .none/\cap=0)\/ ∃b n,hd = .blk b cap n/\base=some ⟨b,0,none⟩):=by
    cases hd with
    | none=>simp only [hdr] at hv;obtain ⟨a,rfl⟩:=hv;simp only [rowOk] at hrow;subst hrow;exact ⟨a,0,rfl,by simp,Or.inl ⟨rfl,rfl⟩⟩
    | blk b cap n=>simp only [hdr] at hv;obtain ⟨rfl,q,_⟩:=hrow;exact ⟨_,cap,hv,q,Or.inr ⟨b,_,rfl,rfl⟩⟩
    | tre=>exact hrow.elim
    | mp=>exact hrow.elim
  obtain ⟨base,cap,rfl,hcap,hhd⟩:=hv2;by_cases hy0:ys = []
  · subst hy0
    refine ⟨.slice base xs.length cap,w,?_,Or.inl ⟨rfl,rfl,rfl⟩⟩;have hf:(Builtin.firstCells i.size 0 (.slice ad 0 c)).run P w = .ok #[] w:=by
      cases ad<;>simp [Builtin.firstCells,loadCells,loadCellsFrom]
    cases base<;>simp [Builtin.append_,zP ht,sizeOf,typeInfo,hj,j1,Builtin.lenOf,hcap,hf,storeCells]
  · obtain ⟨b2,off2,rfl,hreads⟩:=hsrc.resolve_left hy0
    have hypos:0 < ys.length:=List.length_pos_iff.2 hy0;have hn1:∀jj u,news[jj]? = some u->w.cell? ((⟨b2,off2,none⟩:Addr).add jj)=some u:=λjj u hu=>by rw [Kr];exact hreads jj u hu
    by_cases hroom:xs.length+ys.length<=cap
    ·
      rcases hhd with ⟨_,rfl⟩|⟨b,n,rfl,rfl⟩
      · omega
      obtain ⟨_,q1,q2,q3,cc,T,q4,q5,q7,q6⟩:=hrow;have hf:=jkd (P:=P) w i.size ys.length ⟨b2,off2,none⟩ ys.length c news hnl hn1;have hsum:(xs.length+ys.length) * i.size<=cap * i.size:=jbg _ hroom;have hadd:(xs.length+ys.length) * i.size=xs.length * i.size+ys.length * i.size:=yF _ _ _;obtain ⟨W,hst,w1,w2,w3,w4,w5,w6⟩:=jaV P q4 (xs.length * i.size) news (by rw [hnl];omega) hok';have hl2:cc.toList.length=cap * i.size:=by simp [q5]
      have e:((over cc.toList (xs.length * i.size) news).toArray.toList.take ((xs.length+ys.length) * i.size))=cc.toList.take (xs.length * i.size)++news:=by
        have hl1:(cc.toList.take (xs.length * i.size)).length=xs.length * i.size:=by simp;omega
        unfold over;rw [ja2 (by simp [hnl];omega),Zd (by simp [hnl];omega)]
      refine ⟨.slice (some ⟨b,0,none⟩) (xs.length+ys.length) cap,W,?_,Or.inr (Or.inl ⟨b,cap,n,_,T,rfl,rfl,hroom,q2,⟨w1,w2,w3,w4,w5⟩,w6,?_,?_,?_⟩)⟩
      · have hadd2:(⟨b,0,none⟩:Addr).add (xs.length * i.size)=⟨b,xs.length * i.size,none⟩:=by rw [Kr];simp
        have hf':(Builtin.firstCells j.size ys.length (.slice (some ⟨b2,off2,none⟩) ys.length c)).run P w = .ok news.toArray w:=by rw [j1];exact hf
        have hst':(storeCells ((⟨b,0,none⟩:Addr).add (xs.length * j.size)) news).run P w = .ok () W:=by rw [j1,hadd2];exact hst
        simp [Builtin.append_,zP ht,sizeOf,typeInfo,hj,Builtin.lenOf,hroom,hf',hst']
      · rw [List.size_toArray,ZR (by rw [hnl,hl2];omega),hl2]
      · rw [e];exact (q7.append hok')
      · have hfl:(xs++ys).flatten=xs.flatten++ys.flatten:=by simp
        rw [hfl,e];exact yu q6 hnews
    ·
      have hlt:cap < xs.length+ys.length:=by omega
      have hgf:=growslice_fits (bytes:=i.bytes) hlt hfit;have hgc:=grownCap_ge w (xs.length+ys.length) cap e;have hgm:=grownCap_le_maxLen w (xs.length+ys.length) cap e (by simpa [maxLen] using h63);have holds:∃olds:List Value,jS w O xs.flatten olds/\jJ olds/\olds.length=xs.length * i.size/\(Builtin.firstCells j.size xs.length (.slice base xs.length cap)).run P w.drew = .ok olds.toArray w.drew:=by
        rcases hhd with ⟨rfl,rfl⟩|⟨b,n,rfl,rfl⟩
        · simp only [rowOk] at hrow
          subst hrow;refine ⟨[],by simp [jS],(λv h=>by cases h),by simp,?_⟩;cases base<;>simp [Builtin.firstCells,loadCells,loadCellsFrom]
        · obtain ⟨_,q1,q2,q3,cc,T,q4,q5,q7,q6⟩:=hrow
          have hl1:(cc.toList.take (xs.length * i.size)).length=xs.length * i.size:=by rw [kC q6,qA q3]
          refine ⟨_,q6,q7,hl1,?_⟩;rw [j1];refine jkd (P:=P) w.drew i.size xs.length ⟨b,0,none⟩ xs.length cap _ hl1 ?_;intro jj u hu;rw [Kr];have:=((Reads.block q4).take (xs.length * i.size)) jj u hu;simpa using this
      obtain ⟨olds,ho1,ho4,ho2,ho3⟩:=holds;have hf':(Builtin.firstCells j.size ys.length (.slice (some ⟨b2,off2,none⟩) ys.length c)).run P w.drew = .ok news.toArray w.drew:=by
        rw [j1];exact jkd (P:=P) w.drew i.size ys.length ⟨b2,off2,none⟩ ys.length c news hnl (by simpa using hn1)
      have n1:¬(xs.length+ys.length<=cap):=hroom;have n2:¬(9223372036854775807 < ((xs.length:Int)+(ys.length:Int))):=by omega
      have n3:¬(281474976710656 < Builtin.nextslicecap (xs.length+ys.length) cap * j.bytes):=by rw [j2];omega
      have e2:((olds.toArray++news.toArray++Builtin.zeroCells i.zero.cells (grownCap w (xs.length+ys.length) cap e - (xs.length+ys.length))).toList.take ((xs.length+ys.length) * i.size))=olds++news:=by
        simp only [Array.toList_append];rw [ja2 (by simp [ho2,hnl,yF]),Zd (by simp [ho2,hnl,yF])]
      refine ⟨.slice (some ⟨w.heap.size,0,none⟩) (xs.length+ys.length) (grownCap w (xs.length+ys.length) cap e),w.drew.alloc (.cells (olds.toArray++news.toArray++Builtin.zeroCells i.zero.cells (grownCap w (xs.length+ys.length) cap e - (xs.length+ys.length))) e),
        ?_,Or.inr (Or.inr ⟨_,olds.toArray++news.toArray++Builtin.zeroCells i.zero.cells (grownCap w (xs.length+ys.length) cap e - (xs.length+ys.length)),e,rfl,hgc,by simpa [maxLen] using hgm,?_,?_,?_,?_,?_,?_⟩)⟩
      · simp [Builtin.append_,zP ht,sizeOf,typeInfo,zeroValue,hj,j3,Builtin.lenOf,n1,n2,n3,Question.forced,ho3,hf',newRow,grownCap]
        congr 2;rw [<-Array.append_assoc];simp
      · exact ((Below.refl _ w).drew).alloc (by simp) _
      · show w.heap.size < (w.drew.alloc _).heap.size
        rw [JN];simp
      · exact heap_alloc_new w.drew _
      · simp only [Array.size_append,List.size_toArray,Builtin.zeroCells,Array.size_map,Array.size_range,hi.zsize,ho2,hnl]
        rw [<-yF,<-yF];congr 1;omega
      · rw [e2];exact ho4.append hok'
      · have hfl:(xs++ys).flatten=xs.flatten++ys.flatten:=by simp
        rw [hfl,e2];exact yu ho1 hnews
theorem Kt {ev:Operand->Value} {s x:Operand} {xs:Array Operand} {ts:Array TypeId} (ho:o.op = .call { callee:= .builtin .append,args:=xs,argTypes:=ts }) (hxs:xs = #[s,x]) {w w':World} {v:Value}
  (h:(Builtin.append_ ts o.type #[ev s,ev x]).run P w = .ok v w'):(execOp ev o).run P w = .ok (.value v) w':=by
 subst hxs;simp [execOp,ho,resolve,invoke,builtin,h]
theorem zB.append0 {s x:Operand} {xs:Array Operand} {ts:Array TypeId} {t:TypeId} (ho:o.op = .call { callee:= .builtin .append,args:=xs,argTypes:=ts }) (hxs:xs = #[s,x]) (hts:ts = #[t,t])
  {e:Nat} (ht:P.underlying t=some (.slice e)) {i:TI} (hi:TI.ok P e i) {ys:List (List A)} {k0:Nat} (hs:ρ s = .nil k0) {rds:List Rd} {nid:Nat}
  (hx:∀(w:World) (O0:Nat->Prop) (m:zV) (st:jB) (u:Value),Sto X w O0 m st->(∀r∈rds,yV st r)->relV w (Ow O0 m st) m (ρ x) u->jdd w (Ow O0 m st) i.size ys u)
  (hfit:ys.length * i.bytes<=140737488355328) (h63:ys.length<=9223372036854775807):zB P X o ρ ⟨.row nid,.fresh nid::rds,[.obj nid (.row i.size ys)]⟩:=by
 intro w O0 m st ev hst hg hr _hc;have hs':=hr s (by simp [ho,Op.operands,Call.operands,hxs]);have hx':=hx w O0 m st _ hst (λr h=>hg r (by simp [h])) (hr x (by simp [ho,Op.operands,Call.operands,hxs]));rw [hs] at hs';simp only [relV] at hs';obtain ⟨v',w',a1,a2⟩:=jgz P (ty:=o.type) (xs:=[]) (hd:= .none) ht hi (by simpa only [hdr] using hs') (by simp [rowOk]) hx' (by simpa using hfit) (by simpa using h63);have hrun:=Kt (P:=P) (ev:=ev) ho hxs (by rw [hts];exact a1);rw [hrun];have hf:st nid = .dead:=hg (.fresh nid) (by simp);simp only [yw,yd,Ju] at a2;rcases a2 with ⟨rfl,rfl,rfl⟩|⟨b,cap,n,cs,T,r1,_⟩|⟨cap,cs,T,rfl,r3,r4,r5,r6,r7,r8,r10,r9⟩
 ·obtain ⟨a,hv⟩:=hs';exact JK hst (Below.refl _ _) hf (hd:= .none) ⟨a,hv⟩ (Or.inl ⟨rfl,rfl⟩)
 ·cases r1
 ·obtain ⟨_,_,_,_,_,_,hyk,_⟩:=hx';exact JK hst r5 hf (hd:= .blk w.heap.size cap ys.length) rfl (Or.inr ⟨cap,cs,T,rfl,r6,r3,r4,hyk,r7,r8,r10,r9⟩)
theorem jjN {w:World} {O0:Nat->Prop} {m:zV} {st:jB} (hs:Sto X w O0 m st) {id k:Nat} {xs:List (List A)} (hf:st id = .row k xs) {u:Value} (hr:relV w (Ow O0 m st) m (.row id) u):∃hd,m id=some hd/\hdr hd u/\rowOk w (Ow O0 m st) k xs hd:=by
 simp only [relV] at hr;obtain ⟨hd,h1,h2⟩:=hr;have ho:=hs.obj id;rw [hf] at ho;obtain ⟨hd',g1,g2⟩:=ho;rw [h1] at g1;cases g1;exact ⟨_,h1,h2,g2⟩
theorem zB.append {s x:Operand} {xs:Array Operand} {ts:Array TypeId} {t:TypeId} (ho:o.op = .call { callee:= .builtin .append,args:=xs,argTypes:=ts }) (hxs:xs = #[s,x]) (hts:ts = #[t,t])
  {e:Nat} (ht:P.underlying t=some (.slice e)) {i:TI} (hi:TI.ok P e i) {us ys:List (List A)} {id:Nat} (hs:ρ s = .row id) {rds:List Rd} {nid:Nat} (hne:nid≠id)
  (hx:∀(w:World) (O0:Nat->Prop) (m:zV) (st:jB) (u:Value),Sto X w O0 m st->(∀r∈rds,yV st r)->relV w (Ow O0 m st) m (ρ x) u->jdd w (Ow O0 m st) i.size ys u)
  (hfit:(us.length+ys.length) * i.bytes<=140737488355328) (h63:us.length+ys.length<=9223372036854775807):zB P X o ρ ⟨.row nid,.fresh nid:: .obj id (.row i.size us)::rds,[.obj id .gone,.obj nid (.row i.size (us++ys))]⟩:=by
 intro w O0 m st ev hst hg hr _hc;have hs':=hr s (by simp [ho,Op.operands,Call.operands,hxs]);have hx':=hx w O0 m st _ hst (λr h=>hg r (by simp [h])) (hr x (by simp [ho,Op.operands,Call.operands,hxs]));rw [hs] at hs';have hid:st id = .row i.size us:=hg (.obj id (.row i.size us)) (by simp);have hf:st nid = .dead:=hg (.fresh nid) (by simp);obtain ⟨hd,g1,g2,g3⟩:=jjN hst hid hs';obtain ⟨v',w',a1,a2⟩:=jgz P (ty:=o.type) ht hi g2 g3 hx' hfit h63;have hrun:=Kt (P:=P) (ev:=ev) ho hxs (by rw [hts];exact a1);rw [hrun];have hmn:=hst.fresh nid hf;have hyk:∀y∈ys,y.length=i.size:=by obtain ⟨_,_,_,_,_,_,h,_⟩:=hx';exact h
 have hxk:∀y∈us,y.length=i.size:=by
  cases hd with
  | none=>simp only [rowOk] at g3;subst g3;simp
  | blk b c n=>exact g3.2.2.2.1
  | tre=>exact g3.elim
  | mp=>exact g3.elim
 have hk:∀z∈us++ys,z.length=i.size:=λz hz=>(kZ.1 hz).elim (hxk z) (hyk z);have stay:∀(W:World) (hd':Hd),(∀b∈hd'.blocks,b∈hd.blocks)->W.os=w.os->W.tape=w.tape->Quiet w W->W.heap.size=w.heap.size->(∀b',b' ∉ hd.blocks->W.heap[b']? = w.heap[b']?)->
   (MonoW w (Ow O0 m st) W (Ow O0 (upd m nid (some hd')) (upd (upd st id .gone) nid (.row i.size (us++ys))))->rowOk W (Ow O0 (upd m nid (some hd')) (upd (upd st id .gone) nid (.row i.size (us++ys)))) i.size (us++ys) hd')->hdr hd' v'->
   Qf X w O0 m st [.obj id .gone,.obj nid (.row i.size (us++ys))] (.row nid) W v':=by
  intro W hd' hsame w1 w2 w3 w4 w5 hok hv;have hal:(st id).alive=true:=by rw [hid];rfl
  have hst':∀j,upd (upd st id .gone) nid (.row i.size (us++ys)) j=if j=nid then .row i.size (us++ys) else if j=id then .gone else st j:=λj=>by
   by_cases e1:j=nid
   ·subst e1;rw [jU,jg rfl]
   ·rw [upd_ne _ _ e1,jf e1];by_cases e2:j=id
    ·subst e2;rw [jU,jg rfl]
    ·rw [upd_ne _ _ e2,jf e2]
  have hm':∀j,upd m nid (some hd') j=if j=nid then some hd' else m j:=λj=>by
   by_cases e1:j=nid
   ·subst e1;rw [jU,jg rfl]
   ·rw [upd_ne _ _ e1,jf e1]
  have hnew:∀b',Mz (upd m nid (some hd')) (upd (upd st id .gone) nid (.row i.size (us++ys))) b'->Mz m st b':=by
   rintro b' ⟨j,hj,h1,h2,h3⟩;rw [hst'] at h1;rw [hm'] at h2;by_cases e1:j=nid
   ·rw [jg e1] at h2;cases h2;exact ⟨id,hd,hal,g1,hsame b' h3⟩
   ·rw [jf e1] at h1 h2;by_cases e2:j=id
    ·rw [jg e2] at h1;cases h1
    ·rw [jf e2] at h1;exact ⟨j,hj,h1,h2,h3⟩
  have hchg:Chg w m st W (upd m nid (some hd')) (upd (upd st id .gone) nid (.row i.size (us++ys))):=
   ⟨w1,w2,w3,by omega,λb' _ hn=>w5 b' λe=>hn ⟨id,hd,hal,g1,e⟩,MLe.of λj h e=>by
    rw [hm',jf (λe'=>by subst e';rw [hmn] at e;cases e)];exact e,λb' h=>Or.inl (hnew b' h)⟩
  suffices hsto:Sto X W O0 (upd m nid (some hd')) (upd (upd st id .gone) nid (.row i.size (us++ys))) from
   ⟨upd m nid (some hd'),hchg,hsto,by simp only [relV];exact ⟨_,jU _ _ _,hv⟩⟩
  refine hst.chg hchg ?_ ?_ ?_ ?_
  ·intro j h;rw [hst'] at h;rw [hm'];by_cases e1:j=nid
   ·rw [jg e1] at h;cases h
   ·rw [jf e1] at h ⊢;by_cases e2:j=id
    ·rw [jg e2] at h;cases h
    ·rw [jf e2] at h;exact hst.fresh j h
  ·intro j hj b' h1 h2 h3;rw [hst'] at h1;rw [hm'] at h2;by_cases e1:j=nid
   ·rw [jg e1] at h2;cases h2;have:=hst.blk id hd b' hal g1 (hsame b' h3);exact Or.inr ⟨by omega,this.2⟩
   ·rw [jf e1] at h1 h2;by_cases e2:j=id
    ·rw [jg e2] at h1;cases h1
    ·rw [jf e2] at h1;exact Or.inl ⟨h1,h2⟩
  ·intro j j' hj hj' b' h1 h2 h3 h4 h5 h6;rw [hst'] at h1 h2;rw [hm'] at h3 h4;by_cases e1:j=nid
   ·by_cases e2:j'=nid
    ·rw [e1,e2]
    ·rw [jg e1] at h3;cases h3;rw [jf e2] at h2 h4;by_cases e3:j'=id
     ·rw [jg e3] at h2;cases h2
     ·rw [jf e3] at h2;exact absurd (hst.inj id j' hd hj' b' hal h2 g1 h4 (hsame b' h5) h6).symm e3
   ·rw [jf e1] at h1 h3;by_cases e3:j=id
    ·rw [jg e3] at h1;cases h1
    ·rw [jf e3] at h1;by_cases e2:j'=nid
     ·rw [jg e2] at h4;cases h4;exact absurd (hst.inj id j hd hj b' hal h1 g1 h3 (hsame b' h6) h5).symm e3
     ·rw [jf e2] at h2 h4;by_cases e4:j'=id
      ·rw [jg e4] at h2;cases h2
      ·rw [jf e4] at h2;exact hst.inj j j' hj hj' b' h1 h2 h3 h4 h5 h6
  ·intro j;by_cases e1:j=nid
   ·subst e1;rw [jU,jU];exact Or.inr ⟨hd',rfl,hok (hchg.monoW O0)⟩
   ·rw [upd_ne _ _ e1,upd_ne _ _ e1];by_cases e2:j=id
    ·subst e2;rw [jU];exact Or.inr trivial
    ·rw [upd_ne _ _ e2];exact Or.inl ⟨rfl,rfl,λhj b' h1 h2 h3=>w5 b' λe'=>e2 (hst.inj j id hj hd b' h1 hal h2 g1 h3 e')⟩
 rcases a2 with ⟨rfl,rfl,rfl⟩|⟨b,cap,n,cs,T,r1,r2,r3,r4,⟨w1,w2,w3,w4,w5⟩,r6,r7,r9,r8⟩|⟨cap,cs,T,rfl,r3,r4,r5,r6,r7,r8,r10,r9⟩
 ·refine stay _ hd (λb e=>e) rfl rfl (Quiet.refl _) rfl (λ_ _=>rfl) (λhmono=> ?_) g2;have:=jaT hmono (λ_ _ _ _=>rfl) g3;simpa using this
 ·subst r1;refine stay w' (.blk b cap (us.length+ys.length)) (λb' e=>by rw [jew e];exact Ko) w1 w2 w3 w4 (λb' hb'=>w5 b' λe=>hb' (by rw [e];exact Ko)) (λhmono=> ?_) r2;exact ⟨by simp,by simpa using r3,r4,hk,cs,T,r6,r7,by simpa using r9,by simpa using zv hmono _ _ r8⟩
 ·refine Qf.after (ws:=[.obj id .gone]) (Chg.ghost λh=>by cases h) ?_;have hkill:Sto X w O0 m (zi st [.obj id .gone]):=hst.kill id;have hf':zi st [.obj id .gone] nid = .dead:=by
   show upd st id .gone nid=_;rw [upd_ne _ _ hne,hf]
  refine JK hkill r5 hf' (hd:= .blk w.heap.size cap (us.length+ys.length)) rfl (Or.inr ⟨cap,cs,T,by simp,r6,by simpa using r3,r4,hk,r7,r8,by simpa using r10,?_⟩);have:=zv (MonoW.sub (O':=Ow O0 m (zi st [.obj id .gone])) (jfJ λh=>by cases h)) _ _ r9;simpa using this
theorem zB.make {t:TypeId} {x y:Operand} (ho:o.op = .makeSlice t x y) {e:Nat} (ht:P.underlying t=some (.slice e)) {i:TI} (hi:TI.ok P e i) {a b:A} (hx:ρ x = .d a) (hy:ρ y = .d b) {kl kc:IntKind} {l c:Int} (ha:a = .val (.int kl l)) (hb:b = .val (.int kc c))
  (h0:0<=l) (hlc:l<=c) (hbytes:(i.bytes:Int) * c<=281474976710656) (h63:c<=9223372036854775807) {z:List A} (hz:∀w O,jS w O z i.zero.cells.toList) (hone:jJ i.zero.cells.toList) {nid:Nat} :
  zB P X o ρ ⟨.row nid,[.fresh nid],[.obj nid (.row i.size (List.replicate l.toNat z))]⟩:=by
 intro w O0 m st ev hst hg hr _hc;have hx':=hr x (by simp [ho,Op.operands]);have hy':=hr y (by simp [ho,Op.operands]);rw [hx,ha] at hx';rw [hy,hb] at hy';simp only [relV,rel] at hx' hy';obtain ⟨j,hj,j1,j2,j3⟩:=hi.some_info;have hrun:=run_make (P:=P) w t e j i.zero ht hj j3 kl kc l c h0 hlc (by rw [j2];exact hbytes) h63;have hzl:i.zero.cells.toList.length=i.size:=by simpa using hi.zsize
 have hzl2:z.length=i.size:=by rw [<-kC (hz w λ_=>False)];exact hzl
 have key:∀(n cn:Nat),n<=cn->((madeCells i.zero.cells (cn * i.size)).toList.take (n * i.size))=(List.replicate n i.zero.cells.toList).flatten:=by
  intro n cn hn;apply jbh;intro q;by_cases hq:q < n * i.size
  ·have hpos:0 < i.size:=jrN λe0=>by rw [e0] at hq;simp at hq
   have h1:(List.replicate n i.zero.cells.toList).flatten[q]? = i.zero.cells.toList[q % i.size]? :=by
    clear hn;induction n generalizing q with
    | zero=>simp at hq
    | succ n ih=>
     rw [jcB,J6];by_cases hq2:q < i.size
     ·rw [K7 (by omega),Nat.mod_eq_of_lt hq2]
     ·have hq3:q - i.size < n * i.size:=by
       rw [yF,Nat.one_mul] at hq;omega
      have hm2:=Nat.mod_eq_sub_mod (a:=q) (b:=i.size) (by omega);rw [Qe (by omega),hzl,ih (q - i.size) hq3,<-hm2]
   rw [h1,ja1,jg hq];have hlt:q < cn * i.size:=QP hq (jbg _ hn);have hm:q % i.size < i.zero.cells.size:=by rw [hi.zsize];exact Nat.mod_lt _ hpos
   simp only [madeCells,jft,Array.getElem?_map,Array.getElem?_range,hlt,Jw,JS,hi.zsize];rw [jcC i.zero.cells (q % i.size) hm,jcD hm]
  ·rw [y9 (by simp;omega),y9]
   simp only [List.length_flatten,List.map_replicate,hzl,jor];omega
 have hrepl:∀n,jS w (Ow O0 m st) (List.replicate n z).flatten (List.replicate n i.zero.cells.toList).flatten:=by
  intro n;induction n with
  | zero=>simp [jS]
  | succ n ih=>simp only [jcB,J6];exact yu (hz _ _) ih
 have hones:∀n,jJ (List.replicate n i.zero.cells.toList).flatten:=λn v hv=>by
  obtain ⟨q,hq,hv⟩:=jox.1 hv;rw [(joA.1 hq).2] at hv;exact hone v hv
 have hf:st nid = .dead:=hg (.fresh nid) (by simp);have hex:(execOp ev o).run P w = .ok (.value (.slice (some ⟨w.heap.size,0,none⟩) l.toNat c.toNat)) (w.alloc (.cells (madeCells i.zero.cells (c.toNat * j.size)) e)):=by
  simp [execOp,ho,hx',hy',hrun]
 rw [hex];refine JK hst (Kz w _) hf (hd:= .blk w.heap.size c.toNat (List.replicate l.toNat z).length) (by simp [hdr]) (Or.inr ⟨c.toNat,_,e,rfl,by rw [JN];omega,by simp;omega,by omega,λq hq=>by rw [(joA.1 hq).2];exact hzl2,heap_alloc_new w _,by rw [size_madeCells,j1],?_,?_⟩)
 ·rw [K4,j1,key _ _ (by omega)];exact hones _
 ·rw [K4,j1,key _ _ (by omega)];exact hrepl _
end
end
noncomputable section
inductive LX where
 | fail
 | ret (v:V) (rds:List Rd) (wrs:List Wr)
 | bnd (x:Option A) (k:A->LX)
 | nat (x:Option Nat) (k:Nat->LX)
 | rows (x:Option (List (List A))) (k:List (List A)->LX)
 | cells (x:Option (List A)) (k:List A->LX)
 | chk (b:Bool) (k:LX)
 | node (x:Node) (k:Out->LX)
 | cnd (a:A) (x y:LX)
def brn {α:Type} (b:Bool) (x y:α):α:=if b then x else y
def LX.run (M:Node->Option Out):LX->(V->List Rd->List Wr->Option Out)->Option Out
 | .fail,_=>none
 | .ret v rds wrs,κ=>κ v rds wrs
 | .bnd x k,κ=>x.bind λa=>(k a).run M κ
 | .nat x k,κ=>x.bind λa=>(k a).run M κ
 | .rows x k,κ=>x.bind λa=>(k a).run M κ
 | .cells x k,κ=>x.bind λa=>(k a).run M κ
 | .chk b k,κ=>brn b (k.run M κ) none
 | .node x k,κ=>(M x).bind λa=>(k a).run M κ
 | .cnd a x y,κ=>(JB a).bind λt=>brn t (x.run M κ) (y.run M κ)
def yY (P:Program) (X:Ctx) (M:Node->Option Out) (o:Oper) (ρ:Operand->V) (st:jB):LX->Prop
 | .fail=>True
 | .ret v rds wrs=>zB P X o ρ ⟨v,rds,wrs⟩/\ ∀r∈rds,yV st r
 | .bnd x k=>∀a,x=some a->yY P X M o ρ st (k a)
 | .nat x k=>∀a,x=some a->yY P X M o ρ st (k a)
 | .rows x k=>∀a,x=some a->yY P X M o ρ st (k a)
 | .cells x k=>∀a,x=some a->yY P X M o ρ st (k a)
 | .chk b k=>b=true->yY P X M o ρ st k
 | .node x k=>∀out,M x=some out->yY P X M o ρ st (k out)
 | .cnd a x y=>(JB a=some true->yY P X M o ρ st x)/\(JB a=some false->yY P X M o ρ st y)
def YH:List V->LX->LX
 | [],k=>k
 | .d a::cs,k=> .chk (jI a) (YH cs k)
 | .agg _::_,_=> .fail
 | .tup _::_,_=> .fail
 | .top::_,_=> .fail
 | _::cs,k=>YH cs k
def jaO (n:Nat) (a:A):Option (List A):=match a with | .agg ds=>if ds.length=n/\ds.all jI=true then some ds else none|_=>none
def jpI:V->Bool | .agg _=>false | .tup _=>false | .top=>false|_=>true
def jb (ds:List A) (j:Nat):A:=ds.getD j .top
def jbE (plain:Bool) (n:Nat) (v:V) (k:List V->LX):LX:=
 if plain then (if jpI v then YH [v] (k [v]) else .fail)
 else (match v with
  | .agg cs=>if Nat.beq cs.length n then YH cs (k cs) else .fail
  | .d a=> .cells (jaO n a) λds=>k ((List.range n).map λj=> .d (jb ds j))
  | _=> .fail)
def jcE (v:V) (ds:List V):Prop:=∀(w:World) (O:Nat->Prop) (m:zV) (u:Value),relV w O m v u->jx w O m ds u.cells.toList/\jJ u.cells.toList
def jkM (ds:List V):Prop:=∀c∈ds,∀a,c = .d a->jI a=true
section
variable {P:Program} {X:Ctx} {o:Oper} {ρ:Operand->V} {C:Cfg} {M:Node->Option Out} {st:jB}
theorem ZL {k:LX} :∀ {cs:List V},((∀c∈cs,jpI c=true)->jkM cs->yY P X M o ρ st k)->yY P X M o ρ st (YH cs k)
 | [],h=>h (by simp) (λc hc=>by cases hc)
 | c::cs,h=>by
  cases c<;>simp only [YH]
  case agg=>trivial
  case tup=>trivial
  case top=>trivial
  case d a=>
   intro ha;refine ZL λh1 h2=>h (λc hc=> ?_) (λc hc a' e=> ?_)
   ·rcases jZ.1 hc with rfl|hc
    ·rfl
    ·exact h1 c hc
   ·rcases jZ.1 hc with rfl|hc
    ·cases e;exact ha
    ·exact h2 c hc a' e
  all_goals
   refine ZL λh1 h2=>h (λc hc=> ?_) (λc hc a' e=> ?_)
   ·rcases jZ.1 hc with rfl|hc
    ·rfl
    ·exact h1 c hc
   ·rcases jZ.1 hc with rfl|hc
    ·cases e
    ·exact h2 c hc a' e
theorem jqS {w:World} {O:Nat->Prop} {m:zV} {v:V} {u:Value} (h:relV w O m v u) (hr:jpI v=true) (hd:∀a,v = .d a->jI a=true):u.oneCell'=true:=by
 cases v<;>simp only [jpI,Zi] at hr<;>simp only [relV] at h
 case d a=>exact je7 h (hd a rfl)
 case nil=>obtain ⟨a,rfl⟩:=h;rfl
 case fn=>obtain ⟨vs,rfl,_⟩:=h;rfl
 case ptr=>obtain ⟨b,c,n,_,rfl⟩:=h;rfl
 case row=>
  obtain ⟨hd,_,h2⟩:=h;cases hd with
  | none=>obtain ⟨a,rfl⟩:=h2;rfl
  | blk b c n=>simp only [hdr] at h2;subst h2;rfl
  | tre f b c n ks=>simp only [hdr] at h2;subst h2;rfl
  | mp b=>simp only [hdr] at h2;subst h2;rfl
 case sub=>
  obtain ⟨hd,_,h2⟩:=h;obtain ⟨a,n,c,rfl⟩:=jtJ h2;rfl
 case rptr=>obtain ⟨b,c,n,_,rfl⟩:=h;rfl
 case win=>
  obtain ⟨hd,_,h⟩:=h;cases hd with
  | none=>simp only [Kf] at h;obtain ⟨_,_,a,rfl⟩:=h;rfl
  | blk b c l=>simp only [Kf] at h;obtain ⟨_,q,rfl,_⟩:=h;rfl
  | tre=>exact h.elim
  | mp=>exact h.elim
 case ub=>obtain ⟨b,rfl,_⟩:=h;rfl
theorem jaS {w:World} {O:Nat->Prop} {m:zV} :∀ {cs:List V} {us:List Value},jx w O m cs us->(∀c∈cs,jpI c=true)->jkM cs->jJ us
 | [],us,h,_,_=>by simp only [jx] at h;subst h;intro v hv;cases hv
 | c::cs,us,h,h1,h2=>by
  simp only [jx] at h;obtain ⟨v,r,rfl,g1,g2⟩:=h;intro y hy;rcases jZ.1 hy with rfl|hy
  ·exact jqS g1 (h1 c (by simp)) (h2 c (by simp))
  ·exact jaS g2 (λc hc=>h1 c (by simp [hc])) (λc hc=>h2 c (by simp [hc])) y hy
theorem Yu {plain:Bool} {n:Nat} {v:V} {k:List V->LX} (h:∀ds,jcE v ds->jkM ds->ds.length=(if plain then 1 else n)->yY P X M o ρ st (k ds)):yY P X M o ρ st (jbE plain n v k):=by
 unfold jbE;split
 ·rename_i hp;split
  ·rename_i hr;refine ZL λh1 h2=>h [v] (λw O m u hu=> ?_) h2 (by simp [hp]);have ho:=jqS hu hr (h2 v (by simp));have hc:=cells_one ho;rw [hc];refine ⟨?_,λy hy=> ?_⟩
   ·simp only [jx];exact ⟨u,[],rfl,hu,rfl⟩
   ·have:y=u:=by simpa using hy
    subst this;exact ho
  ·trivial
 ·rename_i hp;split
  ·rename_i cs;split
   ·rename_i hn;refine ZL λh1 h2=>h cs (λw O m u hu=> ?_) h2 (by simp [hp,zw hn]);simp only [relV] at hu;obtain ⟨vs,rfl,g⟩:=hu;have g':jx w O m cs (Value.agg vs.toArray).cells.toList:=by simpa [Value.cells] using g
    exact ⟨g',jaS g' h1 h2⟩
   ·trivial
  ·rename_i a;intro ds hds;unfold jaO at hds;split at hds
   ·rename_i ds';split at hds
    ·rename_i hc;cases hds;obtain ⟨hl,hok⟩:=hc;have e:(List.range n).map (λj=>V.d (ds.getD j .top))=ds.map V.d:=by
      apply jbh;intro q;by_cases hq:q < n
      ·have hq':q < ds.length:=by omega
       simp [jfs hq,hq',zY]
      ·rw [y9 (by simp;omega),y9 (by simp;omega)]
     show yY P X M o ρ st (k ((List.range n).map λj=>V.d (ds.getD j .top)));rw [e];have hD:jkM (ds.map V.d):=λc hc a' e'=>by
      obtain ⟨b,hb,rfl⟩:=zN.1 hc;cases e';exact qn.1 hok _ hb
     refine h _ (λw O m u hu=> ?_) hD (by simp [hp,hl]);simp only [relV,rel] at hu;obtain ⟨vs,rfl,g⟩:=hu;have g2:∀ {ds:List A} {vs:List Value},jS w O ds vs->jx w O m (ds.map V.d) vs:=by
      intro ds;induction ds with
      | nil=>intro vs h;simpa [jS,jx] using h
      | cons d ds ih=>
       intro vs h;simp only [jS] at h;obtain ⟨v,r,rfl,e1,e2⟩:=h;simp only [zf,jx,relV];exact ⟨v,r,rfl,e1,ih e2⟩
     have g':jx w O m (ds.map V.d) (Value.agg vs.toArray).cells.toList:=by simpa [Value.cells] using g2 g
     exact ⟨g',jaS g' (λc hc=>by obtain ⟨b,_,rfl⟩:=zN.1 hc;rfl) hD⟩
    ·cases hds
   ·cases hds
  ·trivial
theorem jcY {st0:jB} :∀ {cs:List V} {as:List A} {r:List Rd} {ws:List Wr},JM st0 cs=some (as,r,ws)->jkM cs->as.all jI=true/\as.length=cs.length
 | [],as,r,ws,h,_=>by simp only [JM,zg,Jc] at h;obtain ⟨rfl,_⟩:=h;simp
 | c::cs,as,r,ws,h,hd=>by
  cases c<;>simp only [JM,reduceCtorEq] at h
  case d a=>
   split at h
   ·rename_i h1;cases h;have:=jcY h1 λc hc=>hd c (by simp [hc]);exact ⟨by simp only [yU,hd (.d a) (by simp) a rfl,this.1,QM],by simp [this.2]⟩
   ·cases h
  case nil k=>
   split at h
   ·rename_i h1;cases h;have:=jcY h1 λc hc=>hd c (by simp [hc]);exact ⟨by simp only [yU,jI,this.1,QM],by simp [this.2]⟩
   ·cases h
  case row id=>
   split at h
   ·rename_i h1;have:=jcY h1 λc hc=>hd c (by simp [hc]);split at h
    ·cases h;exact ⟨by simp only [yU,jI,this.1,QM],by simp [this.2]⟩
    ·cases h;exact ⟨by simp only [yU,jI,this.1,QM],by simp [this.2]⟩
    ·cases h
   ·cases h
theorem jDY {t:TypeId} {x:Operand} {ev:Operand->Value} (ho:o.op = .box t x) (w:World):(execOp ev o).run P w = .ok (.value (.pointer (some ⟨w.heap.size,0,none⟩))) (w.alloc (.cells (ev x).cells t)):=by
 simp [execOp,ho,Instr.box,newVar,newRow]
theorem zB.box {t:TypeId} {x:Operand} (ho:o.op = .box t x) {v:V} (hv:∀(w:World) (O:Nat->Prop) (m:zV) (u:Value),relV w O m (ρ x) u->relV w O m v u) {ds:List V} (hc:jcE v ds) {nid:Nat} :zB P X o ρ ⟨.ptr nid 0,[.fresh nid],[.obj nid (.box ds)]⟩:=by
 intro w O0 m st ev hs hg hr _hc;obtain ⟨h1,h2⟩:=hc _ _ _ _ (hv _ _ _ _ (hr x (by simp [ho,Op.operands])));rw [jDY ho];exact jgW hs (Kz w _) (by rw [JN];omega) (hg (.fresh nid) (by simp)) (heap_alloc_new w _) h2 h1
theorem zB.alloc {t:TypeId} (ho:o.op = .alloc t) {i:TI} (hi:TI.ok P t i) {ds:List V} (hz:∀(w:World) (O:Nat->Prop) (m:zV),jx w O m ds i.zero.cells.toList) (hone:jJ i.zero.cells.toList) {nid:Nat} :
  zB P X o ρ ⟨.ptr nid 0,[.fresh nid],[.obj nid (.box ds)]⟩:=by
 intro w O0 m st ev hs hg hr _hc;have hrun:(execOp ev o).run P w = .ok (.value (.pointer (some ⟨w.heap.size,0,none⟩))) (w.alloc (.cells i.zero.cells t)):=by
  simp [execOp,ho,Instr.alloc,hi.run_zero w,newVar,newRow]
 rw [hrun];exact jgW hs (Kz w _) (by rw [JN];omega) (hg (.fresh nid) (by simp)) (heap_alloc_new w _) hone (hz _ _ _)
theorem zB.indexRow {t:TypeId} {x ix:Operand} (ho:o.op = .indexAddr t x ix) {e:Nat} (ht:P.underlying t=some (.slice e)) {i:TI} (hi:TI.ok P e i) {id len n:Nat} {b:A} (hx:ρ x = .row id) (hn:dat (ρ ix)=some b) (h:Zf len b=some n) :
  zB P X o ρ ⟨.rptr id n i.size 0,[.len id i.size len],[]⟩:=by
 refine zB.same λw O0 m st ev hs hg hr=> ?_;have hx':=hr x (by simp [ho,Op.operands]);have hn':=kY hn (hr ix (by simp [ho,Op.operands]));rw [hx] at hx';obtain ⟨kk,z,rfl,h0,h2,rfl⟩:=jjr h;obtain ⟨xs,g1,rfl⟩:=hg _ (ku.2 rfl);obtain ⟨hd,q1,q2,q3⟩:=jjN hs g1 hx';simp only [rel] at hn';cases hd with
 | none=>simp only [rowOk] at q3;subst q3;simp at h2;omega
 | blk b c n=>
  obtain ⟨rfl,_⟩:=q3;simp only [hdr] at q2;have hb:0<=z/\z < (xs.length:Int):=⟨h0,h2⟩;refine ⟨.pointer (some ⟨b,z.toNat * i.size,none⟩),?_,?_⟩
  ·simp only [execOp,ho,Instr.indexAt,q2,hn',asIntOf,yz,yG,ym,zP ht,hb,and_self,Jw,hi.run_sizeOf w,Kr,Sem.run_ite,yd]
  ·simp only [relV];exact ⟨_,b,q1,rfl,by simp⟩
 | tre=>exact q3.elim
 | mp=>exact q3.elim
theorem zB.sliceRow {t:TypeId} {x:Operand} {lo hi:Option Operand} (ho:o.op = .slice t x lo hi none) {e:Nat} (ht:P.underlying t=some (.slice e)) {i:TI} (hi':TI.ok P e i) {id:Nat} {xs:List (List A)} (hx:ρ x = .row id)
  {alo ahi:Option A} (hlo:∀y,lo=some y-> ∃a,alo=some a/\dat (ρ y)=some a) (hlo0:lo=none->alo=none) (hhi:∀y,hi=some y-> ∃a,ahi=some a/\dat (ρ y)=some a) (hhi0:hi=none->ahi=none)
  {r:A} (h:yq i.size (.sl i.size xs) alo ahi=some r):zB P X o ρ ⟨.d r,[.obj id (.row i.size xs)],[.obj id (.fro i.size xs)]⟩:=by
 intro w O0 m st ev hs hg hr _hc;have hid:st id = .row i.size xs:=hg _ (ku.2 rfl);have hx':=hr x (by simp [ho,Op.operands]);rw [hx] at hx';have hs1:=hs.freeze hid;have hsub:∀b,Ow O0 m (upd st id (.fro i.size xs)) b->Ow O0 m st b:=jfJ λh=>by cases h
 have hdata:rel w (Ow O0 m (upd st id (.fro i.size xs))) (.sl i.size xs) (ev x):=by
  refine ZG hs1 (id:=id) (jU _ _ _) ?_;simp only [relV] at hx' ⊢;exact hx'
 have hd:∀y,y∈o.op.operands-> ∀a,dat (ρ y)=some a->rel w (Ow O0 m (upd st id (.fro i.size xs))) a (ev y):=λy hy a ha=>yc (MonoW.sub hsub) _ _ (kY ha (hr y hy));obtain ⟨z,h1,h2⟩:=jlM (P:=P) (w:=w) (O:=Ow O0 m (upd st id (.fro i.size xs))) (ev:=ev) ho ht hi' hdata (alo:=alo) (ahi:=ahi)
  (λy hy=>by obtain ⟨a,e1,e2⟩:=hlo y hy;exact ⟨a,e1,hd y (by simp [ho,Op.operands,hy]) a e2⟩) hlo0 (λy hy=>by obtain ⟨a,e1,e2⟩:=hhi y hy;exact ⟨a,e1,hd y (by simp [ho,Op.operands,hy]) a e2⟩) hhi0 h
 rw [h1];exact ⟨m,Chg.ghost λh=>(by cases h),hs1,by simp only [relV];exact h2⟩
end
end
noncomputable section
def qj (xs:List (List A)) (off:Nat) (ys:List (List A)):List (List A):=over xs off ys
def yW (xs:List (List A)) (off n:Nat):List (List A):=(xs.drop off).take n
def yi (xs:List (List A)) (off:Nat):Nat:=xs.length - off
def yM (xs:List (List A)):Nat:=xs.length
def jwX (ys:List (List A)) (n:Nat):A:=vi (Nat.min ys.length n)
def jlD (ys:List (List A)) (n:Nat):List (List A):=ys.take n
def jly (off n:Nat) (ys xs:List (List A)):Bool:=decide (off+n+ys.length<=xs.length)
def jDA (a b:Nat):Nat:=a+b
def kP (a b:Nat):Nat:=a - b
def pB (d top:Nat) (x:Option A):Option Nat:=
 match x with
 | none=>if d<=top then some d else none
 | some (.val (.int _ z))=>if 0<=z/\z<=(top:Int) then some z.toNat else none
 | _=>none
def pLo (top:Nat):Option A->Option Nat
 | none=>some 0
 | some a=>pB 0 top (some a)
theorem jAJ (top:Nat) (x:Option A):pLo top x=pB 0 top x:=by cases x<;>simp [pLo,pB]
def yk (a:A):Nat:=match a with | .val (.int _ z)=>z.toNat|_=>0
theorem jMb (n:Nat):yk (nA n)=n:=rfl
structure WP where
 id:Nat
 k:Nat
 off:Nat
 n:Nat
 xs:List (List A)
def jgh (st:jB):V->Option WP
 | .row id=>(match st id with | .row k xs=>some ⟨id,k,0,yM xs,xs⟩|_=>none)
 | .win id k off n=>(match st id with | .row k' xs=>if Nat.beq k' k then some ⟨id,k',off,n,xs⟩ else none|_=>none)
 | _=>none
def jpH (op:BinOp):Bool:=match op with | .neq=>true|_=>false
def jGs (op:BinOp):Bool:=match op with | .eql=>true | .neq=>true|_=>false
section
variable {P:Program} {X:Ctx} {o:Oper} {ρ:Operand->V} {C:Cfg}
theorem jEo {w:World} {O:Nat->Prop} {k:Nat} {xs:List (List A)} {hd:Hd} {v:Value} (h:rowOk w O k xs hd) (hv:hdr hd v):Kf k 0 xs.length hd v:=by
 cases hd with
 | tre=>exact h.elim
 | mp=>exact h.elim
 | none=>simp only [rowOk] at h;simp only [hdr] at hv;subst h;exact ⟨rfl,rfl,hv⟩
 | blk b c l=>
  obtain ⟨rfl,h1,_⟩:=h;simp only [hdr] at hv;exact ⟨by omega,0,by simpa using hv,λ_=>by simp⟩
theorem K0 {st:jB} {v:V} {p:WP} (h:jgh st v=some p):st p.id = .row p.k p.xs/\
  ∀(w:World) (O0:Nat->Prop) (m:zV) (st':jB) (u:Value),Sto X w O0 m st'->yV st' (.len p.id p.k p.xs.length)->relV w (Ow O0 m st') m v u->
   ∃hd xs',m p.id=some hd/\st' p.id = .row p.k xs'/\xs'.length=p.xs.length/\Kf p.k p.off p.n hd u/\rowOk w (Ow O0 m st') p.k xs' hd:=by
 unfold jgh at h;split at h
 ·rename_i id;split at h
  ·rename_i k xs hst;cases h;refine ⟨hst,λw O0 m st' u hs hg hr=> ?_⟩;obtain ⟨xs',g1,g2⟩:=hg;obtain ⟨hd,q1,q2,q3⟩:=jjN hs g1 hr;exact ⟨hd,xs',q1,g1,g2,by show Kf k 0 xs.length hd u;rw [<-g2];exact jEo q3 q2,q3⟩
  ·cases h
 ·rename_i id k off n;split at h
  ·rename_i k' xs hst;split at h
   ·rename_i hk;have hk:=zw hk;subst hk;cases h;refine ⟨hst,λw O0 m st' u hs hg hr=> ?_⟩;obtain ⟨xs',g1,g2⟩:=hg;simp only [relV] at hr;obtain ⟨hd,q1,q2⟩:=hr;have ho:=hs.obj id;rw [g1] at ho;obtain ⟨hd',e1,e2⟩:=ho;rw [q1] at e1;cases e1;exact ⟨hd,xs',q1,g1,g2,q2,e2⟩
   ·cases h
  ·cases h
 ·cases h
theorem jD9 {w:World} {O:Nat->Prop} {k off n:Nat} {xs:List (List A)} {hd:Hd} {v:Value} (h:rowOk w O k xs hd) (hv:Kf k off n hd v):jdd w O k ((xs.drop off).take n) v:=by
 cases hd with
 | tre=>exact h.elim
 | mp=>exact h.elim
 | none=>
  simp only [rowOk] at h;simp only [Kf] at hv;obtain ⟨rfl,rfl,a,rfl⟩:=hv;subst h;exact ⟨a,0,[],by simp,by simp [jS],(λv h=>by cases h),by simp,Or.inl (by simp)⟩
 | blk b cap l=>
  obtain ⟨rfl,h1,h2,h3,c,T,h4,h5,h6,h7⟩:=h;simp only [Kf] at hv;obtain ⟨hl,q,rfl,hq⟩:=hv;have hlen:((xs.drop off).take n).length=n:=by simp;omega
  have hr:=J1 (w:=w) (O:=O) (b:=b) (off:=0) h3 h7 ((Reads.block h4).take _) h6;have hr:=Yo n (Yn off hr (by omega));obtain ⟨vs,g1,g2,g4,g3⟩:=jaE hr;refine ⟨_,cap - off,vs,by rw [hlen],g1,g4,g3,?_⟩;by_cases hn:n=0
  ·subst hn;left;simp
  ·right;have hqe:=hq (by omega);subst hqe;exact ⟨b,off * k,rfl,by simpa using g2⟩
theorem Yh {α:Type} {k:Nat} :∀(xs:List (List α)) (n:Nat),(∀y∈xs,y.length=k)->(xs.take n).flatten=xs.flatten.take (n * k)
 | [],n,_=>by simp
 | x::xs,0,_=>by simp
 | x::xs,n+1,h=>by
  have hx:=h x (by simp);rw [jou,J6,J6,Yh xs n λy hy=>h y (by simp [hy]),show (n+1) * k=x.length+n * k by rw [yF];omega,List.take_length_add_append]
theorem jeL {α:Type} {k:Nat} :∀(xs:List (List α)) (n:Nat),(∀y∈xs,y.length=k)->(xs.drop n).flatten=xs.flatten.drop (n * k)
 | [],n,_=>by simp
 | x::xs,0,_=>by simp
 | x::xs,n+1,h=>by
  have hx:=h x (by simp);rw [jka,J6,jeL xs n λy hy=>h y (by simp [hy]),show (n+1) * k=x.length+n * k by rw [yF];omega,List.drop_length_add_append]
theorem jnq {α:Type} {k:Nat} {xs ys:List (List α)} {off:Nat} (hx:∀y∈xs,y.length=k) (hy:∀y∈ys,y.length=k):(over xs off ys).flatten=over xs.flatten (off * k) ys.flatten:=by
 unfold over;rw [List.flatten_append,List.flatten_append,Yh xs off hx,jeL xs _ hx,qA hy,yF]
theorem jn6 (P:Program) {w:World} {O0:Nat->Prop} {m:zV} {st:jB} (hs:Sto X w O0 m st) {id k b c l:Nat} {xs:List (List A)} (hid:st id = .row k xs) (hm:m id=some (.blk b c l)) {ys:List (List A)} {us:List Value}
  (hu:jS w (Ow O0 m st) ys.flatten us) (hone:jJ us) (hk:∀y∈ys,y.length=k) {off:Nat} (hl:off+ys.length<=xs.length) :
  ∃W,(storeCells ⟨b,off * k,none⟩ us).run P w = .ok () W/\Chg w m st W m (upd st id (.row k (over xs off ys)))/\Sto X W O0 m (upd st id (.row k (over xs off ys))):=by
 have hob:=hs.obj id;rw [hid] at hob;obtain ⟨hd,q1,q2⟩:=hob;rw [hm] at q1;cases q1;obtain ⟨q0,q6,q7,q8,cc,T,q3,q9,q4,q5⟩:=q2;have l1:=kC hu;rw [qA hk] at l1;have hfit:off * k+ys.length * k<=xs.length * k:=by rw [<-yF];exact jbg k hl
 have hcap:xs.length * k<=cc.size:=by rw [q9];exact jbg k q6
 obtain ⟨W,hst,w1,w2,w3,w4,w5,w6⟩:=jaV P q3 (off * k) us (by rw [l1];omega) hone
 have hal:(st id).alive=true:=by rw [hid];rfl
 obtain ⟨k1,k2⟩:=jf9 hs hal hm (o':= .row k (over xs off ys)) rfl w1 w2 w3 w4 w5 λhmono=>by
  have hol:=ZR (cs:=xs) (ds:=ys) hl;refine ⟨_,hm,by rw [hol];exact q0,by rw [hol];exact q6,q7,?_,_,T,w6,?_,?_,?_⟩
  ·intro y hy;unfold over at hy;rcases kZ.1 hy with hy|hy
   ·rcases kZ.1 hy with hy|hy
    ·exact q8 y (jd3 hy)
    ·exact hk y hy
   ·exact q8 y (jd4 hy)
  ·rw [List.size_toArray,ZR (by simp only [jao];omega),jao];exact q9
  ·rw [hol];rw [jcZ _ _ _ _ (by rw [l1];exact hfit) (by simpa using hcap)];exact jJ.over q4 hone _
  ·rw [hol,jnq q8 hk];rw [jcZ _ _ _ _ (by rw [l1];exact hfit) (by simpa using hcap)];exact zv hmono _ _ (jcU q5 hu)
 exact ⟨W,hst,k1,k2⟩
theorem Yl {d top:Nat} {x:Option A} {n:Nat} (h:pB d top x=some n):n<=top/\((x=none/\n=d)\/ ∃k,x=some (.val (.int k n))):=by
 unfold pB at h;split at h
 ·split at h
  ·cases h;exact ⟨by assumption,Or.inl ⟨rfl,rfl⟩⟩
  ·cases h
 ·rename_i k z;split at h
  ·rename_i hz;cases h;refine ⟨by omega,Or.inr ⟨k,?_⟩⟩;rw [show ((z.toNat:Nat):Int)=z by omega]
  ·cases h
 ·cases h
theorem jcf {ev:Operand->Value} {w:World} {O:Nat->Prop} {lo hi:Option Operand} {alo ahi:Option A} {len cap top:Nat} (hlo:∀y,lo=some y-> ∃a,alo=some a/\rel w O a (ev y)) (hlo0:lo=none->alo=none) (hhi:∀y,hi=some y-> ∃a,ahi=some a/\rel w O a (ev y)) (hhi0:hi=none->ahi=none)
  {l h:Nat} (hh:pB len top ahi=some h) (hl:pB 0 h alo=some l) (ht:top<=cap) :
  (Instr.sliceBounds true len cap (lo.map ev) (hi.map ev) none).run P w = .ok (l,h,cap) w:=by
 obtain ⟨h1,h2⟩:=Yl hh;obtain ⟨l1,l2⟩:=Yl hl;have el:∀y,lo=some y-> ∃k,ev y = .int k l:=by
  intro y hy;obtain ⟨a,rfl,ha⟩:=hlo y hy;rcases l2 with ⟨l2,_⟩|⟨k,l2⟩
  ·cases l2
  ·cases l2;simp only [rel] at ha;exact ⟨_,ha⟩
 have el0:lo=none->l=0:=λhy=>by
  rcases l2 with ⟨_,l2⟩|⟨k,l2⟩
  ·exact l2
  ·rw [hlo0 hy] at l2;cases l2
 have eh:∀y,hi=some y-> ∃k,ev y = .int k h:=by
  intro y hy;obtain ⟨a,rfl,ha⟩:=hhi y hy;rcases h2 with ⟨h2,_⟩|⟨k,h2⟩
  ·cases h2
  ·cases h2;simp only [rel] at ha;exact ⟨_,ha⟩
 have eh0:hi=none->h=len:=λhy=>by
  rcases h2 with ⟨_,h2⟩|⟨k,h2⟩
  ·exact h2
  ·rw [hhi0 hy] at h2;cases h2
 have hc:h<=cap:=by omega
 cases lo with
 | none=>
  have:=el0 rfl;subst this;cases hi with
  | none=>
   have:=eh0 rfl;subst this;simp [Instr.sliceBounds]
  | some z=>
   obtain ⟨k,hz⟩:=eh z rfl;simp [Instr.sliceBounds,Instr.sliceBound,hz,asIntOf,hc]
 | some y=>
  obtain ⟨k,hy⟩:=el y rfl;cases hi with
  | none=>
   have:=eh0 rfl;subst this;simp [Instr.sliceBounds,Instr.sliceBound,hy,asIntOf,l1]
  | some z=>
   obtain ⟨k',hz⟩:=eh z rfl;simp [Instr.sliceBounds,Instr.sliceBound,hy,hz,asIntOf,hc,l1]
theorem zB.winSlice {t:TypeId} {x:Operand} {lo hi:Option Operand} (ho:o.op = .slice t x lo hi none) {e:Nat} (ht:P.underlying t=some (.slice e)) {i:TI} (hi':TI.ok P e i) {st0:jB} {p:WP} (hp:jgh st0 (ρ x)=some p) (hk:p.k=i.size)
  {alo ahi:Option A} (hlo:∀y,lo=some y-> ∃a,alo=some a/\dat (ρ y)=some a) (hlo0:lo=none->alo=none) (hhi:∀y,hi=some y-> ∃a,ahi=some a/\dat (ρ y)=some a) (hhi0:hi=none->ahi=none)
  {l h:Nat} (hh:pB p.n (p.xs.length - p.off) ahi=some h) (hl:pB 0 h alo=some l) :
  zB P X o ρ ⟨.win p.id p.k (p.off+l) (h - l),[.len p.id p.k p.xs.length],[]⟩:=by
 refine zB.same λw O0 m st ev hs hg hr=> ?_;have hx':=hr x (by simp [ho,Op.operands]);obtain ⟨hd,xs',e1,e2,e3,e4,e5⟩:=(K0 (X:=X) hp).2 w O0 m st _ hs (hg _ (ku.2 rfl)) hx';have hlo':∀y,lo=some y-> ∃a,alo=some a/\rel w (Ow O0 m st) a (ev y):=λy hy=>by
  obtain ⟨a,f1,f2⟩:=hlo y hy;exact ⟨a,f1,kY f2 (hr y (by simp [ho,Op.operands,hy]))⟩
 have hhi'':∀y,hi=some y-> ∃a,ahi=some a/\rel w (Ow O0 m st) a (ev y):=λy hy=>by
  obtain ⟨a,f1,f2⟩:=hhi y hy;exact ⟨a,f1,kY f2 (hr y (by simp [ho,Op.operands,hy]))⟩
 obtain ⟨b1,_⟩:=Yl hh;obtain ⟨b2,_⟩:=Yl hl;cases hd with
 | tre=>exact e4.elim
 | mp=>exact e4.elim
 | none=>
  simp only [rowOk] at e5;simp only [Kf] at e4;obtain ⟨q1,q2,a,q3⟩:=e4;have hx0:p.xs.length=0:=by rw [<-e3,e5];rfl
  have hh0:h=0:=by omega
  subst hh0;have hl0:l=0:=by omega
  subst hl0;rw [q2] at hh;have hb:=jcf (P:=P) (w:=w) (ev:=ev) (cap:=0) hlo' hlo0 hhi'' hhi0 hh hl (by omega);refine ⟨.slice a 0 0,?_,?_⟩
  ·simp [execOp,ho,Instr.sliceAt,q3,zP ht,Instr.slice,hb,hi'.run_sizeOf w]
  ·simp only [relV];exact ⟨_,e1,by simp [q1],by simp,a,rfl⟩
 | blk b c ll=>
  obtain ⟨f1,f2,f3,f4,_⟩:=e5;simp only [Kf] at e4;obtain ⟨q1,q,q3,q4⟩:=e4;have hb:=jcf (P:=P) (w:=w) (ev:=ev) (cap:=c - p.off) hlo' hlo0 hhi'' hhi0 hh hl (by omega);by_cases hcl:c - p.off=l
  ·refine ⟨.slice (some ⟨b,q,none⟩) (h - l) (c - p.off - l),?_,?_⟩
   ·rw [hcl] at hb;simp [execOp,ho,Instr.sliceAt,q3,zP ht,Instr.slice,hb,hi'.run_sizeOf w,hcl]
   ·simp only [relV];exact ⟨_,e1,by omega,q,by congr 1;omega,λhlt=>by omega⟩
  ·refine ⟨.slice (some ⟨b,q+l * i.size,none⟩) (h - l) (c - p.off - l),?_,?_⟩
   ·simp [execOp,ho,Instr.sliceAt,q3,zP ht,Instr.slice,hb,hi'.run_sizeOf w,hcl,Kr]
   ·simp only [relV];refine ⟨_,e1,by omega,_,by congr 1;omega,λhlt=> ?_⟩;rw [q4 (by omega),<-hk,yF]
theorem zB.win3 {t:TypeId} {x l h mx:Operand} (ho:o.op = .slice t x (some l) (some h) (some mx)) {e:Nat} (ht:P.underlying t=some (.slice e)) {i:TI} (hi':TI.ok P e i) {st0:jB} {p:WP} (hp:jgh st0 (ρ x)=some p)
  {al ah am:A} (hl:dat (ρ l)=some al) (hh:dat (ρ h)=some ah) (hm:dat (ρ mx)=some am) {ln hn mn:Nat} (b1:pB 0 (p.xs.length - p.off) (some am)=some mn) (b2:pB 0 mn (some ah)=some hn) (b3:pB 0 hn (some al)=some ln) :
  zB P X o ρ ⟨.top,[.len p.id p.k p.xs.length],[]⟩:=by
 refine zB.same λw O0 m st ev hs hg hr=> ?_;have hx':=hr x (by simp [ho,Op.operands]);obtain ⟨hd,xs',e1,e2,e3,e4,e5⟩:=(K0 (X:=X) hp).2 w O0 m st _ hs (hg _ (ku.2 rfl)) hx';have v1:=kY hl (hr l (by simp [ho,Op.operands]));have v2:=kY hh (hr h (by simp [ho,Op.operands]));have v3:=kY hm (hr mx (by simp [ho,Op.operands]));obtain ⟨c1,d1⟩:=Yl b1;obtain ⟨c2,d2⟩:=Yl b2;obtain ⟨c3,d3⟩:=Yl b3;obtain ⟨k1,d1⟩:=d1.resolve_left (λh=>by cases h.1);obtain ⟨k2,d2⟩:=d2.resolve_left (λh=>by cases h.1);obtain ⟨k3,d3⟩:=d3.resolve_left (λh=>by cases h.1);cases d1;cases d2;cases d3;simp only [rel] at v1 v2 v3;obtain ⟨a,n,c,hv,hc⟩:∃a n c,ev x = .slice a n c/\p.xs.length - p.off<=c:=by
  cases hd with
  | tre=>exact e4.elim
  | mp=>exact e4.elim
  | none=>
   simp only [rowOk] at e5;simp only [Kf] at e4;obtain ⟨q1,q2,a,q3⟩:=e4;refine ⟨a,0,0,q3,?_⟩;rw [<-e3,e5];simp
  | blk b c ll=>
   obtain ⟨f1,f2,_⟩:=e5;simp only [Kf] at e4;obtain ⟨_,q,q3,_⟩:=e4;exact ⟨_,_,_,q3,by omega⟩
 have hmc:mn<=c:=by omega
 have hb:(Instr.sliceBounds true n c (some (ev l)) (some (ev h)) (some (ev mx))).run P w = .ok (ln,hn,mn) w:=by
  simp [Instr.sliceBounds,Instr.sliceBound,v1,v2,v3,asIntOf,hmc,c2,c3]
 refine ⟨_,by simp [execOp,ho,Instr.sliceAt,hv,zP ht,Instr.slice,hb,hi'.run_sizeOf w];rfl,by simp [relV]⟩
theorem zB.winIndex {t:TypeId} {x ix:Operand} (ho:o.op = .indexAddr t x ix) {e:Nat} (ht:P.underlying t=some (.slice e)) {i:TI} (hi:TI.ok P e i) {id off n j:Nat} {b:A} (hx:ρ x = .win id i.size off n) (hn:dat (ρ ix)=some b) (h:Zf n b=some j)
  {xs:List (List A)} :zB P X o ρ ⟨.rptr id (off+j) i.size 0,[.len id i.size xs.length],[]⟩:=by
 refine zB.same λw O0 m st ev hs hg hr=> ?_;have hx':=hr x (by simp [ho,Op.operands]);have hn':=kY hn (hr ix (by simp [ho,Op.operands]));rw [hx] at hx';obtain ⟨kk,z,rfl,h0,h2,rfl⟩:=jjr h;obtain ⟨xs',g1,g2⟩:=hg _ (ku.2 rfl);simp only [relV] at hx';obtain ⟨hd,q1,q2⟩:=hx';have ho':=hs.obj id;rw [g1] at ho';obtain ⟨hd',e1,e2⟩:=ho';rw [q1] at e1;cases e1;simp only [rel] at hn';cases hd with
 | tre=>exact q2.elim
 | mp=>exact q2.elim
 | none=>simp only [Kf] at q2;omega
 | blk bb c l=>
  obtain ⟨rfl,f1,_⟩:=e2;simp only [Kf] at q2;obtain ⟨r1,q,r2,r3⟩:=q2;have hqe:=r3 (by omega);subst hqe;have hb:0<=z/\z < (n:Int):=⟨h0,h2⟩;refine ⟨.pointer (some ⟨bb,off * i.size+z.toNat * i.size,none⟩),?_,?_⟩
  ·simp only [execOp,ho,Instr.indexAt,r2,hn',asIntOf,yz,yG,ym,zP ht,hb,and_self,Jw,hi.run_sizeOf w,Kr,Sem.run_ite]
  ·simp only [relV];exact ⟨_,bb,q1,rfl,by rw [yF];simp⟩
theorem Qb (z:Array Value):∀n,(Builtin.zeroCells z n).toList=(List.replicate n z.toList).flatten
 | 0=>by simp [Builtin.zeroCells]
 | n+1=>by
  have ih:=Qb z n;rw [jcB,J6,<-ih];unfold Builtin.zeroCells;rw [jkn,jkn,jrQ,jrQ,show (n+1) * z.size=z.size+n * z.size by rw [yF];omega,List.range_add,zy,qa];congr 1
  ·refine jbh λj=> ?_;rw [Jv];by_cases h:j < z.size
   ·rw [jfs h];simp [Nat.mod_eq_of_lt h,h]
   ·rw [y9 (by simpa using h),y9 (by simpa using h)];rfl
  ·refine K3 λj _=> ?_;simp
theorem jd2 {st:jB} {id:Nat} {o':Obj} :zi st [.obj id o']=upd st id o':=rfl
theorem upd_same {st:jB} {id:Nat} {o':Obj} (h:st id=o'):upd st id o'=st:=by
 funext q;by_cases e:q=id
 ·subst e;rw [jU,h]
 ·rw [upd_ne _ _ e]
theorem zB.winClear {x:Operand} {xs0:Array Operand} {ts:Array TypeId} {t:TypeId} (ho:o.op = .call { callee:= .builtin .clear,args:=xs0,argTypes:=ts }) (hxs:xs0 = #[x]) (hts:ts = #[t])
  {e:Nat} (ht:P.underlying t=some (.slice e)) {i:TI} (hi:TI.ok P e i) {st0:jB} {p:WP} (hp:jgh st0 (ρ x)=some p) (hk:p.k=i.size) {z:List A} (hz:∀(w:World) (O:Nat->Prop),jS w O z i.zero.cells.toList) (hzo:z.all jI=true) :
  zB P X o ρ ⟨.tup [],[.obj p.id (.row p.k p.xs)],[.obj p.id (.row p.k (qj p.xs p.off (List.replicate p.n z)))]⟩:=by
 intro w O0 m st ev hs hg hr _hc;have hx':=hr x (by simp [ho,Op.operands,Call.operands,hxs]);have hid:st p.id = .row p.k p.xs:=hg _ (ku.2 rfl);obtain ⟨hd,xs',e1,e2,e3,e4,e5⟩:=(K0 (X:=X) hp).2 w O0 m st _ hs ⟨p.xs,hid,rfl⟩ hx';rw [hid] at e2;cases e2;obtain ⟨jj,hj,j1,j2,j3⟩:=hi.some_info;have hrun:∀v' w',(Builtin.clear_ ts o.type #[ev x]).run P w = .ok v' w'->(execOp ev o).run P w = .ok (.value v') w':=by
  intro v' w' h;subst hxs;simp [execOp,ho,resolve,invoke,builtin,h]
 have hnil:p.n=0->(Builtin.clear_ ts o.type #[ev x]).run P w = .ok (.tuple #[]) w/\zi st [.obj p.id (.row p.k (qj p.xs p.off (List.replicate p.n z)))]=st:=by
  intro h0;constructor
  ·subst hts;cases hd with
   | tre=>exact e4.elim
   | mp=>exact e4.elim
   | none=>simp only [Kf] at e4;obtain ⟨_,_,a,q3⟩:=e4;cases a<;>simp [Builtin.clear_,zP ht,q3]
   | blk b c l=>simp only [Kf] at e4;obtain ⟨_,q,q3,_⟩:=e4;simp [Builtin.clear_,zP ht,q3,h0]
  ·rw [h0,jd2];exact upd_same (by rw [hid];simp [qj,over])
 by_cases h0:p.n=0
 ·obtain ⟨a1,a2⟩:=hnil h0;rw [hrun _ _ a1];refine ⟨m,?_,?_,?_⟩
  ·rw [a2];exact Chg.refl _ _ _
  ·rw [a2];exact hs
  ·simp only [relV];exact ⟨[],rfl,by simp [jx]⟩
 ·cases hd with
  | tre=>exact e4.elim
  | mp=>exact e4.elim
  | none=>simp only [Kf] at e4;omega
  | blk b c l=>
   have e5':=e5;obtain ⟨rfl,f1,f2,f3,_⟩:=e5;simp only [Kf] at e4;obtain ⟨q1,q,q3,q4⟩:=e4;have hqe:=q4 (by omega);subst hqe;have hzl:z.length=i.size:=by rw [<-kC (hz w (Ow O0 m st))];simpa using hi.zsize
   have hrep:∀n,jS w (Ow O0 m st) (List.replicate n z).flatten (List.replicate n i.zero.cells.toList).flatten:=by
    intro n;induction n with
    | zero=>simp [jS]
    | succ n ih=>rw [jcB,jcB,J6,J6];exact yu (hz _ _) ih
   have hcells:(Builtin.zeroCells i.zero.cells p.n).toList=(List.replicate p.n i.zero.cells.toList).flatten:=by
    exact Qb _ _
   have hone:jJ (List.replicate p.n i.zero.cells.toList).flatten:=by
    have h1:∀ {as:List A} {us:List Value},jS w (Ow O0 m st) as us->as.all jI=true->jJ us:=by
     intro as;induction as with
     | nil=>intro us h _;simp only [jS] at h;subst h;intro v hv;cases hv
     | cons a as ih=>
      intro us h hk;simp only [jS,yU,jy] at h hk;obtain ⟨v,t,rfl,g1,g2⟩:=h;intro y hy;rcases jZ.1 hy with rfl|hy
      ·exact je7 g1 hk.1
      ·exact ih g2 hk.2 y hy
    intro v hv;obtain ⟨l,hl,hv⟩:=jox.1 hv;rw [jgn hl] at hv;exact h1 (hz w (Ow O0 m st)) hzo v hv
   obtain ⟨W,hst,k1,k2⟩:=jn6 P hs hid e1 (ys:=List.replicate p.n z) (hrep p.n) hone (λy hy=>by rw [jgn hy,hzl,hk]) (off:=p.off) (by simpa using q1);have hcl:(Builtin.clear_ ts o.type #[ev x]).run P w = .ok (.tuple #[]) W:=by
    subst hts;have hst':(storeCells ⟨b,p.off * p.k,none⟩ (Builtin.zeroCells i.zero.cells p.n).toList).run P w = .ok () W:=by rw [hcells];exact hst
    simp [Builtin.clear_,zP ht,q3,zeroValue,typeInfo,hj,j3,hst']
   rw [hrun _ _ hcl];exact ⟨m,k1,k2,by simp only [relV];exact ⟨[],rfl,by simp [jx]⟩⟩
theorem zB.nilEq {op:BinOp} {t u:TypeId} {x y:Operand} (ho:o.op = .binOp op t x y u) (hop:jGs op=true) (hy:jnv y=true) {e:Nat} (ht:P.underlying t=some (.slice e)) {rds:List Rd} {N:Nat}
  (hv:∀(w:World) (O0:Nat->Prop) (m:zV) (st:jB) (v:Value),Sto X w O0 m st->(∀r∈rds,yV st r)->relV w (Ow O0 m st) m (ρ x) v-> ∃a n c,v = .slice a n c/\(N≠0->a.isNone=false)):zB P X o ρ ⟨.ub N (jpH op),rds,[]⟩:=by
 refine zB.sameC λw O0 m st ev hs hg hr hc=> ?_;obtain ⟨a,n,c,hx,hN⟩:=hv w O0 m st _ hs hg (hr x (by simp [ho,Op.operands]));have hy':ev y = .slice none 0 0:=by
  unfold jnv at hy;split at hy
  ·exact hc _
  ·cases hy
 have hd:∀(d:Nat) (w:World),(Op.equalIn (d+1) t (.slice a n c) (.slice none 0 0)).run P w = .ok a.isNone w:=by
  intro d w;cases a<;>simp [Op.equalIn,zP ht]
 have he:=hd 9999;cases op<;>simp only [jGs,Zi] at hop
 ·refine ⟨.bool a.isNone,?_,by simp only [relV,jpH];exact ⟨a.isNone,by simp,hN⟩⟩
  simp only [execOp,ho,hx,hy',eqGuard,binOp,Op.equal,Op.maxDepth];simp [he]
 ·refine ⟨.bool !a.isNone,?_,by simp only [relV,jpH];exact ⟨a.isNone,by simp,hN⟩⟩
  simp only [execOp,ho,hx,hy',eqGuard,binOp,Op.equal,Op.maxDepth];simp [he]
theorem zB.sliceNil {t:TypeId} {x:Operand} {lo hi:Option Operand} (ho:o.op = .slice t x lo hi none) {e:Nat} (ht:P.underlying t=some (.slice e)) {i:TI} (hi':TI.ok P e i) {k:Nat} (hx:ρ x = .nil k)
  {alo ahi:Option A} (hlo:∀y,lo=some y-> ∃a,alo=some a/\dat (ρ y)=some a) (hlo0:lo=none->alo=none) (hhi:∀y,hi=some y-> ∃a,ahi=some a/\dat (ρ y)=some a) (hhi0:hi=none->ahi=none)
  {l h:Nat} (hh:pB 0 0 ahi=some h) (hl:pB 0 h alo=some l):zB P X o ρ ⟨.nil i.size,[],[]⟩:=by
 refine zB.same λw O0 m st ev hs hg hr=> ?_;have hx':=hr x (by simp [ho,Op.operands]);rw [hx] at hx';simp only [relV] at hx' ⊢;obtain ⟨a,q3⟩:=hx';have hlo':∀y,lo=some y-> ∃a,alo=some a/\rel w (Ow O0 m st) a (ev y):=λy hy=>by
  obtain ⟨a,f1,f2⟩:=hlo y hy;exact ⟨a,f1,kY f2 (hr y (by simp [ho,Op.operands,hy]))⟩
 have hhi'':∀y,hi=some y-> ∃a,ahi=some a/\rel w (Ow O0 m st) a (ev y):=λy hy=>by
  obtain ⟨a,f1,f2⟩:=hhi y hy;exact ⟨a,f1,kY f2 (hr y (by simp [ho,Op.operands,hy]))⟩
 obtain ⟨b1,_⟩:=Yl hh;obtain ⟨b2,_⟩:=Yl hl;have hh0:h=0:=by omega
 subst hh0;have hl0:l=0:=by omega
 subst hl0;have hb:=jcf (P:=P) (w:=w) (ev:=ev) (cap:=0) hlo' hlo0 hhi'' hhi0 hh hl (by omega);exact ⟨.slice a 0 0,by simp [execOp,ho,Instr.sliceAt,q3,zP ht,Instr.slice,hb,hi'.run_sizeOf w],a,rfl⟩
theorem zB.appendZ {s x:Operand} {xs:Array Operand} {ts:Array TypeId} {t t':TypeId} (ho:o.op = .call { callee:= .builtin .append,args:=xs,argTypes:=ts }) (hxs:xs = #[s,x]) (hts:ts = #[t,t'])
  {e:Nat} (ht:P.underlying t=some (.slice e)) {k:IntKind} (ht':P.underlying t'=some (.int k)) {i:TI} (hi:TI.ok P e i) {k0:Nat} (hs:ρ s = .nil k0) {kl:IntKind} {n:Int} (hx:dat (ρ x)=some (.val (.int kl n))) {nid:Nat}
  (h0:0<=n) (hfit:n.toNat * i.bytes<=140737488355328) (h63:n.toNat<=9223372036854775807) {z:List A} (hz:∀w O,jS w O z i.zero.cells.toList) (hone:jJ i.zero.cells.toList) :
  zB P X o ρ ⟨.row nid,[.fresh nid],[.obj nid (.row i.size (List.replicate n.toNat z))]⟩:=by
 intro w O0 m st ev hst hg hr _hc;have hs':=hr s (by simp [ho,Op.operands,Call.operands,hxs]);have hx':=kY hx (hr x (by simp [ho,Op.operands,Call.operands,hxs]));rw [hs] at hs';simp only [relV] at hs';simp only [rel] at hx';obtain ⟨a,hs'⟩:=hs';obtain ⟨jj,hj,j1,j2,j3⟩:=hi.some_info;have hf:st nid = .dead:=hg (.fresh nid) (by simp);obtain ⟨N,rfl⟩:=jcu h0;simp only [jgm] at hfit h63 ⊢;have hw:IntKind.i64.wrap (N:Int)=N:=jj7 ⟨by omega,by omega⟩;have hbig:¬(281474976710656 < (N:Int) * (jj.bytes:Int)):=by
  rw [j2];have:((N * i.bytes:Nat):Int)<=((140737488355328:Nat):Int):=Int.ofNat_le.2 hfit;rw [Int.natCast_mul] at this;generalize (N:Int) * (i.bytes:Int)=q at this ⊢;omega
 have hzlen:i.zero.cells.toList.length=i.size:=by simpa using hi.zsize
 have hzl:z.length=i.size:=by rw [<-kC (hz w (Ow O0 m st))];exact hzlen
 by_cases hN:N=0
 ·subst hN;have hrun:(execOp ev o).run P w = .ok (.value (.slice a 0 0)) w:=by
   refine Kt (P:=P) (ev:=ev) ho hxs ?_;rw [hts,hs',hx'];have hw0:IntKind.i64.wrap 0=0:=hw;cases a<;>simp [Builtin.append_,zP ht,zP ht',sizeOf,typeInfo,hj,asInt,asIntOf,hw0,storeCells]
  rw [hrun];exact JK hst (Below.refl _ _) hf (hd:= .none) ⟨a,rfl⟩ (Or.inl ⟨rfl,rfl⟩)
 ·have hpos:0 < N:=jrN hN;have hgc:=grownCap_ge w N 0 e;have hgm:=grownCap_le_maxLen w N 0 e (by simpa [maxLen] using h63);have n1:¬(N<=0):=by omega
  have n3:¬(281474976710656 < Builtin.nextslicecap N 0 * jj.bytes):=by
   have:=growslice_fits (bytes:=i.bytes) hpos hfit;rw [j2];omega
  have hlist:(Builtin.zeroCells i.zero.cells N++Builtin.zeroCells i.zero.cells (grownCap w N 0 e - N)).toList.take (N * i.size)=(List.replicate N i.zero.cells.toList).flatten:=by
   have hl:(List.replicate N i.zero.cells.toList).flatten.length=N * i.size:=by
    rw [qA (k:=i.size) λy hy=>by rw [jgn hy,hzlen],K4]
   rw [Array.toList_append,Qb,ja2 (by rw [hl];exact kz _),Zd (by rw [hl];exact kz _)]
  have hrep:∀N,jS w (Ow O0 m st) (List.replicate N z).flatten (List.replicate N i.zero.cells.toList).flatten:=by
   intro N;induction N with
   | zero=>simp [jS]
   | succ N ih=>rw [jcB,jcB,J6,J6];exact yu (hz _ _) ih
  have hones:jJ (List.replicate N i.zero.cells.toList).flatten:=by
   intro v hv;obtain ⟨l,hl,hv⟩:=jox.1 hv;rw [jgn hl] at hv;exact hone v hv
  have hrun:(execOp ev o).run P w = .ok (.value (.slice (some ⟨w.heap.size,0,none⟩) N (grownCap w N 0 e))) (w.drew.alloc (.cells (Builtin.zeroCells i.zero.cells N++Builtin.zeroCells i.zero.cells (grownCap w N 0 e - N)) e)):=by
   refine Kt (P:=P) (ev:=ev) ho hxs ?_;rw [hts,hs',hx'];have hold:(Builtin.firstCells jj.size 0 (.slice a 0 0)).run P w.drew = .ok #[] w.drew:=by
    cases a<;>simp [Builtin.firstCells,loadCells,loadCellsFrom]
   have n2:¬(9223372036854775807 < (N:Int)):=by omega
   have nneg:¬((N:Int) < 0):=by omega
   simp [Builtin.append_,zP ht,zP ht',sizeOf,typeInfo,zeroValue,hj,j3,asInt,asIntOf,hw,n1,n2,n3,nneg,hbig,Question.forced,hold,newRow,grownCap];rw [jf hN];by_cases hz0:N * jj.size=0
   ·have e0:Builtin.zeroCells i.zero.cells N = #[]:=by
     apply ZE;rw [Builtin.zeroCells,jkn,hi.zsize,<-j1,hz0];rfl
    rw [jg hz0,e0];simp
   ·rw [jf hz0]
  rw [hrun];refine JK hst (w':=w.drew.alloc _) (((Below.refl _ w).drew).alloc (by simp) _) hf (hd:= .blk w.heap.size (grownCap w N 0 e) (List.replicate N z).length) (by simp [hdr]) (Or.inr ⟨grownCap w N 0 e,_,e,rfl,?_,by simpa using hgc,by simpa [maxLen] using hgm,λy hy=>by rw [jgn hy,hzl],heap_alloc_new w.drew _,?_,?_,?_⟩)
  ·show w.heap.size < (w.drew.alloc _).heap.size;rw [JN];simp
  ·simp only [Array.size_append,Builtin.zeroCells,Array.size_map,Array.size_range,hi.zsize];rw [<-yF];congr 1;omega
  ·rw [K4,hlist];exact hones
  ·rw [K4,hlist];exact hrep N
theorem zB.winAppend {s x:Operand} {xs0:Array Operand} {ts:Array TypeId} {t:TypeId} (ho:o.op = .call { callee:= .builtin .append,args:=xs0,argTypes:=ts }) (hxs:xs0 = #[s,x]) (hts:ts = #[t,t])
  {e:Nat} (ht:P.underlying t=some (.slice e)) {i:TI} (hi:TI.ok P e i) {st0:jB} {p:WP} (hp:jgh st0 (ρ s)=some p) (hk:p.k=i.size) {ys:List (List A)} {rds:List Rd}
  (hx:∀(w:World) (O0:Nat->Prop) (m:zV) (st:jB) (u:Value),Sto X w O0 m st->(∀r∈rds,yV st r)->relV w (Ow O0 m st) m (ρ x) u->jdd w (Ow O0 m st) i.size ys u)
  (hfit:p.off+p.n+ys.length<=p.xs.length) :
  zB P X o ρ ⟨.win p.id p.k p.off (p.n+ys.length),.obj p.id (.row p.k p.xs)::rds,[.obj p.id (.row p.k (qj p.xs (p.off+p.n) ys))]⟩:=by
 intro w O0 m st ev hs hg hr _hc;have hs':=hr s (by simp [ho,Op.operands,Call.operands,hxs]);have hsrc:=hx w O0 m st _ hs (λr h=>hg r (by simp [h])) (hr x (by simp [ho,Op.operands,Call.operands,hxs]));have hid:st p.id = .row p.k p.xs:=hg (.obj p.id (.row p.k p.xs)) (by simp);obtain ⟨hd,xs',e1,e2,e3,e4,e5⟩:=(K0 (X:=X) hp).2 w O0 m st _ hs ⟨p.xs,hid,rfl⟩ hs';rw [hid] at e2;cases e2;obtain ⟨jj,hj,j1,j2,j3⟩:=hi.some_info;obtain ⟨ad,c2,news,hv,hnews,hok',hyk,hsrc⟩:=hsrc;have hnl:news.length=ys.length * i.size:=by rw [kC hnews,qA hyk]
 have same:ys = []->zi st [.obj p.id (.row p.k (qj p.xs (p.off+p.n) ys))]=st:=by
  rintro rfl;rw [jd2];exact upd_same (by rw [hid];simp [qj,over])
 cases hd with
 | tre=>exact e4.elim
 | mp=>exact e4.elim
 | none=>
  simp only [rowOk] at e5;simp only [Kf] at e4;obtain ⟨q1,q2,a,q3⟩:=e4;have hy0:ys = []:=by
   have hl:p.xs.length=0:=by rw [e5];rfl
   have:ys.length=0:=by omega
   exact jcv this
  have hrun:(execOp ev o).run P w = .ok (.value (.slice a 0 0)) w:=by
   refine Kt (P:=P) (ev:=ev) ho hxs ?_;rw [hts,q3,hv,hy0];have hf:(Builtin.firstCells i.size 0 (.slice ad 0 c2)).run P w = .ok #[] w:=by
    cases ad<;>simp [Builtin.firstCells,loadCells,loadCellsFrom]
   cases a<;>simp [Builtin.append_,zP ht,sizeOf,typeInfo,hj,j1,Builtin.lenOf,hf,storeCells]
  rw [hrun];refine ⟨m,?_,?_,?_⟩
  ·rw [same hy0];exact Chg.refl _ _ _
  ·rw [same hy0];exact hs
  ·simp only [relV];exact ⟨_,e1,q1,by rw [q2,hy0];rfl,a,rfl⟩
 | blk b c l=>
  have e5':=e5;obtain ⟨rfl,f1,f2,f3,_⟩:=e5;simp only [Kf] at e4;obtain ⟨q1,q,q3,q4⟩:=e4;have hroom:p.n+ys.length<=c - p.off:=by omega
  by_cases hy0:ys = []
  ·subst hy0;have hf:(Builtin.firstCells i.size 0 (.slice ad 0 c2)).run P w = .ok #[] w:=by
    cases ad<;>simp [Builtin.firstCells,loadCells,loadCellsFrom]
   have hrun:(execOp ev o).run P w = .ok (.value (.slice (some ⟨b,q,none⟩) p.n (c - p.off))) w:=by
    refine Kt (P:=P) (ev:=ev) ho hxs ?_;rw [hts,q3,hv];have hr':p.n<=c - p.off:=by omega
    simp [Builtin.append_,zP ht,sizeOf,typeInfo,hj,j1,Builtin.lenOf,hf,storeCells,hr']
   rw [hrun];refine ⟨m,?_,?_,?_⟩
   ·rw [same rfl];exact Chg.refl _ _ _
   ·rw [same rfl];exact hs
   ·simp only [relV,yw,j9];exact ⟨_,e1,q1,q,rfl,q4⟩
  ·have hypos:0 < ys.length:=List.length_pos_iff.2 hy0;have hqe:=q4 (by omega);subst hqe;obtain ⟨b2,off2,hb2,hreads⟩:=hsrc.resolve_left hy0;subst hb2;have hn1:∀jj u,news[jj]? = some u->w.cell? ((⟨b2,off2,none⟩:Addr).add jj)=some u:=λjj u hu=>by rw [Kr];exact hreads jj u hu
   have hf:=jkd (P:=P) w i.size ys.length ⟨b2,off2,none⟩ ys.length c2 news hnl hn1;obtain ⟨W,hst,k1,k2⟩:=jn6 P hs hid e1 (ys:=ys) hnews hok' (λy hy=>by rw [hyk y hy,hk]) (off:=p.off+p.n) hfit;have hrun:(execOp ev o).run P w = .ok (.value (.slice (some ⟨b,p.off * p.k,none⟩) (p.n+ys.length) (c - p.off))) W:=by
    refine Kt (P:=P) (ev:=ev) ho hxs ?_;rw [hts,q3,hv];have hf':(Builtin.firstCells jj.size ys.length (.slice (some ⟨b2,off2,none⟩) ys.length c2)).run P w = .ok news.toArray w:=by rw [j1];exact hf
    have hst':(storeCells ((⟨b,p.off * p.k,none⟩:Addr).add (p.n * jj.size)) news).run P w = .ok () W:=by
     rw [Kr,j1,<-hk,<-yF];exact hst
    simp [Builtin.append_,zP ht,sizeOf,typeInfo,hj,Builtin.lenOf,hroom,hf',hst']
   rw [hrun];refine ⟨m,k1,k2,?_⟩;simp only [relV];exact ⟨_,e1,by omega,_,rfl,λ_=>rfl⟩
theorem zB.winCopy {s x:Operand} {xs0:Array Operand} {ts:Array TypeId} {t t':TypeId} (ho:o.op = .call { callee:= .builtin .copy,args:=xs0,argTypes:=ts }) (hxs:xs0 = #[s,x]) (hts:ts = #[t,t'])
  {e:Nat} (ht:P.underlying t=some (.slice e)) {i:TI} (hi:TI.ok P e i) {st0:jB} {p:WP} (hp:jgh st0 (ρ s)=some p) (hk:p.k=i.size) {ys:List (List A)} {rds:List Rd}
  (hx:∀(w:World) (O0:Nat->Prop) (m:zV) (st:jB) (u:Value),Sto X w O0 m st->(∀r∈rds,yV st r)->relV w (Ow O0 m st) m (ρ x) u->jdd w (Ow O0 m st) i.size ys u) :
  zB P X o ρ ⟨.d (vi (Nat.min ys.length p.n)),.obj p.id (.row p.k p.xs)::rds,[.obj p.id (.row p.k (qj p.xs p.off (ys.take p.n)))]⟩:=by
 intro w O0 m st ev hs hg hr _hc;have hs':=hr s (by simp [ho,Op.operands,Call.operands,hxs]);have hsrc:=hx w O0 m st _ hs (λr h=>hg r (by simp [h])) (hr x (by simp [ho,Op.operands,Call.operands,hxs]));have hid:st p.id = .row p.k p.xs:=hg (.obj p.id (.row p.k p.xs)) (by simp);obtain ⟨hd,xs',e1,e2,e3,e4,e5⟩:=(K0 (X:=X) hp).2 w O0 m st _ hs ⟨p.xs,hid,rfl⟩ hs';rw [hid] at e2;cases e2;obtain ⟨jj,hj,j1,j2,j3⟩:=hi.some_info;obtain ⟨ad,c2,news,hv,hnews,hok',hyk,hsrc⟩:=hsrc;have hnl:news.length=ys.length * i.size:=by rw [kC hnews,qA hyk]
 have hcopy:∀w',(Builtin.copy_ ts o.type #[ev s,ev x]).run P w = .ok (goInt (Nat.min ys.length p.n)) w'->(execOp ev o).run P w = .ok (.value (.int .i64 (Nat.min ys.length p.n:Nat))) w':=by
  intro w' h;subst hxs;simp [execOp,ho,resolve,invoke,builtin,h,goInt]
 have same:(ys.take p.n) = []->zi st [.obj p.id (.row p.k (qj p.xs p.off (ys.take p.n)))]=st:=by
  intro h0;rw [h0,jd2];exact upd_same (by rw [hid];simp [qj,over])
 have hsame:Nat.min ys.length p.n=0->(ys.take p.n) = []:=λh=>by
  apply jcv;rw [Ky,Nat.min_comm];exact h
 have hwv:∃a cc,ev s = .slice a p.n cc/\(p.n=0\/ ∃b c l,hd = .blk b c l/\a=some ⟨b,p.off * p.k,none⟩/\p.off+p.n<=p.xs.length):=by
  cases hd with
  | tre=>exact e4.elim
  | mp=>exact e4.elim
  | none=>simp only [Kf] at e4;obtain ⟨_,h2,a,h3⟩:=e4;exact ⟨a,0,by rw [h2];exact h3,Or.inl h2⟩
  | blk b c l=>
   obtain ⟨rfl,f1,_⟩:=e5;simp only [Kf] at e4;obtain ⟨q1,q,q3,q4⟩:=e4;refine ⟨_,_,q3,?_⟩;by_cases h0:p.n=0
   ·exact Or.inl h0
   ·exact Or.inr ⟨b,c,_,rfl,by rw [q4 (by omega)],q1⟩
 obtain ⟨a,cc,q3,q4⟩:=hwv;by_cases h0:Nat.min ys.length p.n=0
 ·have hf:(Builtin.firstCells i.size 0 (.slice ad ys.length c2)).run P w = .ok #[] w:=by
   cases ad<;>simp [Builtin.firstCells,loadCells,loadCellsFrom]
  have hrun:=hcopy w (by
   rw [hts,q3,hv,h0];have h0':min ys.length p.n=0:=h0;cases a<;>simp [Builtin.copy_,zP ht,sizeOf,typeInfo,hj,j1,Builtin.lenOf,h0,h0',hf,storeCells])
  rw [hrun,h0];refine ⟨m,?_,?_,by simp [relV,rel]⟩
  ·rw [same (hsame h0)];exact Chg.refl _ _ _
  ·rw [same (hsame h0)];exact hs
 ·have hyne:ys≠ []:=λe=>h0 (by subst e;simp)
  have hn0:p.n≠0:=λe=>h0 (by rw [e];simp)
  obtain ⟨b,c,l,rfl,rfl,q1⟩:=q4.resolve_left hn0;obtain ⟨b2,off2,hb2,hreads⟩:=hsrc.resolve_left hyne;subst hb2;have hml:(ys.take p.n).length=Nat.min ys.length p.n:=by rw [Ky,Nat.min_comm]
  have hle:Nat.min ys.length p.n<=ys.length:=Nat.min_le_left _ _;have hnews2:jS w (Ow O0 m st) (ys.take p.n).flatten (news.take (p.n * i.size)):=by
   rw [Yh ys p.n hyk];exact KE _ hnews
  have hnl2:(news.take (p.n * i.size)).length=Nat.min ys.length p.n * i.size:=by
   rw [kC hnews2,qA (λy hy=>hyk y (jd3 hy)),hml]
  have hn1:∀jj u,(news.take (p.n * i.size))[jj]? = some u->w.cell? ((⟨b2,off2,none⟩:Addr).add jj)=some u:=λjj u hu=>by rw [Kr];exact (hreads.take _) jj u hu
  have hf:=jkd (P:=P) w i.size (Nat.min ys.length p.n) ⟨b2,off2,none⟩ ys.length c2 _ hnl2 hn1;obtain ⟨W,hst,k1,k2⟩:=jn6 P hs hid e1 (ys:=ys.take p.n) hnews2 (hok'.take _) (λy hy=>by rw [hyk y (jd3 hy),hk]) (off:=p.off) (by rw [hml];have:Nat.min ys.length p.n<=p.n:=Nat.min_le_right ys.length p.n;omega);have hrun:=hcopy W (by
   rw [hts,q3,hv];have hf':(Builtin.firstCells jj.size (Nat.min ys.length p.n) (.slice (some ⟨b2,off2,none⟩) ys.length c2)).run P w = .ok (news.take (p.n * i.size)).toArray w:=by rw [j1];exact hf
   simp [Builtin.copy_,zP ht,sizeOf,typeInfo,hj,Builtin.lenOf,hf',hst])
  rw [hrun];exact ⟨m,k1,k2,by simp [relV,rel]⟩
end
end
noncomputable section
def jIE:A->Bool
 | .val x=>jI (.val x)
 | _=>false
def jMG:A->Bool
 | .sl _ _=>true
 | _=>false
theorem jGt {a:A} (h:jIE a=true):∃x,a = .val x/\jI a=true:=by
 cases a with
 | val x=>exact ⟨x,rfl,h⟩
 | _=>cases h
def jrb (st:jB):V->Option (A × List Rd × List Wr)
 | .d a=>some (a,[],[])
 | .agg cs=>(match JM st cs with|some (as,r,w)=>some (.agg as,r,w)|none=>none)
 | _=>none
theorem jw7 {st:jB} {v:V} {a:A} {r:List Rd} {ws:List Wr} (h:jrb st v=some (a,r,ws)):∀x∈r,yV st x:=by
 unfold jrb at h;split at h
 ·cases h;simp
 ·split at h
  ·rename_i h1;cases h;exact Zz h1
  ·cases h
 ·cases h
def jpj:V->Option A
 | .agg cs=>(jc5 cs).map .agg
 | v=>dat v
theorem je6 {w:World} {O:Nat->Prop} {m:zV} {v:V} {a:A} {u:Value} (h:jpj v=some a) (hr:relV w O m v u):rel w O a u:=by
 unfold jpj at h;split at h
 ·rw [yB] at h;obtain ⟨l,h1,rfl⟩:=h;simp only [relV] at hr;obtain ⟨vs,rfl,h2⟩:=hr;simp only [rel];exact ⟨vs,rfl,J0 h1 h2⟩
 ·exact kY h hr
def jgH:List V->Option (List A)
 | []=>some []
 | v::r=>(match jpj v,jgH r with|some a,some l=>some (a::l)|_,_=>none)
theorem jaR {w:World} {O:Nat->Prop} {m:zV} :∀ {cs:List V} {as:List A} {vs:List Value},jgH cs=some as->jx w O m cs vs->jS w O as vs
 | [],as,vs,h,hr=>by simp only [jgH,zg] at h;subst h;simpa [jx,jS] using hr
 | c::cs,as,vs,h,hr=>by
  simp only [jgH] at h;split at h
  ·rename_i a l h1 h2;cases h;simp only [jx] at hr;obtain ⟨v,r,rfl,g1,g2⟩:=hr;simp only [jS];exact ⟨v,r,rfl,je6 h1 g1,jaR h2 g2⟩
  ·cases h
def jyM:Abs.Obj->Option (A × Abs.Obj)
 | .map xs=>some (.mp xs,.gone)
 | .row k xs=>some (.sl k xs,.fro k xs)
 | .fro k xs=>some (.sl k xs,.fro k xs)
 | _=>none
theorem juU {X:Ctx} {w:World} {O0:Nat->Prop} {m:zV} {st:jB} (hs:Sto X w O0 m st) {id:Nat} {a:A} {o':Abs.Obj} (h:jyM (st id)=some (a,o')) :
  Sto X w O0 m (upd st id o')/\(∀b,Ow O0 m (upd st id o') b->Ow O0 m st b)/\Chg w m st w m (upd st id o')/\ ∀u,relV w (Ow O0 m st) m (.row id) u->rel w (Ow O0 m (upd st id o')) a u:=by
 cases hst:st id with
 | map xs=>
  rw [hst] at h;cases h;have hsub:∀b,Ow O0 m (upd st id .gone) b->Ow O0 m st b:=jfJ λh=>by cases h
  refine ⟨hs.kill id,hsub,Chg.ghost (λh=>by cases h),λu hu=> ?_⟩;simp only [relV] at hu;obtain ⟨hd',g1,g2⟩:=hu;have ho:=hs.obj id;rw [hst] at ho;obtain ⟨hd2,g3,g4⟩:=ho;rw [g1] at g3;cases g3;refine jqg g4 g2 hsub λb e=> ?_;subst e;exact jeX (id:=id) hs (by rw [hst];rfl) g1 (by simp [Hd.blocks]) rfl
 | row k xs=>
  rw [hst] at h;cases h;have hsub:∀b,Ow O0 m (upd st id (.fro k xs)) b->Ow O0 m st b:=jfJ λh=>by cases h
  have hf:=hs.freeze hst;refine ⟨hf,hsub,Chg.ghost (λh=>by cases h),λu hu=> ?_⟩;exact ZG hf (jU _ _ _) (by simpa only [relV] using hu)
 | fro k xs=>
  rw [hst] at h;cases h;have e:upd st id (.fro k xs)=st:=by rw [<-hst];exact upd_same rfl
  rw [e];exact ⟨hs,λ_ h=>h,Chg.refl _ _ _,λu hu=>ZG hs hst hu⟩
 | _=>rw [hst] at h;cases h
def jcg (st:jB):List V->Option (List A × Option (Nat × Abs.Obj × Abs.Obj))
 | []=>some ([],none)
 | .row id::vs=>(match jyM (st id),jgH vs with
  | some (a,o'),some as=>some (a::as,some (id,st id,o'))
  | _,_=>none)
 | v::vs=>(match jpj v,jcg st vs with
  | some a,some (as,p)=>some (a::as,p)
  | _,_=>none)
def Z8:Option (Nat × Abs.Obj × Abs.Obj)->List Rd
 | none=>[]
 | some (id,o,_)=>[.obj id o]
def Z9:Option (Nat × Abs.Obj × Abs.Obj)->List Wr
 | none=>[]
 | some (id,_,o')=>[.obj id o']
theorem jq9 {st:jB} {v:V} (vs:List V) (hne:∀id,v≠ .row id):jcg st (v::vs)=(match jpj v,jcg st vs with
  | some a,some (as,p)=>some (a::as,p)
  | _,_=>none):=by
 cases v<;>first|rfl|exact absurd rfl (hne _)
theorem jlO {st:jB} :∀ {vs:List V} {as:List A} {p:Option (Nat × Abs.Obj × Abs.Obj)},jcg st vs=some (as,p)-> ∀x∈Z8 p,yV st x
 | [],as,p,h=>by simp only [jcg,zg,Jc] at h;obtain ⟨_,rfl⟩:=h;simp [Z8]
 | v::vs,as,p,h=>by
  by_cases hr:∃id,v = .row id
  ·obtain ⟨id,rfl⟩:=hr;simp only [jcg] at h;split at h
   ·cases h;intro x hx;simp only [Z8,ku] at hx;subst hx;rfl
   ·cases h
  ·rw [jq9 vs λid e=>hr ⟨id,e⟩] at h;split at h
   ·rename_i h2;cases h;exact jlO h2
   ·cases h
theorem jlP {X:Ctx} {w:World} {O0:Nat->Prop} {m:zV} {st0 st:jB} (hs:Sto X w O0 m st):∀ {vs:List V} {as:List A} {p:Option (Nat × Abs.Obj × Abs.Obj)},jcg st0 vs=some (as,p)->(∀x∈Z8 p,yV st x)->
  Sto X w O0 m (zi st (Z9 p))/\(∀b,Ow O0 m (zi st (Z9 p)) b->Ow O0 m st b)/\Chg w m st w m (zi st (Z9 p))/\ ∀us,jx w (Ow O0 m st) m vs us->jS w (Ow O0 m (zi st (Z9 p))) as us
 | [],as,p,h,_=>by
  simp only [jcg,zg,Jc] at h;obtain ⟨rfl,rfl⟩:=h;exact ⟨hs,λ_ h=>h,Chg.refl _ _ _,λus hr=>by simpa [jx,jS] using hr⟩
 | v::vs,as,p,h,hg=>by
  by_cases hv:∃id,v = .row id
  ·obtain ⟨id,rfl⟩:=hv;simp only [jcg] at h;split at h
   ·rename_i a o' as' hgv hd;cases h;have hst:st id=st0 id:=hg (.obj id (st0 id)) (by simp [Z8]);rw [<-hst] at hgv;obtain ⟨g1,g2,g3,g4⟩:=juU hs hgv;refine ⟨g1,g2,g3,λus hr=> ?_⟩;simp only [jx] at hr;obtain ⟨u,r,rfl,h1,h2⟩:=hr;simp only [jS];exact ⟨u,r,rfl,g4 u h1,zv (MonoW.sub g2) _ _ (jaR hd h2)⟩
   ·cases h
  ·rw [jq9 vs λid e=>hv ⟨id,e⟩] at h;split at h
   ·rename_i a as' p' ha hp;cases h;obtain ⟨g1,g2,g3,g4⟩:=jlP hs hp hg;refine ⟨g1,g2,g3,λus hr=> ?_⟩;simp only [jx] at hr;obtain ⟨u,r,rfl,h1,h2⟩:=hr;simp only [jS];exact ⟨u,r,rfl,yc (MonoW.sub g2) _ _ (je6 ha h1),g4 r h2⟩
   ·cases h
def jch (st:jB):List V->Option (List A × Option (Nat × Abs.Obj × Abs.Obj))
 | []=>some ([],none)
 | .row id::vs=>(match jyM (st id),jgH vs with
  | some (a,o'),some as=>some (a::as,some (id,st id,o'))
  | _,_=>none)
 | v::vs=>(match jpj v with
  | some a=>(match jch st vs with|some (as,p)=>some (a::as,p)|none=>none)
  | none=>(match v with
   | .agg us=>(match jcg st us,jgH vs with|some (bs,p),some as=>some (.agg bs::as,p)|_,_=>none)
   | _=>none))
theorem jra {st:jB} {v:V} (vs:List V) (hne:∀id,v≠ .row id):jch st (v::vs)=(match jpj v with
  | some a=>(match jch st vs with|some (as,p)=>some (a::as,p)|none=>none)
  | none=>(match v with
   | .agg us=>(match jcg st us,jgH vs with|some (bs,p),some as=>some (.agg bs::as,p)|_,_=>none)
   | _=>none)):=by
 cases v<;>first|rfl|exact absurd rfl (hne _)
theorem jlQ {st:jB} :∀ {vs:List V} {as:List A} {p:Option (Nat × Abs.Obj × Abs.Obj)},jch st vs=some (as,p)-> ∀x∈Z8 p,yV st x
 | [],as,p,h=>by simp only [jch,zg,Jc] at h;obtain ⟨_,rfl⟩:=h;simp [Z8]
 | v::vs,as,p,h=>by
  by_cases hr:∃id,v = .row id
  ·obtain ⟨id,rfl⟩:=hr;simp only [jch] at h;split at h
   ·cases h;intro x hx;simp only [Z8,ku] at hx;subst hx;rfl
   ·cases h
  ·rw [jra vs λid e=>hr ⟨id,e⟩] at h;split at h
   ·split at h
    ·rename_i h2;cases h;exact jlQ h2
    ·cases h
   ·split at h
    ·split at h
     ·rename_i h2 _;cases h;exact jlO h2
     ·cases h
    ·cases h
theorem jlR {X:Ctx} {w:World} {O0:Nat->Prop} {m:zV} {st0 st:jB} (hs:Sto X w O0 m st):∀ {vs:List V} {as:List A} {p:Option (Nat × Abs.Obj × Abs.Obj)},jch st0 vs=some (as,p)->(∀x∈Z8 p,yV st x)->
  Sto X w O0 m (zi st (Z9 p))/\(∀b,Ow O0 m (zi st (Z9 p)) b->Ow O0 m st b)/\Chg w m st w m (zi st (Z9 p))/\ ∀us,jx w (Ow O0 m st) m vs us->jS w (Ow O0 m (zi st (Z9 p))) as us
 | [],as,p,h,_=>by
  simp only [jch,zg,Jc] at h;obtain ⟨rfl,rfl⟩:=h;exact ⟨hs,λ_ h=>h,Chg.refl _ _ _,λus hr=>by simpa [jx,jS] using hr⟩
 | v::vs,as,p,h,hg=>by
  by_cases hv:∃id,v = .row id
  ·obtain ⟨id,rfl⟩:=hv;simp only [jch] at h;split at h
   ·rename_i a o' as' hgv hd;cases h;have hst:st id=st0 id:=hg (.obj id (st0 id)) (by simp [Z8]);rw [<-hst] at hgv;obtain ⟨g1,g2,g3,g4⟩:=juU hs hgv;refine ⟨g1,g2,g3,λus hr=> ?_⟩;simp only [jx] at hr;obtain ⟨u,r,rfl,h1,h2⟩:=hr;simp only [jS];exact ⟨u,r,rfl,g4 u h1,zv (MonoW.sub g2) _ _ (jaR hd h2)⟩
   ·cases h
  ·rw [jra vs λid e=>hv ⟨id,e⟩] at h;split at h
   ·rename_i a ha;split at h
    ·rename_i as' p' hp;cases h;obtain ⟨g1,g2,g3,g4⟩:=jlR hs hp hg;refine ⟨g1,g2,g3,λus hr=> ?_⟩;simp only [jx] at hr;obtain ⟨u,r,rfl,h1,h2⟩:=hr;simp only [jS];exact ⟨u,r,rfl,yc (MonoW.sub g2) _ _ (je6 ha h1),g4 r h2⟩
    ·cases h
   ·split at h
    ·rename_i us';split at h
     ·rename_i bs p' as' hp hd;cases h;obtain ⟨g1,g2,g3,g4⟩:=jlP hs hp hg;refine ⟨g1,g2,g3,λus hr=> ?_⟩;simp only [jx,relV] at hr;obtain ⟨u,r,rfl,⟨ws,rfl,h1⟩,h2⟩:=hr;simp only [jS,rel];exact ⟨_,r,rfl,⟨ws,rfl,g4 ws h1⟩,zv (MonoW.sub g2) _ _ (jaR hd h2)⟩
     ·cases h
    ·cases h
theorem zB.sealmap {P:Program} {X:Ctx} {o:Oper} {ρ:Operand->V} {f:Operand} {xs0:Array Operand} {ts:Array TypeId} (ho:o.op = .call { callee:= .value f,args:=xs0,argTypes:=ts }) {g:FuncId} {vs0:List V} {st0:jB} {as:List A} {p:Option (Nat × Abs.Obj × Abs.Obj)} {out:Out} {r:A}
  (hseal:jch st0 vs0=some (as,p)) (hp:jas X P g as out) (hr0:fin false out=some r)
  (hargs:∀(w:World) (O0:Nat->Prop) (m:zV) (st:jB) (ev:Operand->Value),Sto X w O0 m st->(∀x∈o.op.operands,relV w (Ow O0 m st) m (ρ x) (ev x))->
   ∃us:List Value,ev f = .func (.func g) #[] us.toArray/\jx w (Ow O0 m st) m vs0 (xs0.toList.map ev++us)) :
  zB P X o ρ ⟨.d r,Z8 p,Z9 p⟩:=by
 intro w O0 m st ev hs hg hr _hc;obtain ⟨us,h1,h2⟩:=hargs w O0 m st ev hs hr;have hout:out.1=r:=by
  unfold fin at hr0;split at hr0
  ·simp only [jK,Zi,K6] at hr0;exact jbf hr0
  ·cases hr0
 obtain ⟨hk1,_,hk2,hrel⟩:=jlR hs hseal hg;have hrel:=hrel _ h2;generalize hst1:zi st (Z9 p)=st1 at *;have hs1:=hk1;have hc1:=hk2;rw [Qj ho h1 hp.1 w];refine ⟨rfl,(hp.2 w (Ow O0 m st1) _ hs.j (λb hb=>Or.inl (hs.jn b hb)) (λb hb=> ?_) hrel).mono ?_⟩
 ·rcases hb with h|⟨id,hd,g1,g2,g3⟩
  ·exact hs1.old b h
  ·exact (hs1.blk id hd b g1 g2 g3).1
 ·rintro e w' ⟨v,rfl,hb,hv⟩;have hpost:Qf X w O0 m (zi st (Z9 p)) [] (.d r) w' v:=by
   rw [hst1];refine ⟨m,Chg.below hb,hs1.below hb,?_⟩;simp only [relV];rw [<-hout];exact hv
  have:=Qf.after (ws':=[]) (by rw [hst1];exact hc1) hpost
  rw [qv] at this;exact ⟨v,rfl,this⟩
theorem zB.sealcall {P:Program} {X:Ctx} {o:Oper} {ρ:Operand->V} {f:Operand} {xs0:Array Operand} {ts:Array TypeId} (ho:o.op = .call { callee:= .value f,args:=xs0,argTypes:=ts }) {g:FuncId} {v0:V} {st0:jB} {a:A} {rds:List Rd} {ws:List Wr} {out:Out} {r:A}
  (hseal:jrb st0 v0=some (a,rds,ws)) (hp:jas X P g [a] out) (hr0:fin false out=some r)
  (hargs:∀(w:World) (O0:Nat->Prop) (m:zV) (st:jB) (ev:Operand->Value),Sto X w O0 m st->(∀x∈o.op.operands,relV w (Ow O0 m st) m (ρ x) (ev x))->
   ∃us:List Value,ev f = .func (.func g) #[] us.toArray/\jx w (Ow O0 m st) m [v0] (xs0.toList.map ev++us)) :
  zB P X o ρ ⟨.d r,rds,ws⟩:=by
 intro w O0 m st ev hs hg hr _hc;obtain ⟨us,h1,h2⟩:=hargs w O0 m st ev hs hr;have hout:out.1=r:=by
  unfold fin at hr0;split at hr0
  ·simp only [jK,Zi,K6] at hr0;exact jbf hr0
  ·cases hr0
 have key:∃st1,zi st ws=st1/\Sto X w O0 m st1/\Chg w m st w m st1/\jS w (Ow O0 m st1) [a] (xs0.toList.map ev++us):=by
  unfold jrb at hseal;split at hseal
  ·cases hseal;refine ⟨st,rfl,hs,Chg.refl _ _ _,?_⟩;simpa only [jx,relV,jS] using h2
  ·split at hseal
   ·rename_i as r' ws' hsc;cases hseal;simp only [jx,relV] at h2;obtain ⟨v,t,e1,⟨vs,rfl,h3⟩,h4⟩:=h2;obtain ⟨a1,a2,a3,_⟩:=jlN hs hsc hg h3;refine ⟨_,rfl,a1,a2,?_⟩;rw [e1];simp only [jS,rel];exact ⟨_,t,rfl,⟨vs,rfl,a3⟩,h4⟩
   ·cases hseal
  ·cases hseal
 obtain ⟨st1,e1,hs1,hc1,hrel⟩:=key;rw [Qj ho h1 hp.1 w];refine ⟨rfl,(hp.2 w (Ow O0 m st1) _ hs.j (λb hb=>Or.inl (hs.jn b hb)) (λb hb=> ?_) hrel).mono ?_⟩
 ·rcases hb with h|⟨id,hd,g1,g2,g3⟩
  ·exact hs1.old b h
  ·exact (hs1.blk id hd b g1 g2 g3).1
 ·rintro e w' ⟨v,rfl,hb,hv⟩;have hpost:Qf X w O0 m (zi st ws) [] (.d r) w' v:=by
   rw [e1];refine ⟨m,Chg.below hb,hs1.below hb,?_⟩;simp only [relV];rw [<-hout];exact hv
  have:=Qf.after (ws':=[]) (by rw [e1];exact hc1) hpost
  rw [qv] at this;exact ⟨v,rfl,this⟩
end
end Go.Proofs.YtbgikpffkgjecaaGreatDoor.Abs
