/- Eb -/
import Derived.Test.YtbidbdhamhbebaaGreatDoorEa
import Derived.Laws.BytesArg
namespace Go.Proofs.YtbidbdhamhbebaaGreatDoor.Abs
open Go Go.RowKit
set_option linter.unusedSimpArgs false
set_option linter.unusedVariables false
noncomputable section
section
variable {X:Ctx} {o:Oper} {ρ:Operand->V} {C:Cfg} {M:Node->Option Out} {st:jC}
theorem jnp (hD:Jn C.P C.D) {t:Nat} (h:jno C t=true):C.P.underlying t=some .bool:=by
 unfold jno at h;split at h
 .rename_i i hi;have hd:=(hD _ _ hi).desc;split at h
  .rename_i hk;rw [hk] at hd;exact hd
  .cases h
 .cases h
theorem ko (hD:Jn C.P C.D) {t:Nat} {i:TI} (h:C.D t=some i) {k:TK} (hk:i.kind=k):k.desc C.P t:=by
 have:=(hD _ _ h).desc;rwa [hk] at this
theorem jzR (hD:Jn C.P C.D) {s:TypeId} {x:Operand} {f:Nat} (ho:o.op = .field s x f):KQ C.P X C M o ρ st (match zU C s f with
  | some (off,j)=>(match ρ x with
   | .agg cs=>if j.kind.plain then (match cs[off]? with|some v=> .val v []|none=> .no)
     else if Nat.ble (off+j.size) cs.length then .val (.agg ((cs.drop off).take j.size)) [] else .no
   | .d a=>if j.kind.plain then .opt (.opt (jjk off a)) [] else .opt (.opt (jnW off j.size a)) []
   | _=> .no)
  | none=> .no):=by
 have hmem:x∈o.op.operands:=by simp [ho,Op.operands]
 split
 .rename_i off j hf;obtain ⟨i,fs,t,h1,h2,h3,h4,h5,h6⟩:=jaI hD hf;split
  .rename_i cs hx;split
   .rename_i hp;split
    .rename_i v hv;refine ⟨zo.same λw O0 m st ev hs hg hr=> ?_,by simp⟩;have hx':=hr x hmem;rw [hx] at hx';simp only [relV] at hx';obtain ⟨vs,g1,g2⟩:=hx';obtain ⟨u,g3,g4⟩:=Zz g2 hv;have hl:=(qM.1 g3).1;obtain ⟨z,q1,q2⟩:=jcR (P:=C.P) (w:=w) ho h6 h3 (hD _ _ h4) h5 g1 (by rw [(hD _ _ h4).one hp];omega);rcases q2 with ⟨_,q2⟩|⟨q2,_⟩
     .rw [g3] at q2;cases q2;exact ⟨_,q1,g4⟩
     .rw [hp] at q2;cases q2
    .trivial
   .rename_i hp;split
    .rename_i hl;rw [Qm] at hl;refine ⟨zo.same λw O0 m st ev hs hg hr=> ?_,by simp⟩;have hx':=hr x hmem;rw [hx] at hx';simp only [relV] at hx';obtain ⟨vs,g1,g2⟩:=hx';have hvl:=zW g2;obtain ⟨z,q1,q2⟩:=jcR (P:=C.P) (w:=w) ho h6 h3 (hD _ _ h4) h5 g1 (by omega);rcases q2 with ⟨q2,_⟩|⟨_,rfl⟩
     .exact absurd q2 hp
     .refine ⟨_,q1,?_⟩;simp only [relV];exact ⟨_,rfl,Y6 _ (Y5 _ g2)⟩
    .trivial
  .rename_i a hx;split
   .rename_i hp;refine KQ.opt1 λr hr=>zo.data λw O0 m st ev hs hg hrel=> ?_;have hx':=hrel x hmem;rw [hx] at hx';simp only [relV] at hx';unfold jjk at hr;split at hr
    .simp only [rel] at hx';obtain ⟨vs,g1,g2⟩:=hx';obtain ⟨u,g3,g4⟩:=Y4 g2 hr;have hl:=(qM.1 g3).1;obtain ⟨z,q1,q2⟩:=jcR (P:=C.P) (w:=w) ho h6 h3 (hD _ _ h4) h5 g1 (by rw [(hD _ _ h4).one hp];omega);rcases q2 with ⟨_,q2⟩|⟨q2,_⟩
     .rw [g3] at q2;cases q2;exact ⟨_,q1,g4⟩
     .rw [hp] at q2;cases q2
    .cases hr
   .rename_i hp;refine KQ.opt1 λr hr=>zo.data λw O0 m st ev hs hg hrel=> ?_;have hx':=hrel x hmem;rw [hx] at hx';simp only [relV] at hx';unfold jnW at hr;split at hr
    .split at hr
     .rename_i hl;cases hr;simp only [rel] at hx';obtain ⟨vs,g1,g2⟩:=hx';have hvl:=kC g2;obtain ⟨z,q1,q2⟩:=jcR (P:=C.P) (w:=w) ho h6 h3 (hD _ _ h4) h5 g1 (by omega);rcases q2 with ⟨q2,_⟩|⟨_,rfl⟩
      .exact absurd q2 hp
      .refine ⟨_,q1,?_⟩;simp only [rel];exact ⟨_,rfl,KE _ (YG _ g2)⟩
     .cases hr
    .cases hr
  .trivial
 .trivial
theorem jnT (hD:Jn C.P C.D) {s:TypeId} {x:Operand} {f:Nat} (ho:o.op = .fieldAddr s x f):KQ C.P X C M o ρ st (match zU C s f with
  | some (off,j)=>if Nat.beq j.size 0 then .no else (match ρ x with
   | .ptr id p=> .val (.ptr id (p+off)) []
   | .rptr id i k p=> .val (.rptr id i k (p+off)) []
   | .d a=> .opt (.opt (ye a off)) []
   | _=> .no)
  | none=> .no):=by
 have hmem:x∈o.op.operands:=by simp [ho,Op.operands]
 split
 .rename_i off j hf;obtain ⟨i,fs,t,h1,h2,h3,h4,h5,h6⟩:=jaI hD hf;split
  .trivial
  .rename_i h0;have h0:j.size≠0:=λe=>h0 (by rw [e];rfl);split
   .rename_i id p hx;refine ⟨zo.same λw O0 m st ev hs hg hr=> ?_,by simp⟩;have hx':=hr x hmem;rw [hx] at hx';simp only [relV] at hx' ⊢;obtain ⟨b,c,n,g1,g2⟩:=hx';exact ⟨_,QZ ho h6 h3 (hD _ _ h4) h0 g2,b,c,n,g1,rfl⟩
   .rename_i id i k p hx;refine ⟨zo.same λw O0 m st ev hs hg hr=> ?_,by simp⟩;have hx':=hr x hmem;rw [hx] at hx';simp only [relV] at hx' ⊢;obtain ⟨b,c,n,g1,g2⟩:=hx';exact ⟨_,QZ ho h6 h3 (hD _ _ h4) h0 g2,b,c,n,g1,by rw [Q3]⟩
   .rename_i a hx;refine KQ.opt1 λr hr=>zo.data λw O0 m st ev hs hg hrel=> ?_;have hx':=hrel x hmem;rw [hx] at hx';simp only [relV] at hx';unfold ye at hr;split at hr
    .cases hr;simp only [rel] at hx' ⊢;obtain ⟨b,o',g1,g2,g3,g4⟩:=hx';exact ⟨_,QZ ho h6 h3 (hD _ _ h4) h0 g1,b,o',by simp [Q3],g2,g3,g4⟩
    .cases hr
   .trivial
 .trivial
theorem ZG {w:World} {O0:Nat->Prop} {m:zu} (hs:Sto X w O0 m st) {id k:Nat} {xs:List (List A)} (hf:st id = .fro k xs) {u:Value} (hr:relV w (Ow O0 m st) m (.row id) u):rel w (Ow O0 m st) (.sl k xs) u:=by
 simp only [relV] at hr;obtain ⟨hd,h1,h2⟩:=hr;have ho:=hs.obj id;rw [hf] at ho;obtain ⟨hd',g1,g2⟩:=ho;rw [h1] at g1;cases g1;exact g2.2 u h2
theorem jwS {w:World} {O0:Nat->Prop} {m:zu} (hs:Sto X w O0 m st) {id k:Nat} {f:Bool} {xs:List (List A)} (hf:st id = .tre f k xs) {u:Value} (hr:relV w (Ow O0 m st) m (.row id) u):∃a c,u = .slice a xs.length c:=by
 simp only [relV] at hr;obtain ⟨hd,h1,h2⟩:=hr;have ho:=hs.obj id;rw [hf] at ho;obtain ⟨hd',g1,g2,_⟩:=ho;rw [h1] at g1;cases g1;cases hd with
 | none=>simp only [yB] at g2;subst g2;simp only [hdr] at h2;obtain ⟨a,rfl⟩:=h2;exact ⟨a,0,rfl⟩
 | blk b c n=>simp [yB] at g2
 | mp=>simp [yB] at g2
 | tre f' b c n ks=>simp only [yB] at g2;simp only [hdr] at h2;obtain ⟨_,rfl,_⟩:=g2;exact ⟨_,_,h2⟩
theorem jlI {w:World} {O0:Nat->Prop} {m:zu} (hs:Sto X w O0 m st) {id k:Nat} {xs:List (List A)} (hf:st id = .row k xs) {u:Value} (hr:relV w (Ow O0 m st) m (.row id) u):∃a c,u = .slice a xs.length c:=by
 simp only [relV] at hr;obtain ⟨hd,h1,h2⟩:=hr;have ho:=hs.obj id;rw [hf] at ho;obtain ⟨hd',g1,g2⟩:=ho;rw [h1] at g1;cases g1;cases hd with
 | none=>simp only [rowOk] at g2;subst g2;simp only [hdr] at h2;obtain ⟨a,rfl⟩:=h2;exact ⟨a,0,rfl⟩
 | blk b c n=>simp only [hdr] at h2;obtain ⟨rfl,_⟩:=g2;exact ⟨_,_,h2⟩
 | tre=>exact g2.elim
 | mp=>exact g2.elim
theorem jnU (hD:Jn C.P C.D) {t:TypeId} {x i:Operand} (ho:o.op = .indexAddr t x i):KQ C.P X C M o ρ st (match C.D t,dat (ρ i) with
  | some ti,some n=>(match ti.kind with
   | .slice e=>(match C.D e with
    | some j=>(match ρ x with
     | .d a=> .opt (.opt (jh j.size a n)) []
     | .row id=>(match st id with | .fro k xs=> .opt (.opt (jh j.size (.sl k xs) n)) [.obj id (.fro k xs)]|_=> .no)
     | _=> .no)
    | none=> .no)
   | _=> .no)
  | _,_=> .no):=by
 have hmem:x∈o.op.operands:=by simp [ho,Op.operands]
 have hmem2:i∈o.op.operands:=by simp [ho,Op.operands]
 split
 .rename_i ti n ht hn;split
  .rename_i e hk;split
   .rename_i j hj;split
    .rename_i a hx;refine KQ.opt1 λr hr=>zo.data λw O0 m st ev hs hg hrel=> ?_;have hx':=hrel x hmem;rw [hx] at hx';simp only [relV] at hx';exact jde ho (ko hD ht hk) (hD _ _ hj) hx' (kQ hn (hrel i hmem2)) hr
    .rename_i id hx;split
     .rename_i k xs hst;intro r hr;refine ⟨zo.data λw O0 m st' ev hs hg hrel=> ?_,by simpa [yI] using hst⟩;have hx':=hrel x hmem;rw [hx] at hx';have hf:st' id = .fro k xs:=hg _ (zi.2 rfl);exact jde ho (ko hD ht hk) (hD _ _ hj) (ZG hs hf hx') (kQ hn (hrel i hmem2)) hr
     .trivial
    .trivial
   .trivial
  .trivial
 .trivial
theorem jBs {y:Operand} {a:Option A} (h:(dat (ρ y)).map some=some a):∃b,a=some b/\dat (ρ y)=some b:=by
 rw [yP] at h;obtain ⟨b,h1,rfl⟩:=h;exact ⟨b,rfl,h1⟩
theorem Jh {lo:Option Operand} {l:Option A} (h:(match lo with|none=>some none|some y=>(dat (ρ y)).map some)=some l):(∀y,lo=some y-> ∃a,l=some a/\dat (ρ y)=some a)/\(lo=none->l=none):=by
 cases lo with
 | none=>simp only [kL] at h;exact ⟨λy hy=>(by cases hy),λ_=>h.symm⟩
 | some y=>exact ⟨λz hz=>(by cases hz;exact jBs h),λhz=>(by cases hz)⟩
theorem ok_slice (hD:Jn C.P C.D) {t:TypeId} {x:Operand} {lo hi:Option Operand} (ho:o.op = .slice t x lo hi none):KQ C.P X C M o ρ st (match C.D t with
  | some ti=>(match ti.kind with
   | .slice e=>(match C.D e with
    | some j=>(match (match ρ x with
      | .d a=>some (a,[])
      | .row id=>(match st id with | .fro k xs=>some (A.sl k xs,[Rd.obj id (.fro k xs)])|_=>none)
      | _=>none),(match lo with|none=>some none|some y=>(dat (ρ y)).map some),(match hi with|none=>some none|some y=>(dat (ρ y)).map some) with
     | some (a,rds),some l,some h=> .opt (.opt (zZ j.size a l h)) rds
     | _,_,_=> .no)
    | none=> .no)
   | .str=>(match dat (ρ x),(match lo with|none=>some none|some y=>(dat (ρ y)).map some),(match hi with|none=>some none|some y=>(dat (ρ y)).map some) with
    | some a,some l,some h=> .opt (.opt (Yt a l h)) []
    | _,_,_=> .no)
   | _=> .no)
  | none=> .no):=by
 have hmem:x∈o.op.operands:=by simp [ho,Op.operands]
 have hlo:∀y,lo=some y->y∈o.op.operands:=λy hy=>by simp [ho,Op.operands,hy]
 have hhi:∀y,hi=some y->y∈o.op.operands:=λy hy=>by simp [ho,Op.operands,hy]
 split
 .rename_i ti ht;split
  .rename_i e hk;split
   .rename_i j hj;split
    .rename_i a rds l h h1 h2 h3;obtain ⟨l1,l2⟩:=Jh h2;obtain ⟨u1,u2⟩:=Jh h3;intro r hr;refine ⟨zo.data λw O0 m st' ev hs hg hrel=> ?_,?_⟩
     .have hx':rel w (Ow O0 m st') a (ev x):=by
       have hx':=hrel x hmem;split at h1
       .rename_i a' hx;cases h1;rw [hx] at hx';simpa only [relV] using hx'
       .rename_i id hx;split at h1
        .rename_i k xs hst;cases h1;rw [hx] at hx';exact ZG hs (hg _ (zi.2 rfl)) hx'
        .cases h1
       .cases h1
      refine jlL ho (ko hD ht hk) (hD _ _ hj) hx' (λy hy=> ?_) l2 (λy hy=> ?_) u2 hr
      .obtain ⟨b,hb,hd⟩:=l1 y hy;exact ⟨b,hb,kQ hd (hrel y (hlo y hy))⟩
      .obtain ⟨b,hb,hd⟩:=u1 y hy;exact ⟨b,hb,kQ hd (hrel y (hhi y hy))⟩
     .split at h1
      .cases h1;simp
      .split at h1
       .rename_i hst;cases h1;simpa [yI] using hst
       .cases h1
      .cases h1
    .trivial
   .trivial
  .rename_i hk;split
   .rename_i a l h h1 h2 h3;obtain ⟨l1,l2⟩:=Jh h2;obtain ⟨u1,u2⟩:=Jh h3;refine KQ.opt1 λr hr=>zo.data λw O0 m st' ev hs hg hrel=> ?_;refine jth ho (ko hD ht hk) (kQ h1 (hrel x hmem)) (λy hy=> ?_) l2 (λy hy=> ?_) u2 hr
    .obtain ⟨b,hb,hd⟩:=l1 y hy;exact ⟨b,hb,kQ hd (hrel y (hlo y hy))⟩
    .obtain ⟨b,hb,hd⟩:=u1 y hy;exact ⟨b,hb,kQ hd (hrel y (hhi y hy))⟩
   .trivial
  .trivial
 .trivial
theorem jvV (hD:Jn C.P C.D) {t:TypeId} {x l h m:Operand} (ho:o.op = .slice t x (some l) (some h) (some m)):KQ C.P X C M o ρ st (if !jiI l h m then .no else match C.D t,ρ l,ρ h,ρ m with
  | some ti,.d (.val (.int _ 0)),.d (.val (.int _ 0)),.d (.val (.int _ 0))=>(match ti.kind with
   | .slice e=>(match C.D e with
    | some _=>(match ρ x with
     | .row id=>(match st id with | .row k xs=> .val (.nil k) [.obj id (.row k xs)] | .fro k xs=> .val (.nil k) [.obj id (.fro k xs)]|_=> .no)
     | .nil k=> .val (.nil k) []
     | _=> .no)
    | none=> .no)
   | _=> .no)
  | _,_,_,_=> .no):=by
 have m1:x∈o.op.operands:=by simp [ho,Op.operands]
 have m2:l∈o.op.operands:=by simp [ho,Op.operands]
 have m3:h∈o.op.operands:=by simp [ho,Op.operands]
 have m4:m∈o.op.operands:=by simp [ho,Op.operands]
 split
 .trivial
 split
 .rename_i ti k1 k2 k3 ht hl hh hm;split
  .rename_i e hk;split
   .rename_i j hj;have key:∀(w:World) (O0:Nat->Prop) (mm:zu) (st:jC) (ev:Operand->Value),(∀x∈o.op.operands,relV w (Ow O0 mm st) mm (ρ x) (ev x))-> ∀a n c,ev x = .slice a n c->
      ∃u,(execOp ev o).run C.P w = .ok (.value u) w/\ ∀k,relV w (Ow O0 mm st) mm (.nil k) u:=by
     intro w O0 mm st ev hr a n c hx;have e1:=hr l m2;have e2:=hr h m3;have e3:=hr m m4;rw [hl] at e1;rw [hh] at e2;rw [hm] at e3;simp only [relV,rel] at e1 e2 e3 ⊢;exact ⟨_,jjM ho (ko hD ht hk) (hD _ _ hj) hx e1 e2 e3,λ_=>⟨a,rfl⟩⟩
    split
    .rename_i id hx;split
     .rename_i k xs hst;refine ⟨zo.same λw O0 mm st' ev hs hg hr=> ?_,by simpa [yI] using hst⟩;have hx':=hr x m1;rw [hx] at hx';obtain ⟨a,c,hv⟩:=jlI hs (hg _ (zi.2 rfl)) hx';obtain ⟨u,k1,k2⟩:=key w O0 mm st' ev hr _ _ _ hv;exact ⟨u,k1,k2 _⟩
     .rename_i k xs hst;refine ⟨zo.same λw O0 mm st' ev hs hg hr=> ?_,by simpa [yI] using hst⟩;have hx':=hr x m1;rw [hx] at hx';have:=ZG hs (hg _ (zi.2 rfl)) hx';simp only [rel] at this;obtain ⟨a,c,hv,_⟩:=this;obtain ⟨u,k1,k2⟩:=key w O0 mm st' ev hr _ _ _ hv;exact ⟨u,k1,k2 _⟩
     .trivial
    .rename_i hx;refine ⟨zo.same λw O0 mm st' ev hs hg hr=> ?_,by simp⟩;have hx':=hr x m1;rw [hx] at hx';simp only [relV] at hx';obtain ⟨a,hv⟩:=hx';obtain ⟨u,k1,k2⟩:=key w O0 mm st' ev hr _ _ _ hv;exact ⟨u,k1,k2 _⟩
    .trivial
   .trivial
  .trivial
 .trivial
theorem jzQ (hD:Jn C.P C.D) {t:TypeId} {ps:Array (Nat × Operand)} (ho:o.op = .build t ps):KQ C.P X C M o ρ st (match C.D t with
  | some i=>(match i.kind with
   | .struct fs=>(match jc0 (zeroV C t i),jfI (ZJ C fs (ps.toList.map λp=>(p.1,ρ p.2))) with
    | some z,some l=>if Qy C fs then (if jAU (ZJ C fs (ps.toList.map λp=>(p.1,ρ p.2))) (zeroV C t i) fs.length then .opt (.opt (zY (zU C t) z l)) [] else .no) else .no
    | _,_=> .no)
   | _=> .no)
  | none=> .no):=by
 split
 .rename_i i hi;split
  .rename_i fs hk;split
   .rename_i z l hz hl;split
    .rename_i hfs;split;rotate_left
     .trivial
     refine KQ.opt1 λr hr=>zo.data λw O0 m st' ev hs hg hrel=> ?_;have h1:jv w (Ow O0 m st') m ((ps.toList.map λp=>(p.1,ρ p.2)).map Prod.snd) ((ps.toList.map λp=>(p.1,ev p.2)).map Prod.snd):=by
      rw [Jf,Jf];have:=JG (w:=w) (O:=Ow O0 m st') (m:=m) (ρ:=ρ) (ev:=ev) (ps.toList.map Prod.snd) λx hx=>hrel x (by
       rw [ho];simp only [Op.operands];simpa using hx)
      rw [Jf,Jf] at this;exact this
     obtain ⟨h2,h3⟩:=jcf (C:=C) (fs:=fs) h1;obtain ⟨h4,h5⟩:=jij hl h2;obtain ⟨cells',h6,h7⟩:=jk3 (sz:=zU C t) (λq off j hq hp=>by
      obtain ⟨_,_,_,_,_,_,g4,_⟩:=jaI hD hq;exact (hD _ _ g4).one hp) l (ps.toList.map λp=>(p.1,ev p.2)) z i.zero.cells r (JW (m:=m) hz (Jc t i)) (by
       rw [h5,h3];simp) h4 hr
     exact ⟨_,run_build hD ho hi hk hfs h6,h7⟩
    .trivial
   .trivial
  .trivial
 .trivial
theorem jCp (hM:ZL X C M) {f:Operand} {xs:Array Operand} {ts:Array TypeId} (ho:o.op = .call { callee:= .value f,args:=xs,argTypes:=ts }):KQ C.P X C M o ρ st (match ρ f with
   | .fn g caps=>(match C.sig g with
    | some _=>if C.both g && (!C.sl g && (!C.stf g && !jul C (xs.toList.map ρ))) then (match Ku st 60 (Yq C.D ts.toList (xs.toList.map ρ)++caps) with|some (as,rds)=> .opt (.call g as (Kn rds)) rds|none=> .no) else .no
    | none=>(match Ku st 60 (Yq C.D ts.toList (xs.toList.map ρ)++caps) with
     | some (as,rds)=> .opt (.call g as (Kn rds)) rds
     | none=> .no))
   | .d a=>(match Ku st 60 (Yq C.D ts.toList (xs.toList.map ρ)) with
    | some (as,rds)=> .opt (.callc a as (Kn rds)) rds
    | none=> .no)
   | _=> .no):=by
 have mf:f∈o.op.operands:=by simp [ho,Op.operands,Call.operands]
 have mx:∀x∈xs.toList,x∈o.op.operands:=λx hx=>by simp [ho,Op.operands,Call.operands];exact Or.inr (by simpa using hx)
 split
 .rename_i g caps hf;have gen:∀as rds,Ku st 60 (Yq C.D ts.toList (xs.toList.map ρ)++caps)=some (as,rds)->C.pureF g=true->KQ C.P X C M o ρ st (.opt (.call g as (Kn rds)) rds):=by
   intro as rds hto hsig a ha;simp only [DX.run] at ha;rw [zB] at ha;obtain ⟨out,h1,h2⟩:=ha;have hp:=hM g as out hsig h1;refine ⟨zo.call ho hp (λw O0 m st' ev hs hg hr=> ?_) h2,?_⟩
   .have hf':=hr f mf;rw [hf] at hf';simp only [relV] at hf';obtain ⟨us,g1,g2⟩:=hf';have g3:=JG (w:=w) (O:=Ow O0 m st') (m:=m) (ρ:=ρ) (ev:=ev) xs.toList λx hx=>hr x (mx x hx);exact ⟨us,g1,ZV hs 60 _ (ZY 60 _ hto hg) (yV (JH g3) g2)⟩
   .exact λr hr=>ZZ 60 _ hto r hr
  split
  .split
   .rename_i hb;split
    .rename_i as rds hto;rw [ju] at hb;exact gen as rds hto (by simp [Cfg.pureF,hb.1])
    .trivial
   .trivial
  .rename_i hsig;split
   .rename_i as rds hto;exact gen as rds hto (by simp [Cfg.pureF,hsig])
   .trivial
 .rename_i fa hf;split
  .rename_i as rds hto;intro a ha;simp only [DX.run] at ha;split at ha
   .rename_i g caps;split at ha
    .rename_i hsig;rw [zB] at ha;obtain ⟨out,h1,h2⟩:=ha;have hp:=hM g _ out (by simpa using hsig) h1;refine ⟨zo.call ho hp (λw O0 m st' ev hs hg hr=> ?_) h2,?_⟩
     .have hf':=hr f mf;rw [hf] at hf';simp only [relV,rel] at hf';obtain ⟨us,g1,g2⟩:=hf';have g3:=JG (w:=w) (O:=Ow O0 m st') (m:=m) (ρ:=ρ) (ev:=ev) xs.toList λx hx=>hr x (mx x hx);exact ⟨us,g1,zy (ZV hs 60 _ (ZY 60 _ hto hg) (JH g3)) (kZ (MonoW.sub (jfF _)) _ _ g2)⟩
     .exact λr hr=>ZZ 60 _ hto r hr
    .cases ha
   .cases ha
  .trivial
 .trivial
theorem jgF:∀ {xs:List (List A)} {ns:List Int},bytesOf xs=some ns->ns.length=xs.length/\ ∀(i:Nat) (n:Int),ns[i]? = some n->xs[i]? = some [.val (.int .u8 n)]
 | [],ns,h=>by simp only [bytesOf] at h;cases h;simp
 | x::xs,ns,h=>by
  unfold bytesOf at h;split at h
  .rename_i e;cases e
  .rename_i n r e;cases e;obtain ⟨l,hl,rfl⟩:=yP.1 h;obtain ⟨h1,h2⟩:=jgF hl;refine ⟨by simp [h1],λi m hi=> ?_⟩;cases i with
   | zero=>simp at hi;subst hi;rfl
   | succ i=>simpa using h2 i m (by simpa using hi)
  .cases h
theorem jqC {a r:A} (h:jjj a=some r):ZQ r=true:=by
 unfold jjj at h;split at h
 .obtain ⟨ns,_,rfl⟩:=yP.1 h;rfl
 .cases h
theorem jwr {P:Program} {w:World} {O:Nat->Prop} {o:Oper} {ev:Operand->Value} {s d e:TypeId} {x:Operand} (ho:o.op = .convert s d x) (hs:P.underlying s=some (.slice e)) (he:P.underlying e=some (.int .u8)) (hd:P.underlying d=some .string) {a:A} (hx:rel w O a (ev x)) {r:A} (h:jjj a=some r) :
  ∃z,(execOp ev o).run P w = .ok (.value z) w/\rel w O r z:=by
 unfold jjj at h;split at h
 .rename_i k xs;obtain ⟨ns,hns,rfl⟩:=yP.1 h;obtain ⟨hl,hget⟩:=jgF hns;simp only [rel] at hx;obtain ⟨ad,cap,hv,_,_,hor⟩:=hx;have hconv:(convert s d (ev x)).run P w = .ok (.string (Go.strOfNums ns)) w:=by
   rw [hv];rcases hor with rfl|⟨b,off,rfl,_,_,hrows⟩
   .have hn0:ns = []:=by simpa using hl
    subst hn0;rw [run_convert_bytes_string w s d e _ _ cap hs he hd];cases ad with
    | none=>simp [Conv.bytesToString,zD];rfl
    | some ad=>
     rw [run_bytesToString w ad _ cap [] (by simp [loadCells,loadCellsFrom,zD])];rfl
   .refine run_convert_bytes_arg w s e hs he b off xs.length cap ns hl (λi hi=> ?_) d hd;have hi':i < ns.length:=by omega
    have hx:=hget i ns[i] (zk hi');obtain ⟨g1,g2⟩:=QF hrows hx;simp only [zM,qO] at g1;rw [<-g1,Nat.mul_one] at g2;simp only [yk] at g2;obtain ⟨⟨v,q1,_,q2⟩,_⟩:=g2;simp only [rel] at q2;rw [q1,q2];simp [qE,hi']
  refine ⟨.string (Go.strOfNums ns),?_,?_⟩
  .simp [execOp,ho,hconv]
  .simp only [rel,strOfNums]
 .cases h
theorem jk2 (hD:Jn C.P C.D) (hM:ZL X C M):KQ C.P X C M o ρ st (evD C o ρ st):=by
 unfold evD;split
 .rename_i x ho;refine ⟨zo.same λw O0 m st ev hs hg hr=>⟨_,run_move (Or.inl ho) w,qL (hr x (by simp [ho,Op.operands]))⟩,by simp⟩
 .rename_i x ho;refine ⟨zo.same λw O0 m st ev hs hg hr=>⟨_,run_move (Or.inr ho) w,qL (hr x (by simp [ho,Op.operands]))⟩,by simp⟩
 .rename_i c a b ho;split
  .rename_i c' a' b' hc ha hb;refine KQ.opt1 λr hr=>zo.data λw O0 m st ev hs hg hrel=> ?_;unfold J0 at hr;rw [yP] at hr;obtain ⟨t,h1,rfl⟩:=hr;have h2:=kQ hc (hrel c (by simp [ho,Op.operands]));unfold JB at h1;split at h1
   .cases h1;simp only [rel] at h2;refine ⟨_,jAq ho h2,?_⟩;cases t
    .exact kQ hb (qL (hrel b (by simp [ho,Op.operands])))
    .exact kQ ha (qL (hrel a (by simp [ho,Op.operands])))
   .cases h1
  .trivial
 .rename_i op t x y u ho;split
  .trivial
  split
  .rename_i a b ha hb;refine KQ.opt1 λr hr=>zo.data λw O0 m st ev hs hg hrel=> ?_;exact jCK ho (jnp hD) (kQ ha (hrel x (by simp [ho,Op.operands]))) (kQ hb (hrel y (by simp [ho,Op.operands]))) hr
  .trivial
 .rename_i op t x ho;split
  .rename_i a ha;refine KQ.opt1 λr hr=>zo.data λw O0 m st ev hs hg hrel=> ?_;exact jFU ho (kQ ha (hrel x (by simp [ho,Op.operands]))) hr
  .trivial
 .rename_i t x ho;obtain ⟨h1,h2⟩:=jni (X:=X) (ρ:=ρ) hD ho (st:=st);cases he:Zl C t (ρ x) st with
  | no=>trivial
  | val v rds=>exact h1 v rds he
  | opt y rds=>
   cases y with
   | opt y=>exact λa ha=>h2 y rds a he ha
   | _=>
    exfalso;unfold Zl at he
    repeat' (first|split at he|cases he)
 .rename_i s x f ho;exact jnT hD ho
 .rename_i s x f ho;exact jzR hD ho
 .rename_i t x i ho;exact jnU hD ho
 .rename_i t x i ho;split
  .rename_i ti a n ht ha hn;split
   .rename_i hk;refine KQ.opt1 λr hr=>zo.data λw O0 m st ev hs hg hrel=> ?_;exact jtg ho (ko hD ht hk) (kQ ha (hrel x (by simp [ho,Op.operands]))) (kQ hn (hrel i (by simp [ho,Op.operands]))) hr
   .trivial
  .trivial
 .rename_i t x k c ho;split
  .rename_i ti ka ht hka;split
   .rename_i kt et hk;have hu:=ko hD ht hk;split
    .rename_i ki ei hki hei;split
     .rename_i ks z hks hz;split
      .rename_i hzo;have hkt:=jlc hks (hD _ _ hki).desc;split
       .rename_i a hx;refine KQ.opt1 λr hr=>zo.data λw O0 m st ev hs hg hrel=> ?_;have hx':=hrel x (by simp [ho,Op.operands]);rw [hx] at hx';simp only [relV] at hx';have hk':=kQ hka (hrel k (by simp [ho,Op.operands]));unfold KD at hr;split at hr
        .rename_i hok;obtain ⟨xs,g1,g2⟩:=zB.1 hr;rw [yP] at g2;obtain ⟨r',g2,rfl⟩:=g2;exact jra ho hu hkt (hD _ _ hei) hzo hz (juy g1 hx') hk' hok g2
        .cases hr
       .rename_i id hx;split
        .rename_i xs hst;intro r hr;refine ⟨zo.data λw O0 m st' ev hs hg hrel=> ?_,by simpa [yI] using hst⟩;have hx':=hrel x (by simp [ho,Op.operands]);rw [hx] at hx';have hst':st' id = .map xs:=hg _ (zi.2 rfl);have hk':=kQ hka (hrel k (by simp [ho,Op.operands]));simp only [DX.run] at hr;unfold KD at hr;split at hr
         .rename_i hok;obtain ⟨xs',g1,g2⟩:=zB.1 hr;simp only [jqj,kL] at g1;subst g1;rw [yP] at g2;obtain ⟨r',g2,rfl⟩:=g2;obtain ⟨b,es,clock,_,q2,q3,q4⟩:=jnM hs hst' hx';exact jra ho hu hkt (hD _ _ hei) hzo hz (Or.inr ⟨b,es,clock,q2,q3,q4⟩) hk' hok g2
         .cases hr
        .trivial
       .trivial
      .trivial
     .trivial
    .trivial
   .trivial
  .trivial
 .rename_i t x lo hi ho;exact ok_slice hD ho
 .rename_i t x l h m ho;exact jvV hD ho
 .rename_i s d x ho;split
  .rename_i si di hs' hd;split
   .rename_i k k' hk hk';split
    .rename_i a ha;refine KQ.opt1 λr hr=>zo.data λw O0 m st ev hs hg hrel=> ?_;exact jAp ho ⟨_,ko hD hs' hk⟩ (ko hD hd hk') (kQ ha (hrel x (by simp [ho,Op.operands]))) hr
    .trivial
   .rename_i e hk hk';split
    .rename_i j a rds hj ha;split
     .rename_i hj';intro r hr;refine ⟨zo.data λw O0 m st' ev hs hg hrel=> ?_,jhM 60 _ ha⟩;have ha':=juX 60 _ ha hg;obtain ⟨z,q1,q2⟩:=jwr ho (ko hD hs' hk) (ko hD hj hj') (ko hD hd hk') (jhF hs 60 _ ha' (hrel x (by simp [ho,Op.operands]))) hr;exact ⟨z,q1,jci r z (jqC hr) q2⟩
     .trivial
    .trivial
   .trivial
  .trivial
 .rename_i g fs cs ho;split
  .rename_i h0;obtain rfl:fs = #[]:=by simpa using h0
   refine ⟨zo.same λw O0 m st ev hs hg hr=> ?_,by simp⟩;have h2:=JG (w:=w) (O:=Ow O0 m st) (m:=m) (ρ:=ρ) (ev:=ev) cs.toList λx hx=>hr x (by simp [ho,Op.operands];simpa using hx);have e:(cs.toList.map ev).toArray=cs.map ev:=by rw [<-jd0,Array.toArray_toList]
   refine ⟨.func (.func g) #[] (cs.map ev),by simp only [execOp,ho,Instr.makeFunc,zs,zD,zn];simp,?_⟩
   simp only [relV];exact ⟨cs.toList.map ev,by rw [e],h2⟩
  .trivial
 .rename_i x n ho;split
  .rename_i cs hx;split
   .rename_i v hv;refine ⟨zo.same λw O0 m st ev hs hg hr=> ?_,by simp⟩;have hx':=hr x (by simp [ho,Op.operands]);rw [hx] at hx';simp only [relV] at hx';obtain ⟨vs,h1,h2⟩:=hx';obtain ⟨u,h3,h4⟩:=Zz h2 hv;exact ⟨u,jg5 ho h1 h3,h4⟩
   .trivial
  .rename_i a hx;refine KQ.opt1 λr hr=>zo.data λw O0 m st ev hs hg hrel=> ?_;have hx':=hrel x (by simp [ho,Op.operands]);rw [hx] at hx';simp only [relV] at hx';unfold QX at hr;split at hr
   .simp only [rel] at hx';obtain ⟨vs,h1,h2⟩:=hx';obtain ⟨u,h3,h4⟩:=Y4 h2 hr;exact ⟨u,jg5 ho h1 h3,h4⟩
   .cases hr
  .trivial
 .rename_i x ho;have m1:x∈o.op.operands:=by simp [ho,Op.operands]
  split
  .rename_i id off hx;refine ⟨zo.same λw O0 m st ev hs hg hr=> ?_,by simp⟩;have hx':=hr x m1;rw [hx] at hx';have h2:=hx';simp only [relV] at hx';obtain ⟨b,c,n,_,h1⟩:=hx';exact ⟨ev x,by simp [execOp,ho,h1],h2⟩
  .rename_i id i k j hx;refine ⟨zo.same λw O0 m st ev hs hg hr=> ?_,by simp⟩;have hx':=hr x m1;rw [hx] at hx';have h2:=hx';simp only [relV] at hx';obtain ⟨b,c,n,_,h1⟩:=hx';exact ⟨ev x,by simp [execOp,ho,h1],h2⟩
  .rename_i f cs hx;refine ⟨zo.same λw O0 m st ev hs hg hr=> ?_,by simp⟩;have hx':=hr x m1;rw [hx] at hx';have h2:=hx';simp only [relV] at hx';obtain ⟨vs,h1,_⟩:=hx';exact ⟨ev x,by simp [execOp,ho,h1],h2⟩
  .rename_i a hx;refine KQ.opt1 λr hr=>zo.data λw O0 m st ev hs hg hrel=> ?_;have hx':=hrel x m1;rw [hx] at hx';simp only [relV] at hx';have h2:=hx';unfold jsY at hr;split at hr
   .cases hr;simp only [rel] at hx';obtain ⟨b,o',h1,_⟩:=hx';exact ⟨ev x,by simp [execOp,ho,h1],h2⟩
   .cases hr;simp only [rel] at hx';obtain ⟨vs,h1,_⟩:=hx';exact ⟨ev x,by simp [execOp,ho,h1],h2⟩
   .cases hr
  .trivial
 .rename_i t ps ho;exact jzQ hD ho
 .rename_i c ho;obtain ⟨callee,args,ts⟩:=c;dsimp only;split
  .split
   .rename_i x t hxs hts;obtain ⟨y,rfl⟩:∃y,args = #[y]:=by
     obtain ⟨l⟩:=args;simp only at hxs;subst hxs;exact ⟨_,rfl⟩
    obtain rfl:ts = #[t]:=by apply ZD;simpa using hts
    simp only [Ju,and_true] at hxs;subst hxs;have m1:y∈o.op.operands:=by simp [ho,Op.operands,Call.operands]
    split
    .rename_i ti ht;split
     .rename_i e hk;have hu:=ko hD ht hk;split
      .rename_i hx;refine ⟨zo.data λw O0 m st ev hs hg hr=> ?_,by simp⟩;have hx':=hr y m1;rw [hx] at hx';simp only [relV] at hx';obtain ⟨a,h1⟩:=hx';exact ⟨_,run_len_slice ho rfl rfl hu h1,by simp [rel]⟩
      .rename_i id hx;split
       .rename_i k xs hst;refine ⟨zo.data λw O0 m st' ev hs hg hr=> ?_,by simp [yI,hst]⟩;have hx':=hr y m1;rw [hx] at hx';obtain ⟨xs',g1,g2⟩:=hg _ (zi.2 rfl);obtain ⟨a,c,hv⟩:=jlI hs g1 hx';exact ⟨_,run_len_slice ho rfl rfl hu hv,by simp [qh,rel,g2]⟩
       .rename_i k xs hst;refine ⟨zo.data λw O0 m st' ev hs hg hr=> ?_,by simpa [yI] using hst⟩;have hx':=hr y m1;rw [hx] at hx';have:=ZG hs (hg _ (zi.2 rfl)) hx';simp only [rel] at this;obtain ⟨a,c,hv,_⟩:=this;exact ⟨_,run_len_slice ho rfl rfl hu hv,by simp [qh,rel]⟩
       .rename_i f' k xs hst;refine ⟨zo.data λw O0 m st' ev hs hg hr=> ?_,by simp [yI,hst]⟩;have hx':=hr y m1;rw [hx] at hx';obtain ⟨xs',g1,g2⟩:=hg _ (zi.2 rfl);obtain ⟨a,c,hv⟩:=jwS hs g1 hx';exact ⟨_,run_len_slice ho rfl rfl hu hv,by simp [qh,rel,g2]⟩
       .trivial
      .rename_i a hx;refine KQ.opt1 λr hr=>zo.data λw O0 m st ev hs hg hrel=> ?_;have hx':=hrel y m1;rw [hx] at hx';simp only [relV] at hx';unfold zg at hr;split at hr
       .cases hr;simp only [rel] at hx';obtain ⟨a,c,h1,_⟩:=hx';exact ⟨_,run_len_slice ho rfl rfl hu h1,by simp [rel]⟩
       .cases hr
      .rename_i id k off n hx;refine ⟨zo.data λw O0 m st ev hs hg hr=> ?_,by simp⟩;have hx':=hr y m1;rw [hx] at hx';simp only [relV] at hx';obtain ⟨hd,_,h1⟩:=hx';obtain ⟨a,c,h1⟩:∃a c,ev y = .slice a n c:=by
        cases hd with
        | none=>simp only [Kb] at h1;obtain ⟨_,rfl,a,h1⟩:=h1;exact ⟨a,0,h1⟩
        | blk b c l=>simp only [Kb] at h1;obtain ⟨_,q,h1,_⟩:=h1;exact ⟨_,_,h1⟩
        | tre=>exact h1.elim
        | mp=>exact h1.elim
       exact ⟨_,run_len_slice ho rfl rfl hu h1,by simp [rel,nA]⟩
      .trivial
     .rename_i hk;have hu:=ko hD ht hk;split
      .rename_i a ha;refine KQ.opt1 λr hr=>zo.data λw O0 m st ev hs hg hrel=> ?_;have hx':=kQ ha (hrel y m1);unfold jeT at hr;split at hr
       .cases hr;simp only [rel] at hx';exact ⟨_,jq9 ho rfl rfl hu hx',by simp [rel,jcT]⟩
       .cases hr
      .trivial
     .trivial
    .trivial
   .trivial
  .split
   .rename_i x y hxs;obtain rfl:args = #[x,y]:=by apply ZD;simpa using hxs
    split
    .rename_i a b ha hb;refine KQ.opt1 λr hr=>zo.data λw O0 m st ev hs hg hrel=> ?_;exact jCN ho rfl (kQ ha (hrel x (by simp [ho,Op.operands,Call.operands]))) (kQ hb (hrel y (by simp [ho,Op.operands,Call.operands]))) hr
    .trivial
   .trivial
  .split
   .rename_i x y hxs;obtain rfl:args = #[x,y]:=by apply ZD;simpa using hxs
    split
    .rename_i a b ha hb;refine KQ.opt1 λr hr=>zo.data λw O0 m st ev hs hg hrel=> ?_;exact jCO ho rfl (kQ ha (hrel x (by simp [ho,Op.operands,Call.operands]))) (kQ hb (hrel y (by simp [ho,Op.operands,Call.operands]))) hr
    .trivial
   .trivial
  .exact jCp hM ho
  .trivial
 .trivial
end
end
noncomputable section
mutual
def jHu:V->List Nat
 | .ptr id _=>[id]
 | .row id=>[id]
 | .rptr id _ _ _=>[id]
 | .win id _ _ _=>[id]
 | .sub id _ _ _=>[id]
 | .agg cs=>je0 cs
 | .tup cs=>je0 cs
 | .fn _ cs=>je0 cs
 | _=>[]
def je0:List V->List Nat
 | []=>[]
 | c::cs=>jHu c++je0 cs
end
def jHt:Obj->List Nat
 | .box cs=>je0 cs
 | _=>[]
def jeD (x:Nat):List Nat->Bool
 | []=>false
 | y::ys=>Nat.beq x y || jeD x ys
def reach (st:jC):Nat->List Nat->List Nat->List Nat
 | 0,_,done=>done
 | _+1,[],done=>done
 | n+1,id::todo,done=>if jeD id done then reach st n todo done else reach st n (todo++jHt (st id)) (done++[id])
def Yo (x:Nat):List Nat->Nat->Option Nat
 | [],_=>none
 | y::ys,i=>if Nat.beq x y then some i else Yo x ys (i+1)
def jja:List Nat->Bool
 | []=>true
 | x::xs=> !jeD x xs && jja xs
mutual
def ren (ids:List Nat):V->V
 | .ptr id off=>(match Yo id ids 0 with|some i=> .ptr i off|none=> .top)
 | .row id=>(match Yo id ids 0 with|some i=> .row i|none=> .top)
 | .rptr id i k j=>(match Yo id ids 0 with|some q=> .rptr q i k j|none=> .top)
 | .win id k off n=>(match Yo id ids 0 with|some q=> .win q k off n|none=> .top)
 | .sub id i k j=>(match Yo id ids 0 with|some q=> .sub q i k j|none=> .top)
 | .agg cs=> .agg (qx ids cs)
 | .tup cs=> .tup (qx ids cs)
 | .fn f cs=> .fn f (qx ids cs)
 | v=>v
def qx (ids:List Nat):List V->List V
 | []=>[]
 | c::cs=>ren ids c::qx ids cs
end
def jn5 (ids:List Nat):Obj->Obj
 | .box cs=> .box (qx ids cs)
 | o=>o
mutual
def K8:V->Nat->V × List Obj
 | .nil k,n=>(.row n,[.row k []])
 | .agg cs,n=>(match Yh cs n with|(cs',os)=>(.agg cs',os))
 | .tup cs,n=>(match Yh cs n with|(cs',os)=>(.tup cs',os))
 | .fn f cs,n=>(match Yh cs n with|(cs',os)=>(.fn f cs',os))
 | v,_=>(v,[])
def Yh:List V->Nat->List V × List Obj
 | [],_=>([],[])
 | c::cs,n=>(match K8 c n with|(c',os)=>(match Yh cs (n+os.length) with|(cs',os')=>(c'::cs',os++os')))
end
def Kh:List Obj->Nat->List Obj × List Obj
 | [],_=>([],[])
 | .box cs::l,n=>(match Yh cs n with|(cs',os)=>(match Kh l (n+os.length) with|(l',os')=>(.box cs'::l',os++os')))
 | o::l,n=>(match Kh l n with|(l',os')=>(o::l',os'))
theorem JR {x:Nat} :∀ {l:List Nat} {i j:Nat},Yo x l i=some j-> ∃q,j=i+q/\l[q]? = some x
 | [],_,_,h=>by cases h
 | y::ys,i,j,h=>by
  simp only [Yo] at h;split at h
  .rename_i hb;cases h;exact ⟨0,rfl,by simp [kU hb]⟩
  .obtain ⟨q,h1,h2⟩:=JR h;exact ⟨q+1,by omega,by simpa using h2⟩
theorem jpB {x:Nat} :∀ {l:List Nat},jeD x l=true↔x∈l
 | []=>by simp [jeD]
 | y::ys=>by
  simp only [jeD,jgq,j7];rw [jpB];exact or_congr ⟨kU,λe=>by simp [e]⟩ Iff.rfl
theorem jfZ:∀ {l:List Nat},jja l=true->l.Nodup
 | [],_=>jgm
 | x::xs,h=>by
  simp only [jja,ju,JO] at h;refine List.nodup_cons.mpr ⟨λhm=> ?_,jfZ h.2⟩;rw [jpB.mpr hm] at h;cases h.1
section
variable {w:World} {O O':Nat->Prop} {m m':zu} {ids:List Nat}
mutual
theorem jCE (h:MonoW w O w O') (hm:∀q id,ids[q]? = some id-> ∀hd,m id=some hd->m' q=some hd):∀(v:V) (u:Value),relV w O m v u->relV w O' m' (ren ids v) u
 | .top,_,_=>by simp [ren,relV]
 | .nil _,v,hr=>by simpa [ren,relV] using hr
 | .ub _ _,v,hr=>by simpa [ren,relV] using hr
 | .d a,v,hr=>by simp only [ren,relV] at hr ⊢;exact zS h a v hr
 | .agg cs,v,hr=>by
  simp only [ren,relV] at hr ⊢;obtain ⟨vs,h1,h2⟩:=hr;exact ⟨vs,h1,ZW h hm cs vs h2⟩
 | .tup cs,v,hr=>by
  simp only [ren,relV] at hr ⊢;obtain ⟨vs,h1,h2⟩:=hr;exact ⟨vs,h1,ZW h hm cs vs h2⟩
 | .fn f cs,v,hr=>by
  simp only [ren,relV] at hr ⊢;obtain ⟨vs,h1,h2⟩:=hr;exact ⟨vs,h1,ZW h hm cs vs h2⟩
 | .ptr id off,v,hr=>by
  simp only [ren,relV] at hr ⊢;obtain ⟨b,c,n,h1,h2⟩:=hr;cases hi:Yo id ids 0 with
  | none=>simp [relV]
  | some i=>
   obtain ⟨q,e1,e2⟩:=JR hi;simp only [relV];exact ⟨b,c,n,by rw [show i=q by omega];exact hm q id e2 _ h1,h2⟩
 | .row id,v,hr=>by
  simp only [ren,relV] at hr ⊢;obtain ⟨hd,h1,h2⟩:=hr;cases hi:Yo id ids 0 with
  | none=>simp [relV]
  | some i=>
   obtain ⟨q,e1,e2⟩:=JR hi;simp only [relV];exact ⟨hd,by rw [show i=q by omega];exact hm q id e2 _ h1,h2⟩
 | .rptr id i k j,v,hr=>by
  simp only [ren,relV] at hr ⊢;obtain ⟨b,c,h1,n,h2⟩:=hr;cases hi:Yo id ids 0 with
  | none=>simp [relV]
  | some i'=>
   obtain ⟨q,e1,e2⟩:=JR hi;simp only [relV];exact ⟨b,c,by rw [show i'=q by omega];exact hm q id e2 _ h1,n,h2⟩
 | .sub id i k j,v,hr=>by
  simp only [ren,relV] at hr ⊢;obtain ⟨hd,h1,h2⟩:=hr;cases hi:Yo id ids 0 with
  | none=>simp [relV]
  | some i'=>
   obtain ⟨q,e1,e2⟩:=JR hi;simp only [relV];exact ⟨hd,by rw [show i'=q by omega];exact hm q id e2 _ h1,h2⟩
 | .win id k off n,v,hr=>by
  simp only [ren,relV] at hr ⊢;obtain ⟨hd,h1,h2⟩:=hr;cases hi:Yo id ids 0 with
  | none=>simp [relV]
  | some i=>
   obtain ⟨q,e1,e2⟩:=JR hi;simp only [relV];exact ⟨hd,by rw [show i=q by omega];exact hm q id e2 _ h1,h2⟩
theorem ZW (h:MonoW w O w O') (hm:∀q id,ids[q]? = some id-> ∀hd,m id=some hd->m' q=some hd):∀(cs:List V) (vs:List Value),jv w O m cs vs->jv w O' m' (qx ids cs) vs
 | [],vs,hr=>by simpa [qx,jv] using hr
 | c::cs,vs,hr=>by
  simp only [qx,jv] at hr ⊢;obtain ⟨v,r,h1,h2,h3⟩:=hr;exact ⟨v,r,h1,jCE h hm c v h2,ZW h hm cs r h3⟩
end
def KP (os:List Abs.Obj):Prop:=∀o∈os,∃k,o = .row k []
mutual
theorem jz9:∀(v:V) (n:Nat),KP (K8 v n).2
 | .top,_=>by intro o h;simp [K8] at h
 | .nil k,_=>by intro o h;simp [K8] at h;exact ⟨k,h⟩
 | .d _,_=>by intro o h;simp [K8] at h
 | .agg cs,n=>by simp only [K8];exact Zx cs n
 | .tup cs,n=>by simp only [K8];exact Zx cs n
 | .fn _ cs,n=>by simp only [K8];exact Zx cs n
 | .ptr _ _,_=>by intro o h;simp [K8] at h
 | .row _,_=>by intro o h;simp [K8] at h
 | .rptr _ _ _ _,_=>by intro o h;simp [K8] at h
 | .win _ _ _ _,_=>by intro o h;simp [K8] at h
 | .ub _ _,_=>by intro o h;simp [K8] at h
 | .sub _ _ _ _,_=>by intro o h;simp [K8] at h
theorem Zx:∀(cs:List V) (n:Nat),KP (Yh cs n).2
 | [],_=>by intro o h;simp [Yh] at h
 | c::cs,n=>by
  simp only [Yh];intro o h;rcases List.mem_append.mp h with h|h
  .exact jz9 c n o h
  .exact Zx cs _ o h
end
mutual
theorem jAa:∀(v:V) (n:Nat) (u:Value),(∀i,n<=i->i < n+(K8 v n).2.length->m i=some .none)->relV w O m v u->relV w O m (K8 v n).1 u
 | .top,_,_,_,_=>by simp [K8,relV]
 | .nil k,n,u,hn,hr=>by
  simp only [K8,relV,zM,qO] at hn hr ⊢;exact ⟨.none,hn n (kD _) (by omega),hr⟩
 | .d a,_,_,_,hr=>by simpa [K8] using hr
 | .agg cs,n,u,hn,hr=>by
  simp only [K8,relV] at hn hr ⊢;obtain ⟨vs,h1,h2⟩:=hr;exact ⟨vs,h1,Zy cs n vs hn h2⟩
 | .tup cs,n,u,hn,hr=>by
  simp only [K8,relV] at hn hr ⊢;obtain ⟨vs,h1,h2⟩:=hr;exact ⟨vs,h1,Zy cs n vs hn h2⟩
 | .fn f cs,n,u,hn,hr=>by
  simp only [K8,relV] at hn hr ⊢;obtain ⟨vs,h1,h2⟩:=hr;exact ⟨vs,h1,Zy cs n vs hn h2⟩
 | .ptr _ _,_,_,_,hr=>by simpa [K8] using hr
 | .row _,_,_,_,hr=>by simpa [K8] using hr
 | .rptr _ _ _ _,_,_,_,hr=>by simpa [K8] using hr
 | .win _ _ _ _,_,_,_,hr=>by simpa [K8] using hr
 | .ub _ _,_,_,_,hr=>by simpa [K8] using hr
 | .sub _ _ _ _,_,_,_,hr=>by simpa [K8] using hr
theorem Zy:∀(cs:List V) (n:Nat) (us:List Value),(∀i,n<=i->i < n+(Yh cs n).2.length->m i=some .none)->jv w O m cs us->jv w O m (Yh cs n).1 us
 | [],_,us,_,hr=>by simpa [Yh] using hr
 | c::cs,n,us,hn,hr=>by
  simp only [Yh,jv,yn] at hn hr ⊢;obtain ⟨v,r,h1,h2,h3⟩:=hr;exact ⟨v,r,h1,jAa c n v (λi h4 h5=>hn i h4 (by omega)) h2,Zy cs _ r (λi h4 h5=>hn i (by omega) (by omega)) h3⟩
end
theorem jju:∀(l:List Abs.Obj) (n:Nat),KP (Kh l n).2/\(Kh l n).1.length=l.length/\
  ((∀i,n<=i->i < n+(Kh l n).2.length->m i=some .none)-> ∀(i:Nat) (o':Abs.Obj),(Kh l n).1[i]? = some o'-> ∃o,l[i]? = some o/\(o'=o\/ ∃cs cs',o=Abs.Obj.box cs/\o'=Abs.Obj.box cs'/\ ∀us,jv w O m cs us->jv w O m cs' us))
 | [],n=>⟨by intro o h;simp [Kh] at h,rfl,by simp [Kh]⟩
 | o::l,n=>by
  have gen:∀o:Abs.Obj,Kh (o::l) n=(o::(Kh l n).1,(Kh l n).2)->KP (Kh (o::l) n).2/\(Kh (o::l) n).1.length=(o::l).length/\
    ((∀i,n<=i->i < n+(Kh (o::l) n).2.length->m i=some .none)-> ∀(i:Nat) (o':Abs.Obj),(Kh (o::l) n).1[i]? = some o'-> ∃o'',(o::l)[i]? = some o''/\(o'=o''\/ ∃cs cs',o''=Abs.Obj.box cs/\o'=Abs.Obj.box cs'/\ ∀us,jv w O m cs us->jv w O m cs' us)):=by
   intro o e;obtain ⟨h1,h2,h3⟩:=jju l n;rw [e];refine ⟨h1,by simp [h2],λhn i o' hi=> ?_⟩;cases i with
   | zero=>simp at hi;subst hi;exact ⟨_,rfl,Or.inl rfl⟩
   | succ i=>simpa using h3 hn i o' (by simpa using hi)
  cases o with
  | box cs=>
   obtain ⟨h1,h2,h3⟩:=jju l (n+(Yh cs n).2.length);simp only [Kh,yn];refine ⟨?_,by simp [h2],λhn i o' hi=> ?_⟩
   .intro o h;rcases List.mem_append.mp h with h|h
    .exact Zx cs n o h
    .exact h1 o h
   .cases i with
    | zero=>
     simp at hi;subst hi;exact ⟨_,rfl,Or.inr ⟨cs,_,rfl,rfl,λus hus=>Zy cs n us (λi h4 h5=>hn i h4 (by omega)) hus⟩⟩
    | succ i=>
     simpa using h3 (λi h4 h5=>hn i (by omega) (by omega)) i o' (by simpa using hi)
  | dead=>exact gen _ rfl
  | gone=>exact gen _ rfl
  | row k xs=>exact gen _ rfl
  | fro k xs=>exact gen _ rfl
  | tre f k xs=>exact gen _ rfl
  | map xs=>exact gen _ rfl
end
theorem jjF {ids:List Nat} {o:Abs.Obj} :(jn5 ids o).alive=o.alive:=by cases o<;>rfl
def zC (objs:List Abs.Obj):jC:=λi=>objs.getD i .dead
theorem KG {objs:List Abs.Obj} {i:Nat} {o:Abs.Obj} (h:objs[i]? = some o):zC objs i=o:=by
 simp [zC,qE,h]
theorem jgg {objs:List Abs.Obj} {i:Nat} (h:objs.length<=i):zC objs i = .dead:=by
 simp [zC,qE,yW h]
theorem KP.get {os:List Abs.Obj} (h:KP os) {i:Nat} {o:Abs.Obj} (hi:os[i]? = some o):∃k,o = .row k []:=h o (Jq hi)
theorem KP.append {a b:List Abs.Obj} (h:KP a) (k:KP b):KP (a++b):=λo ho=>(List.mem_append.mp ho).elim (h o) (k o)
theorem jqP (w:World) (O:Nat->Prop) (m:zu) {ids:List Nat} {st:jC} {os1 ob os3:List Abs.Obj} (n1:KP os1) (e3:Kh (ids.map λid=>jn5 ids (st id)) (ids.length+os1.length)=(ob,os3))
  (hm:∀q,ids.length<=q->q < ids.length+os1.length+os3.length->m q=some .none) :
  ob.length=ids.length/\
  (∀i id,ids[i]? = some id->zC (ob++os1++os3) i=jn5 ids (st id)\/ ∃cs cs',st id = .box cs/\zC (ob++os1++os3) i = .box cs'/\ ∀us,jv w O m (qx ids cs) us->jv w O m cs' us)/\
  (∀i,ids.length<=i->i < ids.length+os1.length+os3.length-> ∃k,zC (ob++os1++os3) i = .row k [])/\(∀i,ids.length+os1.length+os3.length<=i->zC (ob++os1++os3) i = .dead):=by
 obtain ⟨n3,l3,p3⟩:=jju (w:=w) (O:=O) (m:=m) (ids.map λid=>jn5 ids (st id)) (ids.length+os1.length);rw [e3] at n3 l3 p3;simp only [jK] at l3;have p3:=p3 λi h1 h2=>hm i (by omega) h2;refine ⟨l3,?_,?_,?_⟩
 .intro i id hi;have hlt:=(List.getElem?_eq_some_iff.mp hi).1;have hob:ob[i]? = some ob[i]:=zk (by omega);have hst:zC (ob++os1++os3) i=ob[i]:=KG (by rw [zH,Je (by omega),hob]);obtain ⟨o,h3,h4⟩:=p3 i _ hob;rw [yu,hi] at h3;cases h3;rcases h4 with h4|⟨cs,cs',h4,h5,h6⟩
  .exact Or.inl (by rw [hst,h4])
  .right;dsimp only at h4;cases ho:st id with
   | box cs0=>
    rw [ho] at h4;cases h4;exact ⟨cs0,cs',rfl,by rw [hst,h5],h6⟩
   | dead=>rw [ho] at h4;cases h4
   | gone=>rw [ho] at h4;cases h4
   | row k xs=>rw [ho] at h4;cases h4
   | fro k xs=>rw [ho] at h4;cases h4
   | tre f k xs=>rw [ho] at h4;cases h4
   | map xs=>rw [ho] at h4;cases h4
 .intro i h1 h2;have hlt:i - ob.length < (os1++os3).length:=by simp;omega
  obtain ⟨k,hk⟩:=(n1.append n3).get (zk hlt);refine ⟨k,?_⟩;rw [<-hk];exact KG (by rw [zH,Kv (by omega),zk hlt])
 .intro i h1;exact jgg (by simp;omega)
theorem Sto.pick {X:Ctx} {w:World} {O0 O0':Nat->Prop} {m m':zu} {st st':jC} (hs:Sto X w O0 m st) (hN:∀b,X.N b->O0' b) (hO:∀b,O0' b->Ow O0 m st b)
  (src:Nat->Option Nat)
  (h:∀i,(st' i = .dead/\m' i=none)\/st' i = .gone\/((∃k,st' i = .row k []\/st' i = .tre true k [])/\m' i=some .none)\/
   (∃id,src i=some id/\m' i=m id/\(((∃k xs,st' i = .row k xs\/st' i = .fro k xs\/(∃f,st' i = .tre f k xs)\/st' i = .map xs)/\st id=st' i)\/ ∃cs cs',st id = .box cs/\st' i = .box cs'/\((∀b,Ow O0' m' st' b->Ow O0 m st b)->(∀b,Mz m' st' b-> ∃i id hd,src i=some id/\(st id).alive=true/\m id=some hd/\b∈hd.blocks)-> ∀us,jv w (Ow O0 m st) m cs us->jv w (Ow O0' m' st') m' cs' us))))
  (hinj:∀i i' id,src i=some id->src i'=some id->(st' i).alive=true->(st' i').alive=true->i=i')
  (hdis:∀i id hd b,src i=some id->(st' i).alive=true->m id=some hd->b∈hd.blocks-> ¬O0' b) :
  Sto X w O0' m' st'/\(∀b,Mz m' st' b->Mz m st b):=by
 have blk:∀i hd b,(st' i).alive=true->m' i=some hd->b∈hd.blocks-> ∃id,src i=some id/\(st id).alive=true/\m id=some hd:=by
  intro i hd b ha hm hb;rcases h i with ⟨h1,_⟩|h1|⟨_,h2⟩|⟨id,h1,h2,h3⟩
  .rw [h1] at ha;cases ha
  .rw [h1] at ha;cases ha
  .rw [h2] at hm;cases hm;simp [Hd.blocks] at hb
  .refine ⟨id,h1,?_,by rw [<-h2];exact hm⟩
   rcases h3 with ⟨_,h4⟩|⟨cs,cs',h4,_⟩
   .rw [h4];exact ha
   .rw [h4];rfl
 have hmz:∀b,Mz m' st' b->Mz m st b:=by
  rintro b ⟨i,hd,ha,hm,hb⟩;obtain ⟨id,_,h2,h3⟩:=blk i hd b ha hm hb;exact ⟨id,hd,h2,h3,hb⟩
 have hmi:∀b,Mz m' st' b-> ∃i id hd,src i=some id/\(st id).alive=true/\m id=some hd/\b∈hd.blocks:=by
  rintro b ⟨i,hd,ha,hm,hb⟩;obtain ⟨id,h1,h2,h3⟩:=blk i hd b ha hm hb;exact ⟨i,id,hd,h1,h2,h3,hb⟩
 have hsub:∀b,Ow O0' m' st' b->Ow O0 m st b:=λb hb=>hb.elim (hO b) λhb=>Or.inr (hmz b hb);have mono:=MonoW.sub (w:=w) hsub;refine ⟨⟨hs.j,hN,?_,?_,?_,?_,?_⟩,hmz⟩
 .intro i hd;rcases h i with ⟨_,h2⟩|h1|⟨⟨k,h1|h1⟩,_⟩|⟨id,h1,h2,h3⟩
  .exact h2
  .rw [h1] at hd;cases hd
  .rw [h1] at hd;cases hd
  .rw [h1] at hd;cases hd
  .rcases h3 with ⟨⟨k,xs,h4|h4|⟨f,h4⟩|h4⟩,_⟩|⟨cs,cs',_,h4,_⟩<;>rw [h4] at hd<;>cases hd
 .intro b hb;rcases hO b hb with hb|⟨id,hd,ha,hm,hi⟩
  .exact hs.old b hb
  .exact (hs.blk id hd b ha hm hi).1
 .intro i hd b ha hm hi;obtain ⟨id,h1,h2,h3⟩:=blk i hd b ha hm hi;exact ⟨(hs.blk id hd b h2 h3 hi).1,hdis i id hd b h1 ha h3 hi⟩
 .intro i i' hd hd' b ha ha' hm hm' hi hi';obtain ⟨id,g1,g2,g3⟩:=blk i hd b ha hm hi;obtain ⟨id',g1',g2',g3'⟩:=blk i' hd' b ha' hm' hi';have:=hs.inj id id' hd hd' b g2 g2' g3 g3' hi hi';subst this;exact hinj i i' id g1 g1' ha ha'
 .intro i;rcases h i with ⟨h1,_⟩|h1|⟨⟨k,h1|h1⟩,h2⟩|⟨id,h1,h2,h3⟩
  .rw [h1];trivial
  .rw [h1];trivial
  .rw [h1,h2];exact ⟨.none,rfl,rfl⟩
  .rw [h1,h2];exact ⟨.none,rfl,by simp [yB],by simp [Hd.blocks]⟩
  .rw [h2];have ho:=hs.obj id;rcases h3 with ⟨h5,h4⟩|⟨cs,cs',h4,h5,h6⟩
   .rw [h4] at ho;obtain ⟨k,xs,h5⟩:=h5;rcases h5 with h5|h5|⟨f,h5⟩|h5
    .rw [h5] at ho ⊢;obtain ⟨hd,g1,g2⟩:=ho;exact ⟨hd,g1,ja0 mono (λ_ _ _ _=>rfl) g2⟩
    .rw [h5] at ho ⊢;obtain ⟨hd,g1,g0,g2⟩:=ho;exact ⟨hd,g1,g0,λv hv=>zS mono _ _ (g2 v hv)⟩
    .rw [h5] at ho ⊢;exact ho
    .rw [h5] at ho ⊢;obtain ⟨hd,g1,g2⟩:=ho;exact ⟨hd,g1,jdF mono (λ_ _=>rfl) g2⟩
   .rw [h4] at ho;rw [h5];obtain ⟨hd,g1,g2⟩:=ho;refine ⟨hd,g1,?_⟩;cases hd with
    | none=>exact g2
    | tre=>exact g2.elim
    | mp=>exact g2.elim
    | blk b c n=>
     obtain ⟨cc,T,k1,k2,k3⟩:=g2;exact ⟨cc,T,k1,k2,h6 hsub hmi _ k3⟩
mutual
def Sh.toV (as:List A):Sh->V
 | .d i=> .d (as.getD i .top)
 | .row o=> .row o
 | .ptr o off=> .ptr o off
 | .agg l=> .agg (Sh.toVL as l)
 | .tup l=> .tup (Sh.toVL as l)
def Sh.toVL (as:List A):List Sh->List V
 | []=>[]
 | s::l=>Sh.toV as s::Sh.toVL as l
end
def QC (k:Nat) (xs:List (List A)):Abs.Obj:=bif Nat.blt k 64 then .row k xs else bif Nat.beq k 128 then .map xs else .tre true (k - 64) xs
theorem jgU (k:Nat) (xs:List (List A)):QC k xs = .row k xs\/QC k xs = .tre true (k - 64) xs\/QC k xs = .map xs:=by
 unfold QC;cases Nat.blt k 64
 .cases Nat.beq k 128
  .exact Or.inr (Or.inl rfl)
  .exact Or.inr (Or.inr rfl)
 .exact Or.inl rfl
theorem jqn (k:Nat) (xs:List (List A)):(QC k xs).alive=true:=by
 rcases jgU k xs with h|h|h<;>rw [h]<;>rfl
def kdK (k:Nat):Nat:=bif Nat.blt k 256 then k else k % 256
def ZH (a:A):Bool:=match a with | .val (.bool b)=>b|_=>false
def jxH:List Nat->Option Nat
 | []=>none
 | k::ks=>bif Nat.blt k 256 then jxH ks else some (k / 256 - 1)
def jpf (ks:List Nat) (as:List A):A:=match jxH ks with|none=> .val (.bool true)|some i=>as.getD i .top
def Qt (b:Bool) (k:Nat) (xs:List (List A)):Abs.Obj:=bif Nat.blt k 256 then QC k xs else bif b then QC (k % 256) xs else .gone
theorem Y7 (b:Bool) (k:Nat) (xs:List (List A)):Qt b k xs = .gone\/ ∃k',Qt b k xs=QC k' xs/\k'=kdK k:=by
 unfold Qt kdK;cases Nat.blt k 256
 .cases b
  .exact Or.inl rfl
  .exact Or.inr ⟨_,rfl,rfl⟩
 .exact Or.inr ⟨_,rfl,rfl⟩
theorem juO (b:Bool) (k:Nat) (xs:List (List A)):Qt b k xs≠ .dead:=by
 rcases Y7 b k xs with h|⟨k',h,_⟩
 .rw [h];intro e;cases e
 .rw [h];intro e;have:=jqn k' xs;rw [e] at this;cases this
def jjI (b:Bool) (ks:List Nat) (rs:List (List (List A))) (j:Nat):Abs.Obj:=Qt b (ks.getD j 0) (rs.getD j [])
def OW.toO (b:Bool) (ks:List Nat) (as:List A) (rs:List (List (List A))):OW->Abs.Obj
 | .cons=> .gone
 | .io j=>jjI b ks rs j
 | .box l=> .box (Sh.toVL as l)
def SigA.objsB (b:Bool) (sg:SigA) (as:List A) (rs:List (List (List A))):List Abs.Obj:=sg.ws.map (OW.toO b sg.ks as rs)++sg.nw.map (jjI b sg.ks rs)
def SigA.objs (sg:SigA) (as:List A) (rs:List (List (List A))):List Abs.Obj:=sg.objsB (ZH (jpf sg.ks as)) as rs
def hD (o:Out) (i:Nat):Option A:=o.2[i]?
def hR (k:Nat) (o:Out) (i:Nat):Option (List (List A)):=match o.2[i]? with|some (.sl k' xs)=>if k'=k then some xs else none|_=>none
structure HolesOk (sg:SigA) (o:Out) (as:List A) (rs:List (List (List A))):Prop where
 la:as.length=sg.nd
 da:∀i a,as[i]? = some a->hD o i=some a
 lr:rs.length=sg.ks.length
 dr:∀j r k,rs[j]? = some r->sg.ks[j]? = some k->hR k o (sg.nd+j)=some r
def bkI (l:List Nat) (i:Nat) (f:Nat->V):V:=match l[i]? with|some j=>f j|none=> .top
mutual
def bk (l:List Nat):V->V
 | .ptr id off=>bkI l id λj=> .ptr j off
 | .row id=>bkI l id .row
 | .rptr _ _ _ _=> .top
 | .win _ _ _ _=> .top
 | .sub _ _ _ _=> .top
 | .agg cs=> .agg (bkL l cs)
 | .tup cs=> .tup (bkL l cs)
 | .fn f cs=> .fn f (bkL l cs)
 | v=>v
def bkL (l:List Nat):List V->List V
 | []=>[]
 | c::cs=>bk l c::bkL l cs
end
def bkO (l:List Nat):Abs.Obj->Abs.Obj
 | .box cs=> .box (bkL l cs)
 | o=>o
section
variable {w:World} {O O':Nat->Prop} {m m':zu} {l:List Nat}
mutual
theorem jsb (h:MonoW w O w O') (hm:∀q id,l[q]? = some id-> ∀hd,m q=some hd->m' id=some hd):∀(v:V) (u:Value),relV w O m v u->relV w O' m' (bk l v) u
 | .top,_,_=>by simp [bk,relV]
 | .nil _,v,hr=>by simpa [bk,relV] using hr
 | .d a,v,hr=>by simp only [bk,relV] at hr ⊢;exact zS h a v hr
 | .agg cs,v,hr=>by
  simp only [bk,relV] at hr ⊢;obtain ⟨vs,h1,h2⟩:=hr;exact ⟨vs,h1,jen h hm cs vs h2⟩
 | .tup cs,v,hr=>by
  simp only [bk,relV] at hr ⊢;obtain ⟨vs,h1,h2⟩:=hr;exact ⟨vs,h1,jen h hm cs vs h2⟩
 | .fn f cs,v,hr=>by
  simp only [bk,relV] at hr ⊢;obtain ⟨vs,h1,h2⟩:=hr;exact ⟨vs,h1,jen h hm cs vs h2⟩
 | .ptr id off,v,hr=>by
  simp only [bk,bkI,relV] at hr ⊢;obtain ⟨b,c,n,h1,h2⟩:=hr;cases hi:l[id]? with
  | none=>simp [relV]
  | some j=>simp only [relV];exact ⟨b,c,n,hm _ _ hi _ h1,h2⟩
 | .row id,v,hr=>by
  simp only [bk,bkI,relV] at hr ⊢;obtain ⟨hd,h1,h2⟩:=hr;cases hi:l[id]? with
  | none=>simp [relV]
  | some j=>simp only [relV];exact ⟨hd,hm _ _ hi _ h1,h2⟩
 | .rptr _ _ _ _,v,hr=>by simp [bk,relV]
 | .win _ _ _ _,v,hr=>by simp [bk,relV]
 | .sub _ _ _ _,v,hr=>by simp [bk,relV]
 | .ub _ _,v,hr=>by simpa [bk,relV] using hr
theorem jen (h:MonoW w O w O') (hm:∀q id,l[q]? = some id-> ∀hd,m q=some hd->m' id=some hd):∀(cs:List V) (vs:List Value),jv w O m cs vs->jv w O' m' (bkL l cs) vs
 | [],vs,hr=>by simpa [bkL,jv] using hr
 | c::cs,vs,hr=>by
  simp only [bkL,jv] at hr ⊢;obtain ⟨v,r,h1,h2,h3⟩:=hr;exact ⟨v,r,h1,jsb h hm c v h2,jen h hm cs r h3⟩
end
end
theorem jac {l:List Nat} {o:Abs.Obj} :(bkO l o).alive=o.alive:=by cases o<;>rfl
def SOk (X:Ctx) (P:Program) (f:FuncId) (args:List V) (objs:List Abs.Obj) (sg:SigA) (out:Out):Prop:=Enters P f/\
 ∀(w:World) (O:Nat->Prop) (m:zu) (vs:List Value),Sto X w O m (zC objs)->(∀i,i < objs.length-> ∃h,m i=some h/\h.fixed=true)->jv w (Ow O m (zC objs)) m args vs->
  Calls P f vs.toArray w λe w'=>∃v,e = .returned v/\ ∃as rs m',HolesOk sg out as rs/\(w'.os=w.os/\w'.tape=w.tape/\Quiet w w'/\w.heap.size<=w'.heap.size)/\
   (∀b,b < w.heap.size-> ¬Mz m (zC objs) b->w'.heap[b]? = w.heap[b]?)/\(∀b,Mz m' (zC (sg.objs as rs)) b->Mz m (zC objs) b\/w.heap.size<=b)/\(∀i,i < objs.length->m' i=m i)/\
   Sto X w' O m' (zC (sg.objs as rs))/\relV w' (Ow O m' (zC (sg.objs as rs))) m' (sg.r.toV as) v
def StM (X:Ctx) (C:Cfg) (M:Node->Option Out):Prop:=∀f args objs sgs sg out,C.sig f=some sgs->jaa objs.length sgs=some sg->M (.callv f args objs)=some out->SOk X C.P f args objs sg out
def jjt (keep:Bool) (cs:List V) (n:Nat):List V × List Abs.Obj:=if keep then (cs,[]) else Yh cs n
theorem jwe (keep:Bool) (cs:List V) (n:Nat):KP (jjt keep cs n).2:=by
 unfold jjt;split
 .intro o h;simp at h
 .exact Zx cs n
theorem jwf {w:World} {O:Nat->Prop} {m:zu} (keep:Bool) (cs:List V) (n:Nat) (us:List Value) (h:∀i,n<=i->i < n+(jjt keep cs n).2.length->m i=some .none) (hr:jv w O m cs us):jv w O m (jjt keep cs n).1 us:=by
 unfold jjt at h ⊢;split at h
 .rename_i hk;simp only [hk];exact hr
 .rename_i hk;simp only [hk];exact Zy cs n us h hr
def jcg (keep:Bool) (st:jC) (vs:List V):Option (List Nat × List V × List Abs.Obj × Nat):=
 let ids:=reach st 400 (je0 vs) []
 if jja ids then
  match jjt keep (qx ids vs) ids.length with
  | (vs2,os1)=>(match Kh (ids.map λid=>jn5 ids (st id)) (ids.length+os1.length) with
   | (ob,os3)=>some (ids,vs2,ob++os1++os3,os1.length+os3.length))
 else none
def jiZ:Abs.Obj->Bool
 | .dead=>false
 | .gone=>false
 | .tre f _ _=>f
 | _=>true
def Hb (ids:List Nat) (m:zu) (st:jC) (b:Nat):Prop:=∃id hd,id∈ids/\(st id).alive=true/\m id=some hd/\b∈hd.blocks
def jdE (ids:List Nat) (p:Nat) (m:zu):zu:=λq=>if q < ids.length then (ids[q]?).bind m else if q < ids.length+p then some .none else none
theorem jnI {ids:List Nat} {p:Nat} {m:zu} {q id:Nat} (h:ids[q]? = some id):jdE ids p m q=m id:=by
 have:=(List.getElem?_eq_some_iff.mp h).1;unfold jdE;rw [jl this,h];rfl
theorem jCx {X:Ctx} {w:World} {O0:Nat->Prop} {m:zu} {st0 st:jC} {vs:List V} {ids:List Nat} {vs2:List V} {objs:List Abs.Obj} {p:Nat} {keep:Bool} (h:jcg keep st0 vs=some (ids,vs2,objs,p)) (hlive:objs.all jiZ=true)
  (hs:Sto X w O0 m st) (hag:∀id∈ids,st id=st0 id) {us:List Value} (hr:jv w (Ow O0 m st) m vs us) :
  ids.Nodup/\objs.length=ids.length+p/\(∀i,i < objs.length-> ∃h,jdE ids p m i=some h/\h.fixed=true)/\(∀id∈ids,∃h,m id=some h)/\(∀b,Mz (jdE ids p m) (zC objs) b↔Hb ids m st b)/\
   Sto X w (λb=>Ow O0 m st b/\ ¬Hb ids m st b) (jdE ids p m) (zC objs)/\jv w (Ow (λb=>Ow O0 m st b/\ ¬Hb ids m st b) (jdE ids p m) (zC objs)) (jdE ids p m) vs2 us:=by
 unfold jcg at h;dsimp only at h;split at h;rotate_left
 .cases h
 rename_i hnd;generalize reach st0 400 (je0 vs) []=ids' at h hnd;have hnd:=jfZ hnd;generalize e1:jjt keep (qx ids' vs) ids'.length=q1 at h;obtain ⟨vs2',os1⟩:=q1;dsimp only at h;generalize e3:Kh (ids'.map λid=>jn5 ids' (st0 id)) (ids'.length+os1.length)=q3 at h;obtain ⟨ob,os3⟩:=q3;simp only [kL,qB] at h;obtain ⟨k1,k2,k3,k4⟩:=h;have k1:=k1.symm;subst k1;subst k2 k3 k4;have n1:KP os1:=by have:=jwe keep (qx ids vs) ids.length;rw [e1] at this;exact this
 generalize hmc:jdE ids (os1.length+os3.length) m=mc;have m1:∀q id,ids[q]? = some id->mc q=m id:=λq id hq=>by rw [<-hmc];exact jnI hq
 have m2:∀q,ids.length<=q->q < ids.length+os1.length+os3.length->mc q=some .none:=λq h1 h2=>by
  rw [<-hmc];simp only [jdE];rw [jo (by omega),jl (by omega)]
 have m3:∀q,ids.length+os1.length+os3.length<=q->mc q=none:=λq h1=>by
  rw [<-hmc];simp only [jdE];rw [jo (by omega),jo (by omega)]
 generalize hst':zC (ob++os1++os3)=st';generalize hO':(λb=>Ow O0 m st b/\ ¬Hb ids m st b)=O0';obtain ⟨l3,t1,t2,t3⟩:=jqP w (Ow O0' mc st') mc n1 e3 m2;rw [hst'] at t1 t2 t3;have hlen:(ob++os1++os3).length=ids.length+(os1.length+os3.length):=by simp;omega
 have hal:∀i,i < ids.length+os1.length+os3.length->jiZ (st' i)=true:=λi hi=>by
  rw [<-hst'];have:(ob++os1++os3)[i]? = some (ob++os1++os3)[i]:=zk (by omega);rw [KG this];exact List.all_eq_true.mp hlive _ (jr _)
 have hst0:∀i id,ids[i]? = some id->jiZ (st id)=true/\(st' i).alive=(st id).alive:=λi id hi=>by
  have hl:=hal i (by have:=(List.getElem?_eq_some_iff.mp hi).1;omega)
  rw [hag id (Jq hi)];rcases t1 i id hi with h1|⟨cs,cs',h1,h2,_⟩
  .rw [h1] at hl ⊢;refine ⟨?_,jjF⟩;cases ho:st0 id<;>rw [ho] at hl<;>simp [jn5,jiZ] at hl ⊢ <;>exact hl
  .rw [h1,h2];exact ⟨rfl,rfl⟩
 have hmid:∀id∈ids,∃h,m id=some h:=λid hid=>by
  obtain ⟨i,hi⟩:=List.mem_iff_getElem?.mp hid;have hl:=(hst0 i id hi).1;have ho:=hs.obj id;cases hc:st id<;>rw [hc] at hl ho
  .cases hl
  .cases hl
  all_goals (obtain ⟨hd,h1,_⟩:=ho;exact ⟨hd,h1⟩)
 have hmz:∀b,Mz mc st' b↔Hb ids m st b:=λb=>by
  constructor
  .rintro ⟨i,hd,ha,hm,hb⟩;by_cases hi:i < ids.length
   .have hg:ids[i]? = some ids[i]:=zk hi;exact ⟨ids[i],hd,jr _,by rw [<-(hst0 i _ hg).2];exact ha,by rw [<-m1 i _ hg];exact hm,hb⟩
   .by_cases hi':i < ids.length+os1.length+os3.length
    .rw [m2 i (by omega) hi'] at hm;cases hm;simp [Hd.blocks] at hb
    .rw [m3 i (by omega)] at hm;cases hm
  .rintro ⟨id,hd,hid,ha,hm,hb⟩;obtain ⟨i,hi⟩:=List.mem_iff_getElem?.mp hid;exact ⟨i,hd,by rw [(hst0 i id hi).2];exact ha,by rw [m1 i id hi];exact hm,hb⟩
 have hpick:=Sto.pick (X:=X) (w:=w) (O0':=O0') (m':=mc) (st':=st') hs (λb hb=>by
   rw [<-hO'];exact ⟨Or.inl (hs.jn b hb),λ⟨id,hd,_,ha,hm,hi⟩=>(hs.blk id hd b ha hm hi).2 (hs.jn b hb)⟩) (λb hb=>by rw [<-hO'] at hb;exact hb.1) (λi=>ids[i]?) (λi=> ?_)
   (λi i' id h1 h2 _ _=>(List.getElem?_inj (List.getElem?_eq_some_iff.mp h1).1 hnd).mp (h1.trans h2.symm))
   (λi id hd b h1 h2 h3 h4 hb=>by
    rw [<-hO'] at hb;exact hb.2 ⟨id,hd,Jq h1,by rw [<-(hst0 i id h1).2];exact h2,h3,h4⟩)
 rotate_left
 .by_cases hi:i < ids.length
  .have hg:ids[i]? = some ids[i]:=zk hi;have hag':=hag ids[i] (jr _);have hl:=(hst0 i _ hg).1;right;right;right;refine ⟨ids[i],hg,m1 i _ hg,?_⟩;rcases t1 i _ hg with h1|⟨cs,cs',h1,h2,h3⟩
   .cases hc:st ids[i] with
    | dead=>rw [hc] at hl;cases hl
    | gone=>rw [hc] at hl;cases hl
    | box cs=>
     rw [<-hag',hc] at h1;refine Or.inr ⟨cs,_,rfl,h1,λhsub _ us hus=>ZW (MonoW.sub hsub) (λq id hq hd h=>by rw [m1 q id hq];exact h) _ _ hus⟩
    | row k xs=>rw [<-hag',hc] at h1;exact Or.inl ⟨⟨k,xs,Or.inl h1⟩,h1.symm⟩
    | fro k xs=>rw [<-hag',hc] at h1;exact Or.inl ⟨⟨k,xs,Or.inr (Or.inl h1)⟩,h1.symm⟩
    | tre f k xs=>rw [<-hag',hc] at h1;exact Or.inl ⟨⟨k,xs,Or.inr (Or.inr (Or.inl ⟨f,h1⟩))⟩,h1.symm⟩
    | map xs=>rw [<-hag',hc] at h1;exact Or.inl ⟨⟨0,xs,Or.inr (Or.inr (Or.inr h1))⟩,h1.symm⟩
   .refine Or.inr ⟨cs,cs',by rw [hag',h1],h2,λhsub _ us hus=>h3 us (ZW (MonoW.sub hsub) (λq id hq hd h=>by rw [m1 q id hq];exact h) _ _ hus)⟩
  .by_cases hi':i < ids.length+os1.length+os3.length
   .obtain ⟨k,hk⟩:=t2 i (by omega) hi';exact Or.inr (Or.inr (Or.inl ⟨⟨k,Or.inl hk⟩,m2 i (by omega) hi'⟩))
   .exact Or.inl ⟨t3 i (by omega),m3 i (by omega)⟩
 refine ⟨hnd,hlen,?_,hmid,hmz,hpick.1,?_⟩
 .intro i hi;by_cases hi':i < ids.length
  .have hg:ids[i]? = some ids[i]:=zk hi';rw [m1 i _ hg];obtain ⟨h,hh⟩:=hmid _ (jr hi');have hl:=(hst0 i _ hg).1;refine ⟨h,hh,hs.fixed hh (λk xs e=> ?_) λe=> ?_⟩
   .rw [e] at hl;cases hl
   .rw [e] at hl;cases hl
  .exact ⟨.none,m2 i (by omega) (by omega),rfl⟩
 .have hsub:∀b,Ow O0' mc st' b->Ow O0 m st b:=λb hb=>hb.elim (λh=>by rw [<-hO'] at h;exact h.1) λhb=>Or.inr (hpick.2 b hb)
  have g:=jwf keep _ ids.length _ (λi h1 h2=>m2 i h1 (by rw [e1] at h2;dsimp only at h2;omega)) (ZW (MonoW.sub hsub) (λq id hq hd h=>by rw [m1 q id hq];exact h) _ _ hr)
  rw [e1] at g;exact g
end
noncomputable section
def ups:Nat->Nat->List Nat
 | _,0=>[]
 | n,k+1=>n::ups (n+1) k
def jeF (st:jC):List Nat->List Rd
 | []=>[]
 | id::l=> .obj id (st id)::jeF st l
def jbZ:List Nat->List Rd
 | []=>[]
 | id::l=> .fresh id::jbZ l
def jc2:List Nat->List Abs.Obj->List Wr
 | id::l,o::os=> .obj id o::jc2 l os
 | _,_=>[]
theorem ju1:∀ {k n i:Nat},i∈ups n k↔n<=i/\i < n+k
 | 0,n,i=>by simp only [ups,jbn,j6,false_iff];omega
 | k+1,n,i=>by simp only [ups,j7,ju1];omega
theorem jdW:∀(k n:Nat),(ups n k).length=k
 | 0,_=>rfl
 | k+1,n=>by simp [ups,jdW k]
theorem jgi:∀(k n:Nat),(ups n k).Nodup
 | 0,_=>jgm
 | k+1,n=>List.nodup_cons.mpr ⟨λh=>by have:=ju1.mp h;omega,jgi k _⟩
theorem jfS {st0 st:jC} :∀ {l:List Nat},(∀r∈jeF st0 l,yI st r)-> ∀id∈l,st id=st0 id
 | [],_,_,h=>by cases h
 | i::l,hg,id,h=>by
  rcases List.mem_cons.mp h with rfl|h
  .exact hg (.obj id (st0 id)) (by simp [jeF])
  .exact jfS (l:=l) (λr hr=>hg r (by simp [jeF,hr])) id h
theorem jdy {st:jC} :∀ {l:List Nat},∀r∈jeF st l,yI st r
 | [],_,h=>by cases h
 | i::l,r,h=>by
  simp only [jeF,j7] at h;rcases h with rfl|h
  .rfl
  .exact jdy r h
theorem jcH {st:jC} :∀ {l:List Nat},(∀r∈jbZ l,yI st r)-> ∀id∈l,st id = .dead
 | [],_,_,h=>by cases h
 | i::l,hg,id,h=>by
  rcases List.mem_cons.mp h with rfl|h
  .exact hg (.fresh id) (by simp [jbZ])
  .exact jcH (l:=l) (λr hr=>hg r (by simp [jbZ,hr])) id h
theorem jeC {st:jC} :∀ {l:List Nat},(∀id∈l,st id = .dead)-> ∀r∈jbZ l,yI st r
 | [],_,_,h=>by cases h
 | i::l,hg,r,h=>by
  simp only [jbZ,j7] at h;rcases h with rfl|h
  .exact hg i (by simp)
  .exact jeC (λid hid=>hg id (by simp [hid])) r h
theorem jfL:∀(tot:List Nat) (os:List Abs.Obj) (st:jC),tot.Nodup->tot.length=os.length->
  (∀(q id:Nat) (o:Abs.Obj),tot[q]? = some id->os[q]? = some o->kV st (jc2 tot os) id=o)/\(∀id,id ∉ tot->kV st (jc2 tot os) id=st id)
 | [],_,st,_,_=>⟨λq id o h=>by simp at h,λ_ _=>rfl⟩
 | i::tot,[],st,_,h=>by cases h
 | i::tot,o::os,st,hn,hl=>by
  obtain ⟨hn1,hn2⟩:=List.nodup_cons.mp hn;obtain ⟨h1,h2⟩:=jfL tot os (upd st i o) hn2 (by simpa using hl);have e:kV st (jc2 (i::tot) (o::os))=kV (upd st i o) (jc2 tot os):=rfl;rw [e];refine ⟨λq id o' hq ho=> ?_,λid hid=> ?_⟩
  .cases q with
   | zero=>
    simp at hq ho;subst hq ho;rw [h2 i hn1,jJ]
   | succ q=>exact h1 q id o' (by simpa using hq) (by simpa using ho)
  .rw [h2 id (λh=>hid (by simp [h])),upd_ne _ _ (λh=>hid (by simp [h]))]
theorem jpE {x:Nat} {l:List Nat} (hn:l.Nodup) {q:Nat} (h:l[q]? = some x):Yo x l 0=some q:=by
 cases hi:Yo x l 0 with
 | none=>
  exfalso;have:∀(l:List Nat) (i:Nat),Yo x l i=none->x ∉ l:=by
   intro l;induction l with
   | nil=>intro i _ h;cases h
   | cons y ys ih=>
    intro i hi hm;simp only [Yo] at hi;split at hi
    .cases hi
    .rename_i hb;rcases List.mem_cons.mp hm with rfl|hm
     .simp at hb
     .exact ih _ hi hm
  exact this l 0 hi (Jq h)
 | some j=>
  obtain ⟨q',e,h'⟩:=JR hi;have:=(List.getElem?_inj (List.getElem?_eq_some_iff.mp h').1 hn).mp (h'.trans h.symm);congr 1;omega
theorem jpF {x:Nat} {l:List Nat} (h:x ∉ l):Yo x l 0=none:=by
 cases hi:Yo x l 0 with
 | none=>rfl
 | some j=>
  obtain ⟨q,_,h'⟩:=JR hi;exact absurd (Jq h') h
theorem HolesOk.eq {sg:SigA} {o:Out} {as as':List A} {rs rs':List (List (List A))} (h:HolesOk sg o as rs) (h':HolesOk sg o as' rs'):as'=as/\rs'=rs:=by
 have la:=h.la;have la':=h'.la;have lr:=h.lr;have lr':=h'.lr;constructor
 .refine Ye λi=> ?_;by_cases hi:i < sg.nd
  .have e1:as[i]? = some as[i]:=zk (by omega);have e2:as'[i]? = some as'[i]:=zk (by omega);have:=(h.da i _ e1).symm.trans (h'.da i _ e2);rw [e1,e2];exact this.symm
  .rw [yW (by omega),yW (by omega)]
 .refine Ye λi=> ?_;by_cases hi:i < sg.ks.length
  .have hi1:i < rs.length:=by omega
   have hi2:i < rs'.length:=by omega
   have e1:rs[i]? = some rs[i]:=zk hi1;have e2:rs'[i]? = some rs'[i]:=zk hi2;have e3:sg.ks[i]? = some sg.ks[i]:=zk hi;have:=(h.dr i _ _ e1 e3).symm.trans (h'.dr i _ _ e2 e3);rw [e1,e2];exact this.symm
  .rw [yW (by omega),yW (by omega)]
theorem jnR {sg:SigA} {as:List A} {rs:List (List (List A))} {q:Nat} {o:Abs.Obj} (h:(sg.objs as rs)[q]? = some o):o≠ .dead:=by
 have:=Jq h;simp only [SigA.objs,SigA.objsB,zh,ym] at this;rcases this with ⟨x,_,rfl⟩|⟨j,_,rfl⟩
 .cases x with
  | cons=>intro h;cases h
  | io j=>exact juO _ _ _
  | box l=>intro h;cases h
 .exact juO _ _ _
theorem zo.stcall {keep:Bool} {P:Program} {X:Ctx} {o:Oper} {ρ:Operand->V} {f:Operand} {xs:Array Operand} {ts:Array TypeId} (ho:o.op = .call { callee:= .value f,args:=xs,argTypes:=ts }) {g:FuncId} {st0:jC} {vs vs2:List V} {ids:List Nat} {objs:List Abs.Obj} {p:Nat} {sg:SigA} {out:Out}
  (hp:SOk X P g vs2 objs sg out) (hprep:jcg keep st0 vs=some (ids,vs2,objs,p)) (hlive:objs.all jiZ=true) (hws:sg.ws.length=objs.length)
  (hargs:∀(w:World) (O0:Nat->Prop) (m:zu) (st:jC) (ev:Operand->Value),Sto X w O0 m st->(∀x∈o.op.operands,relV w (Ow O0 m st) m (ρ x) (ev x))->
   ∃us:List Value,ev f = .func (.func g) #[] us.toArray/\jv w (Ow O0 m st) m vs (xs.toList.map ev++us))
  {as:List A} {rs:List (List (List A))} (hh:HolesOk sg out as rs) {nid:Nat} :
  zo P X o ρ ⟨bk (ids++ups nid (p+sg.nw.length)) (sg.r.toV as),jeF st0 ids++jbZ (ups nid (p+sg.nw.length)),jc2 (ids++ups nid (p+sg.nw.length)) ((sg.objs as rs).map (bkO (ids++ups nid (p+sg.nw.length))))⟩:=by
 intro w O0 m st ev hs hg hr _hc;have hag:=jfS (st0:=st0) (st:=st) (l:=ids) λr hr=>hg r (Yd _ hr);have hfr:=jcH (st:=st) (l:=ups nid (p+sg.nw.length)) λr hr=>hg r (Qg _ hr);obtain ⟨us,h1,h2⟩:=hargs w O0 m st ev hs hr;obtain ⟨hnd,hlen,hsome,hmid,hmz,hsc,hrel⟩:=jCx hprep hlive hs hag h2;rw [ZM ho h1 hp.1 w];have e:(xs.toList.map ev++us).toArray=(xs.toList.map ev++us).toArray:=rfl;refine ⟨rfl,(hp.2 w _ _ _ hsc hsome hrel).mono ?_⟩;rintro e w' ⟨v,rfl,as',rs',mc',hh',⟨q1,q2,q3,q4⟩,hkeep,hnew,hsame,hs',hv⟩;obtain ⟨rfl,rfl⟩:=hh.eq hh';dsimp only [YL];generalize hmc:jdE ids p m=mc at *;generalize htot:ids++ups nid (p+sg.nw.length)=tot;generalize hobj:sg.objs as' rs'=objs' at *;have hol:objs'.length=tot.length:=by rw [<-hobj,<-htot];simp [SigA.objs,SigA.objsB,jdW,hws,hlen];omega
 have htn:tot.Nodup:=by
  rw [<-htot];refine List.nodup_append.mpr ⟨hnd,jgi _ _,λa ha b hb e=> ?_⟩;subst e;obtain ⟨h,hh⟩:=hmid a ha;rw [hs.fresh a (hfr a hb)] at hh;cases hh
 obtain ⟨za,zb⟩:=jfL tot (objs'.map (bkO tot)) st htn (by simp [hol]);generalize hst2:kV st (jc2 tot (objs'.map (bkO tot)))=st2 at *;have za:∀q id,tot[q]? = some id->st2 id=bkO tot (zC objs' q):=λq id hq=>by
  have hlt:q < objs'.length:=by rw [hol];exact (List.getElem?_eq_some_iff.mp hq).1
  have:objs'[q]? = some objs'[q]:=zk hlt;rw [KG this];exact za q id _ hq (by rw [yu,this];rfl)
 refine ⟨v,rfl,λid=>match Yo id tot 0 with|some q=>mc' q|none=>m id,?_⟩;generalize hm2:((λid=>match Yo id tot 0 with|some q=>mc' q|none=>m id):zu)=m2;have ma:∀q id,tot[q]? = some id->m2 id=mc' q:=λq id hq=>by rw [<-hm2];simp only [jpE htn hq]
 have mb:∀id,id ∉ tot->m2 id=m id:=λid hid=>by rw [<-hm2];simp only [jpF hid]
 have tlt:∀q id,ids[q]? = some id->tot[q]? = some id:=λq id hq=>by rw [<-htot,Je (List.getElem?_eq_some_iff.mp hq).1,hq]
 have idt:∀id∈ids,id∈tot:=λid h=>by rw [<-htot];exact Yd _ h
 have mold:∀id∈ids,m2 id=m id:=λid hid=>by
  obtain ⟨q,hq⟩:=List.mem_iff_getElem?.mp hid;have hlt:=(List.getElem?_eq_some_iff.mp hq).1;rw [ma q id (tlt q id hq),hsame q (by omega),<-hmc];exact jnI hq
 have tot_or:∀id∈tot,id∈ids\/(m id=none/\st id = .dead):=λid h=>by
  rw [<-htot] at h;rcases List.mem_append.mp h with h|h
  .exact Or.inl h
  .exact Or.inr ⟨hs.fresh id (hfr id h),hfr id h⟩
 have apart:∀id hd b,id ∉ tot->(st id).alive=true->m id=some hd->b∈hd.blocks-> ¬Hb ids m st b:=λid hd b hid ha hm hi=>by
  rintro ⟨id',hd',h1,h2,h3,h4⟩;have:=hs.inj id id' hd hd' b ha h2 hm h3 hi h4;subst this;exact hid (idt _ h1)
 have mzlt:∀b,Mz m st b->b < w.heap.size:=λb ⟨id,hd,ha,hm,hi⟩=>(hs.blk id hd b ha hm hi).1;have hbmz:∀b,Hb ids m st b->Mz m st b:=λb ⟨id,hd,_,ha,hm,hi⟩=>⟨id,hd,ha,hm,hi⟩;have mz2:∀b,Mz m2 st2 b->Mz mc' (zC objs') b\/(Mz m st b/\ ¬Hb ids m st b):=by
  rintro b ⟨id,hd,ha,hm,hi⟩;by_cases hid:id∈tot
  .obtain ⟨q,hq⟩:=List.mem_iff_getElem?.mp hid;rw [za q id hq,jac] at ha;rw [ma q id hq] at hm;exact Or.inl ⟨q,hd,ha,hm,hi⟩
  .rw [zb id hid] at ha;rw [mb id hid] at hm;exact Or.inr ⟨⟨id,hd,ha,hm,hi⟩,apart id hd b hid ha hm hi⟩
 have hkeep:∀b,b < w.heap.size-> ¬Hb ids m st b->w'.heap[b]? = w.heap[b]? :=λb hb hn=>hkeep b hb λh=>hn ((hmz b).mp h);have hnew:∀b,Mz mc' (zC objs') b->Hb ids m st b\/w.heap.size<=b:=λb hb=>(hnew b hb).imp (hmz b).mp id;have hsub:∀b,Ow O0 m2 st2 b->Ow (λb=>Ow O0 m st b/\ ¬Hb ids m st b) mc' (zC objs') b:=by
  rintro b (hb|hb)
  .exact Or.inl ⟨Or.inl hb,λ⟨id,hd,_,ha,hm,hi⟩=>(hs.blk id hd b ha hm hi).2 hb⟩
  .rcases mz2 b hb with hb|⟨h3,h4⟩
   .exact Or.inr hb
   .exact Or.inl ⟨Or.inr h3,h4⟩
 have hchg:Chg w m st w' m2 st2:=by
  refine ⟨q1,q2,q3,q4,λb hb hn=>hkeep b hb λh=>hn (hbmz b h),MLe.of ?_,?_⟩
  .intro id h e;by_cases hid:id∈tot
   .rcases tot_or id hid with h1|⟨h1,_⟩
    .rw [mold id h1];exact e
    .rw [h1] at e;cases e
   .rw [mb id hid];exact e
  .intro b hb;rcases mz2 b hb with hb|hb
   .exact (hnew b hb).imp (hbmz b) (λh=>h)
   .exact Or.inl hb.1
 have hbk:∀q id,tot[q]? = some id-> ∀hd,mc' q=some hd->m2 id=some hd:=λq id hq hd h=>by rw [ma q id hq];exact h
 refine ⟨hchg,hs.chg hchg ?_ ?_ ?_ ?_,jsb (MonoW.sub hsub) hbk _ _ hv⟩
 .intro id hd;by_cases hid:id∈tot
  .obtain ⟨q,hq⟩:=List.mem_iff_getElem?.mp hid;rw [za q id hq] at hd;have hlt:q < objs'.length:=by rw [hol];exact (List.getElem?_eq_some_iff.mp hq).1
   have hget:objs'[q]? = some objs'[q]:=zk hlt;rw [KG hget] at hd;have hne:=jnR (sg:=sg) (as:=as') (rs:=rs') (q:=q) (by rw [hobj];exact hget);exfalso;cases hc:objs'[q]<;>rw [hc] at hd hne<;>simp [bkO] at hd hne
  .rw [zb id hid] at hd;rw [mb id hid];exact hs.fresh id hd
 .intro id hd b ha hm hi;by_cases hid:id∈tot
  .obtain ⟨q,hq⟩:=List.mem_iff_getElem?.mp hid;rw [za q id hq,jac] at ha;rw [ma q id hq] at hm;have:=hs'.blk q hd b ha hm hi;exact Or.inr ⟨this.1,λh=>this.2 ⟨Or.inl h,λ⟨id,hd,_,ha,hm,hi⟩=>(hs.blk id hd b ha hm hi).2 h⟩⟩
  .rw [zb id hid] at ha;rw [mb id hid] at hm;exact Or.inl ⟨ha,hm⟩
 .intro id id' hd hd' b ha ha' hm hm' hi hi';by_cases hid:id∈tot
  .obtain ⟨q,hq⟩:=List.mem_iff_getElem?.mp hid;rw [za q id hq,jac] at ha;rw [ma q id hq] at hm;by_cases hid':id'∈tot
   .obtain ⟨q',hq'⟩:=List.mem_iff_getElem?.mp hid';rw [za q' id' hq',jac] at ha';rw [ma q' id' hq'] at hm';have:=hs'.inj q q' hd hd' b ha ha' hm hm' hi hi';subst this;rw [hq] at hq';cases hq';rfl
   .exfalso;rw [zb id' hid'] at ha';rw [mb id' hid'] at hm';rcases hnew b ⟨q,hd,ha,hm,hi⟩ with h|h
    .exact apart id' hd' b hid' ha' hm' hi' h
    .have:=(hs.blk id' hd' b ha' hm' hi').1;omega
  .rw [zb id hid] at ha;rw [mb id hid] at hm;by_cases hid':id'∈tot
   .exfalso;obtain ⟨q,hq⟩:=List.mem_iff_getElem?.mp hid';rw [za q id' hq,jac] at ha';rw [ma q id' hq] at hm';rcases hnew b ⟨q,hd',ha',hm',hi'⟩ with h|h
    .exact apart id hd b hid ha hm hi h
    .have:=(hs.blk id hd b ha hm hi).1;omega
   .rw [zb id' hid'] at ha';rw [mb id' hid'] at hm';exact hs.inj id id' hd hd' b ha ha' hm hm' hi hi'
 .intro id;by_cases hid:id∈tot
  .right;obtain ⟨q,hq⟩:=List.mem_iff_getElem?.mp hid;rw [za q id hq,ma q id hq];have ho:=hs'.obj q;generalize zC objs' q=oo at ho;cases oo with
   | dead=>trivial
   | gone=>trivial
   | box cs=>
    obtain ⟨hd,g1,g2⟩:=ho;refine ⟨hd,g1,?_⟩;cases hd with
    | none=>exact g2
    | tre=>exact g2.elim
    | mp=>exact g2.elim
    | blk b c n=>
     obtain ⟨cc,T,k1,k2,k3⟩:=g2;exact ⟨cc,T,k1,k2,jen (MonoW.sub hsub) hbk _ _ k3⟩
   | row k xs=>
    obtain ⟨hd,g1,g2⟩:=ho;exact ⟨hd,g1,ja0 (MonoW.sub hsub) (λ_ _ _ _=>rfl) g2⟩
   | map xs=>
    obtain ⟨hd,g1,g2⟩:=ho;exact ⟨hd,g1,jdF (MonoW.sub hsub) (λ_ _=>rfl) g2⟩
   | fro k xs=>
    obtain ⟨hd,g1,g0,g2⟩:=ho;exact ⟨hd,g1,g0,λv hv=>zS (MonoW.sub hsub) _ _ (g2 v hv)⟩
   | tre f k xs=>exact ho
  .left;refine ⟨zb id hid,mb id hid,λhd b ha hm hi=> ?_⟩;exact hkeep b (hs.blk id hd b ha hm hi).1 (apart id hd b hid ha hm hi)
end
noncomputable section
mutual
def Zc:V->Bool
 | .d a=>ZQ a
 | .agg cs=>QR cs
 | .tup cs=>QR cs
 | .fn _ cs=>QR cs
 | .sub _ _ _ _=>false
 | _=>true
def QR:List V->Bool
 | []=>true
 | c::cs=>Zc c && QR cs
end
section
variable {w:World} {O O':Nat->Prop} {m:zu}
mutual
theorem jlC:∀(v:V) (u:Value),Zc v=true->relV w O m v u->relV w O' m v u
 | .top,_,_,_=>by simp [relV]
 | .nil _,u,_,hr=>by simpa [relV] using hr
 | .d a,u,hf,hr=>by simp only [Zc] at hf;simp only [relV] at hr ⊢;exact jci a u hf hr
 | .agg cs,u,hf,hr=>by
  simp only [Zc] at hf;simp only [relV] at hr ⊢;obtain ⟨vs,h1,h2⟩:=hr;exact ⟨vs,h1,jaV cs vs hf h2⟩
 | .tup cs,u,hf,hr=>by
  simp only [Zc] at hf;simp only [relV] at hr ⊢;obtain ⟨vs,h1,h2⟩:=hr;exact ⟨vs,h1,jaV cs vs hf h2⟩
 | .fn f cs,u,hf,hr=>by
  simp only [Zc] at hf;simp only [relV] at hr ⊢;obtain ⟨vs,h1,h2⟩:=hr;exact ⟨vs,h1,jaV cs vs hf h2⟩
 | .ptr _ _,u,_,hr=>by simpa [relV] using hr
 | .row _,u,_,hr=>by simpa [relV] using hr
 | .rptr _ _ _ _,u,_,hr=>by simpa [relV] using hr
 | .win _ _ _ _,u,_,hr=>by simpa [relV] using hr
 | .ub _ _,u,_,hr=>by simpa [relV] using hr
 | .sub _ _ _ _,u,hf,_=>by simp [Zc] at hf
theorem jaV:∀(cs:List V) (us:List Value),QR cs=true->jv w O m cs us->jv w O' m cs us
 | [],us,_,hr=>by simpa [jv] using hr
 | c::cs,us,hf,hr=>by
  simp only [QR,ju] at hf;simp only [jv] at hr ⊢;obtain ⟨v,r,h1,h2,h3⟩:=hr;exact ⟨v,r,h1,jlC c v hf.1 h2,jaV cs r hf.2 h3⟩
end
theorem jjB:∀ {cs:List A} {us:List Value},cs.all ZQ=true->jG w O cs us->jG w O' cs us
 | [],us,_,h=>by simpa [jG] using h
 | c::cs,us,hf,h=>by
  simp only [yC,ju] at hf;simp only [jG] at h ⊢;obtain ⟨v,r,h1,h2,h3⟩:=h;exact ⟨v,r,h1,jci c v hf.1 h2,jjB hf.2 h3⟩
end
def Hd.thaw (th:Bool):Hd->Hd
 | .tre f b c n ks=> .tre (f && !th) b c n ks
 | h=>h
def thO (th:Bool):Abs.Obj->Abs.Obj
 | .tre f k xs=> .tre (f && !th) k xs
 | o=>o
theorem Hd.thaw_blocks (th:Bool) (h:Hd):(h.thaw th).blocks=h.blocks:=by cases h<;>simp [Hd.thaw,Hd.blocks]
theorem Hd.thaw_hdr {th:Bool} {h:Hd} {v:Value} (k:hdr h v):hdr (h.thaw th) v:=by cases h<;>exact k
theorem Hd.thaw_root (th:Bool) (h:Hd):(h.thaw th).root=h.root:=by cases h<;>rfl
theorem jwO (th:Bool) (o:Abs.Obj):(thO th o).alive=o.alive:=by cases o<;>rfl
theorem jtu {w:World} {th:Bool} {k:Nat} {xs:List (List A)} {hd:Hd} (h:yB w true k xs hd):yB w (true && !th) k xs (hd.thaw th):=by
 cases hd with
 | none=>simpa [yB,Hd.thaw] using h
 | blk=>simp [yB] at h
 | mp=>simp [yB] at h
 | tre f' b c n ks=>simp only [yB,Hd.thaw] at h ⊢;exact ⟨by rw [h.1],h.2⟩
section
variable {w:World} {O:Nat->Prop} {m:zu}
mutual
theorem jlD (th:Bool):∀(v:V) (u:Value),Zc v=true->relV w O m v u->relV w O (λi=>(m i).map (Hd.thaw th)) v u
 | .top,_,_,_=>by simp [relV]
 | .nil _,u,_,hr=>by simpa [relV] using hr
 | .d a,u,_,hr=>by simpa [relV] using hr
 | .agg cs,u,hf,hr=>by
  simp only [Zc] at hf;simp only [relV] at hr ⊢;obtain ⟨vs,h1,h2⟩:=hr;exact ⟨vs,h1,jaX th cs vs hf h2⟩
 | .tup cs,u,hf,hr=>by
  simp only [Zc] at hf;simp only [relV] at hr ⊢;obtain ⟨vs,h1,h2⟩:=hr;exact ⟨vs,h1,jaX th cs vs hf h2⟩
 | .fn f cs,u,hf,hr=>by
  simp only [Zc] at hf;simp only [relV] at hr ⊢;obtain ⟨vs,h1,h2⟩:=hr;exact ⟨vs,h1,jaX th cs vs hf h2⟩
 | .ptr id off,u,_,hr=>by
  simp only [relV] at hr ⊢;obtain ⟨b,c,n,h1,h2⟩:=hr;exact ⟨b,c,n,by rw [h1];rfl,h2⟩
 | .row id,u,_,hr=>by
  simp only [relV] at hr ⊢;obtain ⟨hd,h1,h2⟩:=hr;exact ⟨hd.thaw th,by rw [h1];rfl,Hd.thaw_hdr h2⟩
 | .rptr id i k j,u,_,hr=>by
  simp only [relV] at hr ⊢;obtain ⟨hd,b,h1,h2,h3⟩:=hr;exact ⟨hd.thaw th,b,by rw [h1];rfl,(Hd.thaw_root th hd).trans h2,h3⟩
 | .win id k off n,u,_,hr=>by
  simp only [relV] at hr ⊢;obtain ⟨hd,h1,h2⟩:=hr;refine ⟨hd.thaw th,by rw [h1];rfl,?_⟩;cases hd<;>exact h2
 | .ub _ _,u,_,hr=>by simpa [relV] using hr
 | .sub _ _ _ _,u,hf,_=>by simp [Zc] at hf
theorem jaX (th:Bool):∀(cs:List V) (us:List Value),QR cs=true->jv w O m cs us->jv w O (λi=>(m i).map (Hd.thaw th)) cs us
 | [],us,_,hr=>by simpa [jv] using hr
 | c::cs,us,hf,hr=>by
  simp only [QR,ju] at hf;simp only [jv] at hr ⊢;obtain ⟨v,r,h1,h2,h3⟩:=hr;exact ⟨v,r,h1,jlD th c v hf.1 h2,jaX th cs r hf.2 h3⟩
end
end
def jiD (xs:List (List A)):Bool:=xs.all λx=>x.all ZQ
theorem jkA {xs:List (List A)} (h:jiD xs=true):xs.flatten.all ZQ=true:=by
 unfold jiD at h;rw [qm] at h ⊢;intro a ha;obtain ⟨x,hx,ha⟩:=jkc.1 ha;exact qm.1 (h x hx) a ha
def jdv:List Nat->List (List (List A))->Bool
 | k::ks,r::rs=>(Nat.ble 64 k || jiD r) && jdv ks rs
 | _,_=>true
theorem jiE:∀ {ks:List Nat} {rs:List (List (List A))} {j k:Nat} {r:List (List A)},jdv ks rs=true->rs[j]? = some r->ks[j]? = some k->Nat.blt k 64=true->jiD r=true
 | [],_,_,_,_,_,_,h,_=>by simp at h
 | _::_,[],_,_,_,_,h,_,_=>by simp at h
 | k0::ks,r0::rs,j,k,r,h,h1,h2,h3=>by
  simp only [jdv,ju,jgq] at h;cases j with
  | zero=>
   simp at h1 h2;subst h1 h2;rcases h.1 with h|h
   .rw [Qi] at h3;rw [Qm] at h;omega
   .exact h
  | succ j=>exact jiE h.2 (by simpa using h1) (by simpa using h2) h3
theorem zo.rdcall {P:Program} {X:Ctx} {o:Oper} {ρ:Operand->V} {f:Operand} {xs:Array Operand} {ts:Array TypeId} (ho:o.op = .call { callee:= .value f,args:=xs,argTypes:=ts }) {g:FuncId} {as0:List A} {rds:List Rd} {sg:SigA} {out:Out}
  (hp:SOk X P g (as0.map V.d) [] sg out) (hws:sg.ws = [])
  (hargs:∀(w:World) (O0:Nat->Prop) (m:zu) (st:jC) (ev:Operand->Value),Sto X w O0 m st->(∀r∈rds,yI st r)->(∀x∈o.op.operands,relV w (Ow O0 m st) m (ρ x) (ev x))->
   ∃us:List Value,ev f = .func (.func g) #[] us.toArray/\jG w (Oc O0 m st rds) as0 (xs.toList.map ev++us))
  {as:List A} {rs:List (List (List A))} (hh:HolesOk sg out as rs) (hf1:Zc (sg.r.toV as)=true) (hf2:jdv sg.ks rs=true) (h128:sg.ks.all (λk=>Nat.blt k 128)=true) {nid:Nat} {th:Bool} :
  zo P X o ρ ⟨bk (ups nid sg.nw.length) (sg.r.toV as),rds++jbZ (ups nid sg.nw.length),jc2 (ups nid sg.nw.length) ((sg.objs as rs).map λo=>thO th (bkO (ups nid sg.nw.length) o))⟩:=by
 intro w O0 m st ev hs hg hr _hc;have hg1:∀r∈rds,yI st r:=λr hr=>hg r (Yd _ hr);have hfr:=jcH (st:=st) (l:=ups nid sg.nw.length) λr hr=>hg r (Qg _ hr);obtain ⟨us,h1,h2⟩:=hargs w O0 m st ev hs hg1 hr;have hst0:∀i,zC ([]:List Abs.Obj) i = .dead:=λi=>jgg (jE _);have hmz0:∀b,¬Mz (λ_=>none) (zC ([]:List Abs.Obj)) b:=λb ⟨_,_,_,hm,_⟩=>by cases hm
 have hOw0:Ow (Oc O0 m st rds) (λ_=>none) (zC ([]:List Abs.Obj))=Oc O0 m st rds:=by
  funext b;exact propext ⟨λh=>h.elim (λh=>h) λh=>(hmz0 b h).elim,λh=>Or.inl h⟩
 have hsc:Sto X w (Oc O0 m st rds) (λ_=>none) (zC ([]:List Abs.Obj)):=by
  refine ⟨hs.j,jxg hs hg1,λ_ _=>rfl,jDg hs,λid hd b _ h _=>(by cases h),λid id' hd hd' b _ _ h _ _ _=>(by cases h),λid=> ?_⟩;rw [hst0];trivial
 have hrel:jv w (Ow (Oc O0 m st rds) (λ_=>none) (zC ([]:List Abs.Obj))) (λ_=>none) (as0.map V.d) (xs.toList.map ev++us):=by
  rw [hOw0];have:∀ {as:List A} {us:List Value},jG w (Oc O0 m st rds) as us->jv w (Oc O0 m st rds) (λ_=>none) (as.map V.d) us:=by
   intro as;induction as with
   | nil=>intro us h;simpa [jG,jv] using h
   | cons a as ih=>
    intro us h;simp only [jG] at h;obtain ⟨v,r,rfl,e1,e2⟩:=h;simp only [yH,jv,relV];exact ⟨v,r,rfl,e1,ih e2⟩
  exact this h2
 rw [ZM ho h1 hp.1 w];refine ⟨rfl,(hp.2 w _ _ _ hsc (λi hi=>(by simp at hi)) hrel).mono ?_⟩;rintro e w' ⟨v,rfl,as',rs',mc',hh',⟨q1,q2,q3,q4⟩,hkeep,hnew,_,hs',hv⟩;obtain ⟨rfl,rfl⟩:=hh.eq hh';dsimp only [YL];have hkeep:∀b,b < w.heap.size->w'.heap[b]? = w.heap[b]? :=λb hb=>hkeep b hb (hmz0 b);have hnew:∀b,Mz mc' (zC (sg.objs as' rs')) b->w.heap.size<=b:=λb hb=>(hnew b hb).resolve_left (hmz0 b);have hrows:∀o∈sg.objs as' rs',(∃k xs,o=Abs.Obj.row k xs/\jiD xs=true)\/ ∃k xs,o=Abs.Obj.tre true k xs:=by
  intro o ho';simp only [SigA.objs,SigA.objsB,hws,ya,KN,ym] at ho';obtain ⟨j,_,rfl⟩:=ho';have h7:Nat.blt (sg.ks.getD j 0) 128=true:=by
   rw [qE];cases hq:sg.ks[j]? with
   | none=>rfl
   | some q=>exact qm.1 h128 q (Jq hq)
  have h8:Nat.blt (sg.ks.getD j 0) 256=true:=by rw [Qi] at h7 ⊢;omega
  unfold jjI Qt QC;rw [h8,cond_true];cases hk:Nat.blt (sg.ks.getD j 0) 64 with
  | false=>
   refine Or.inr ?_;have h9:Nat.beq (sg.ks.getD j 0) 128=false:=by
    cases h:Nat.beq (sg.ks.getD j 0) 128 with
    | false=>rfl
    | true=>rw [Qi,kU h] at h7;omega
   simp only [cond_false,h9];exact ⟨_,_,rfl⟩
  | true=>
   refine Or.inl ⟨_,_,rfl,?_⟩;rw [qE (l:=rs')];cases hj:rs'[j]? with
   | none=>rfl
   | some r=>
    have hlt:j < sg.ks.length:=by rw [<-hh.lr];exact (qM.1 hj).1
    have hkj:sg.ks[j]? = some sg.ks[j]:=zk hlt;refine jiE hf2 hj hkj ?_;rw [qE,hkj] at hk;exact hk
 generalize htot:ups nid sg.nw.length=tot at *;generalize hobj:sg.objs as' rs'=objs' at *;have hol:objs'.length=tot.length:=by rw [<-hobj,<-htot];simp [SigA.objs,SigA.objsB,jdW,hws]
 have htn:tot.Nodup:=by rw [<-htot];exact jgi _ _
 obtain ⟨za,zb⟩:=jfL tot (objs'.map λo=>thO th (bkO tot o)) st htn (by simp [hol]);generalize hst2:kV st (jc2 tot (objs'.map λo=>thO th (bkO tot o)))=st2 at *;have zr:∀q id,tot[q]? = some id-> ∃o:Abs.Obj,st2 id=thO th o/\zC objs' q=o/\o.alive=true/\((∃k xs,o=Abs.Obj.row k xs/\jiD xs=true)\/ ∃k xs,o=Abs.Obj.tre true k xs):=λq id hq=>by
  have hlt:q < objs'.length:=by rw [hol];exact (List.getElem?_eq_some_iff.mp hq).1
  have hget:objs'[q]? = some objs'[q]:=zk hlt;have hr:=hrows objs'[q] (jr _);refine ⟨objs'[q],?_,KG hget,by rcases hr with ⟨k,xs,e,_⟩|⟨k,xs,e⟩<;>rw [e]<;>rfl,hr⟩;rw [za q id _ hq (by rw [yu,hget];rfl)];rcases hr with ⟨k,xs,e,_⟩|⟨k,xs,e⟩<;>rw [e]<;>rfl
 refine ⟨v,rfl,λid=>match Yo id tot 0 with|some q=>(mc' q).map (Hd.thaw th)|none=>m id,?_⟩;generalize hm2:((λid=>match Yo id tot 0 with|some q=>(mc' q).map (Hd.thaw th)|none=>m id):zu)=m2;have ma:∀q id,tot[q]? = some id->m2 id=(mc' q).map (Hd.thaw th):=λq id hq=>by rw [<-hm2];simp only [jpE htn hq]
 have mb:∀id,id ∉ tot->m2 id=m id:=λid hid=>by rw [<-hm2];simp only [jpF hid]
 have mt:∀q id hd,tot[q]? = some id->m2 id=some hd-> ∃h0,mc' q=some h0/\h0.blocks=hd.blocks:=λq id hd hq h=>by
  rw [ma q id hq] at h;obtain ⟨h0,e1,e2⟩:=yP.1 h;exact ⟨h0,e1,by rw [<-e2,Hd.thaw_blocks]⟩
 have tdead:∀id∈tot,m id=none/\st id = .dead:=λid h=>⟨hs.fresh id (hfr id h),hfr id h⟩;have mz2:∀b,Mz m2 st2 b->Mz mc' (zC objs') b\/Mz m st b:=by
  rintro b ⟨id,hd,ha,hm,hi⟩;by_cases hid:id∈tot
  .obtain ⟨q,hq⟩:=List.mem_iff_getElem?.mp hid;obtain ⟨o,e1,e2,e3,_⟩:=zr q id hq;obtain ⟨h0,hm,hb⟩:=mt q id hd hq hm;exact Or.inl ⟨q,h0,by rw [e2];exact e3,hm,by rw [hb];exact hi⟩
  .rw [zb id hid] at ha;rw [mb id hid] at hm;exact Or.inr ⟨id,hd,ha,hm,hi⟩
 have hchg:Chg w m st w' m2 st2:=by
  refine ⟨q1,q2,q3,q4,λb hb _=>hkeep b hb,MLe.of ?_,?_⟩
  .intro id h e;by_cases hid:id∈tot
   .rw [(tdead id hid).1] at e;cases e
   .rw [mb id hid];exact e
  .intro b hb;rcases mz2 b hb with hb|hb
   .exact Or.inr (hnew b hb)
   .exact Or.inl hb
 have mzlt:∀b,Mz m st b->b < w.heap.size:=λb ⟨id,hd,ha,hm,hi⟩=>(hs.blk id hd b ha hm hi).1;have hbk:∀q id,tot[q]? = some id-> ∀hd,(λi=>(mc' i).map (Hd.thaw th)) q=some hd->m2 id=some hd:=λq id hq hd h=>by rw [ma q id hq];exact h
 refine ⟨hchg,hs.chg hchg ?_ ?_ ?_ ?_,jsb (MonoW.refl _ _) hbk _ _ (jlD th _ _ hf1 (jlC _ _ hf1 hv))⟩
 .intro id hd;by_cases hid:id∈tot
  .obtain ⟨q,hq⟩:=List.mem_iff_getElem?.mp hid;obtain ⟨o,e1,_,e3,_⟩:=zr q id hq;rw [e1] at hd;have:=jwO th o;rw [hd,e3] at this;cases this
  .rw [zb id hid] at hd;rw [mb id hid];exact hs.fresh id hd
 .intro id hd b ha hm hi;by_cases hid:id∈tot
  .obtain ⟨q,hq⟩:=List.mem_iff_getElem?.mp hid;obtain ⟨o,e1,e2,e3,_⟩:=zr q id hq;obtain ⟨h0,hm,hb⟩:=mt q id hd hq hm;rw [<-hb] at hi;have hmz:Mz mc' (zC objs') b:=⟨q,h0,by rw [e2];exact e3,hm,hi⟩;have h3:=hs'.blk q h0 b (by rw [e2];exact e3) hm hi;exact Or.inr ⟨h3.1,λh=>by have:=hs.old b h;have:=hnew b hmz;omega⟩
  .rw [zb id hid] at ha;rw [mb id hid] at hm;exact Or.inl ⟨ha,hm⟩
 .intro id id' hd hd' b ha ha' hm hm' hi hi';have key:∀id id' hd hd',id∈tot->id' ∉ tot->(st2 id').alive=true->m2 id=some hd->m2 id'=some hd'->b∈hd.blocks->b∈hd'.blocks->False:=by
   intro id id' hd hd' hid hid' ha' hm hm' hi hi';obtain ⟨q,hq⟩:=List.mem_iff_getElem?.mp hid;obtain ⟨o,e1,e2,e3,_⟩:=zr q id hq;obtain ⟨h0,hm,hb⟩:=mt q id hd hq hm;have:=hnew b ⟨q,h0,by rw [e2];exact e3,hm,by rw [hb];exact hi⟩;rw [zb id' hid'] at ha';rw [mb id' hid'] at hm';have:=mzlt b ⟨id',hd',ha',hm',hi'⟩;omega
  by_cases hid:id∈tot
  .by_cases hid':id'∈tot
   .obtain ⟨q,hq⟩:=List.mem_iff_getElem?.mp hid;obtain ⟨q',hq'⟩:=List.mem_iff_getElem?.mp hid';obtain ⟨o,e1,e2,e3,_⟩:=zr q id hq;obtain ⟨o',e1',e2',e3',_⟩:=zr q' id' hq';obtain ⟨h0,hm,hb⟩:=mt q id hd hq hm;obtain ⟨h0',hm',hb'⟩:=mt q' id' hd' hq' hm';have:=hs'.inj q q' h0 h0' b (by rw [e2];exact e3) (by rw [e2'];exact e3') hm hm' (by rw [hb];exact hi) (by rw [hb'];exact hi');subst this;rw [hq] at hq';cases hq';rfl
   .exact (key id id' hd hd' hid hid' ha' hm hm' hi hi').elim
  .by_cases hid':id'∈tot
   .exact (key id' id hd' hd hid' hid ha hm' hm hi' hi).elim
   .rw [zb id hid] at ha;rw [mb id hid] at hm;rw [zb id' hid'] at ha';rw [mb id' hid'] at hm';exact hs.inj id id' hd hd' b ha ha' hm hm' hi hi'
 .intro id;by_cases hid:id∈tot
  .right;obtain ⟨q,hq⟩:=List.mem_iff_getElem?.mp hid;obtain ⟨o,e1,e2,_,e3⟩:=zr q id hq;have ho:=hs'.obj q;rw [e2] at ho;rw [e1,ma q id hq];rcases e3 with ⟨k,xs,rfl,e3⟩|⟨k,xs,rfl⟩
   .obtain ⟨hd,g1,g2⟩:=ho;refine ⟨hd.thaw th,by rw [g1];rfl,?_⟩;cases hd with
    | none=>exact g2
    | tre=>exact g2.elim
    | mp=>exact g2.elim
    | blk b c n=>
     obtain ⟨k0,k1,k2,k3,cc,T,k4,k5,k6,k7⟩:=g2;exact ⟨k0,k1,k2,k3,cc,T,k4,k5,k6,jjB (jkA e3) k7⟩
   .obtain ⟨hd,g1,g2,g3⟩:=ho;exact ⟨hd.thaw th,by rw [g1];rfl,jtu g2,by rw [Hd.thaw_blocks];exact g3⟩
  .left;refine ⟨zb id hid,mb id hid,λhd b ha hm hi=> ?_⟩;exact hkeep b (hs.blk id hd b ha hm hi).1
end
open Go Go.RowKit Go.MapKept
noncomputable section
section
variable {P:Program} {X:Ctx} {o:Oper} {ρ:Operand->V} {C:Cfg}
def jei (st:jC) (ws:List Wr):Prop:=∀w∈ws,∃id k xs,w = .obj id (.fro k xs)/\(st id = .row k xs\/st id = .fro k xs)
theorem juQ {w:World} {O0:Nat->Prop} {m:zu} :∀(ws:List Wr) (st:jC),Sto X w O0 m st->jei st ws->
  Sto X w O0 m (kV st ws)/\Chg w m st w m (kV st ws)/\(∀b,Ow O0 m (kV st ws) b->Ow O0 m st b)/\(∀id k xs,Wr.obj id (.fro k xs)∈ws->kV st ws id = .fro k xs)/\
   (∀id,(∀k xs,Wr.obj id (.fro k xs) ∉ ws)->kV st ws id=st id)
 | [],st,hs,_=>⟨hs,Chg.refl _ _ _,λ_ h=>h,(λ_ _ _ h=>by cases h),λ_ _=>rfl⟩
 | x::ws,st,hs,hw=>by
  obtain ⟨id,k,xs,rfl,h1⟩:=hw x (by simp);have hs1:Sto X w O0 m (app st (.obj id (.fro k xs)))/\Chg w m st w m (app st (.obj id (.fro k xs)))/\(∀b,Ow O0 m (app st (.obj id (.fro k xs))) b->Ow O0 m st b):=by
   show Sto X w O0 m (upd st id (.fro k xs))/\_;rcases h1 with h1|h1
   .exact ⟨hs.freeze h1,Chg.ghost (λh=>(by cases h)),jfG (λh=>(by cases h))⟩
   .have e:upd st id (.fro k xs)=st:=by
     funext i;by_cases e:i=id
     .subst e;rw [jJ,h1]
     .rw [upd_ne _ _ e]
    show _/\Chg w m st w m (upd st id (.fro k xs))/\ ∀b,Ow O0 m (upd st id (.fro k xs)) b->_;rw [e];exact ⟨hs,Chg.refl _ _ _,λ_ h=>h⟩
  have hw':jei (app st (.obj id (.fro k xs))) ws:=by
   intro y hy;obtain ⟨id',k',xs',rfl,h2⟩:=hw y (by simp [hy]);refine ⟨id',k',xs',rfl,?_⟩;show upd st id (.fro k xs) id'=_\/upd st id (.fro k xs) id'=_;by_cases e:id'=id
   .subst e;right;rw [jJ];rcases h1 with h1|h1<;>rcases h2 with h2|h2<;>rw [h1] at h2<;>cases h2<;>rfl
   .rw [upd_ne _ _ e];exact h2
  obtain ⟨a1,a2,a3,a4,a5⟩:=juQ ws _ hs1.1 hw';refine ⟨a1,hs1.2.1.trans a2,λb hb=>hs1.2.2 b (a3 b hb),?_,?_⟩
  .intro id' k' xs' hm;by_cases hin:Wr.obj id' (.fro k' xs')∈ws
   .exact a4 id' k' xs' hin
   .rcases j7.1 hm with hm|hm
    .simp only [Wr.obj.injEq,Obj.fro.injEq] at hm;obtain ⟨rfl,rfl,rfl⟩:=hm;by_cases hin2:∃k2 xs2,Wr.obj id' (.fro k2 xs2)∈ws
     .obtain ⟨k2,xs2,hin2⟩:=hin2;obtain ⟨id3,k3,xs3,e3,h3⟩:=hw _ (Jw _ hin2);cases e3;have:(.fro k' xs':Obj) = .fro k2 xs2:=by
       rcases h1 with h1|h1<;>rcases h3 with h3|h3<;>rw [h1] at h3<;>cases h3<;>rfl
      cases this;exact absurd hin2 hin
     .show kV (app st _) ws id'=_;rw [a5 id' λk2 xs2 h2=>hin2 ⟨k2,xs2,h2⟩];exact jJ _ _ _
    .exact absurd hm hin
  .intro id' hn;show kV (app st _) ws id'=_;rw [a5 id' λk2 xs2 h2=>hn k2 xs2 (by simp [h2])];exact upd_ne _ _ λe=>hn k xs (by subst e;simp)
def JJ (st:jC):List V->Option (List A × List Rd × List Wr)
 | []=>some ([],[],[])
 | .d a::cs=>(match JJ st cs with|some (as,r,w)=>some (a::as,r,w)|none=>none)
 | .nil k::cs=>(match JJ st cs with|some (as,r,w)=>some (.sl k []::as,r,w)|none=>none)
 | .row id::cs=>(match JJ st cs with
  | some (as,r,w)=>(match st id with
   | .row k xs=>some (.sl k xs::as,.obj id (.row k xs)::r,.obj id (.fro k xs)::w)
   | .fro k xs=>some (.sl k xs::as,.obj id (.fro k xs)::r,w)
   | _=>none)
  | none=>none)
 | _::_=>none
theorem Kt {st st':jC} :∀ {cs:List V} {as:List A} {r:List Rd} {ws:List Wr},JJ st cs=some (as,r,ws)->(∀x∈r,yI st' x)->jei st' ws
 | [],as,r,ws,h,_=>by simp only [JJ,kL,qB] at h;obtain ⟨_,_,rfl⟩:=h;intro w hw;cases hw
 | c::cs,as,r,ws,h,hg=>by
  cases c<;>simp only [JJ,reduceCtorEq] at h
  case d a=>
   split at h
   .rename_i h1;cases h;exact Kt h1 hg
   .cases h
  case nil k=>
   split at h
   .rename_i h1;cases h;exact Kt h1 hg
   .cases h
  case row id=>
   split at h
   .rename_i as' r' w' h1;split at h
    .rename_i k xs h2;cases h;intro w hw;rcases j7.1 hw with rfl|hw
     .exact ⟨id,k,xs,rfl,Or.inl (hg (.obj id (.row k xs)) (by simp))⟩
     .exact Kt h1 (λx hx=>hg x (by simp [hx])) w hw
    .cases h;exact Kt h1 λx hx=>hg x (by simp [hx])
    .cases h
   .cases h
theorem ZA {st:jC} :∀ {cs:List V} {as:List A} {r:List Rd} {ws:List Wr},JJ st cs=some (as,r,ws)-> ∀x∈r,yI st x
 | [],as,r,ws,h=>by simp only [JJ,kL,qB] at h;obtain ⟨_,rfl,_⟩:=h;simp
 | c::cs,as,r,ws,h=>by
  cases c<;>simp only [JJ,reduceCtorEq] at h
  case d a=>
   split at h
   .rename_i h1;cases h;exact ZA h1
   .cases h
  case nil k=>
   split at h
   .rename_i h1;cases h;exact ZA h1
   .cases h
  case row id=>
   split at h
   .rename_i as' r' w' h1;split at h
    .rename_i k xs h2;cases h;intro x hx;rcases j7.1 hx with rfl|hx
     .exact h2
     .exact ZA h1 x hx
    .rename_i k xs h2;cases h;intro x hx;rcases j7.1 hx with rfl|hx
     .exact h2
     .exact ZA h1 x hx
    .cases h
   .cases h
theorem YH {st0 st st1:jC} {w:World} {O0:Nat->Prop} {m:zu} (hs1:Sto X w O0 m st1) (hsub:∀b,Ow O0 m st1 b->Ow O0 m st b):∀ {cs:List V} {as:List A} {r:List Rd} {ws:List Wr} {us:List Value},
  JJ st0 cs=some (as,r,ws)->(∀x∈r,yI st x)->(∀id k xs,Wr.obj id (.fro k xs)∈ws->st1 id = .fro k xs)->(∀id k xs,st id = .fro k xs->st1 id = .fro k xs)->jv w (Ow O0 m st) m cs us->jG w (Ow O0 m st1) as us
 | [],as,r,ws,us,h,_,_,_,hr=>by simp only [JJ,kL,qB] at h;obtain ⟨rfl,_,_⟩:=h;simpa [jv,jG] using hr
 | c::cs,as,r,ws,us,h,hg,h1,h2,hr=>by
  cases c<;>simp only [JJ,reduceCtorEq] at h
  case d a=>
   split at h
   .rename_i h3;cases h;simp only [jv,relV] at hr;obtain ⟨v,t,rfl,g1,g2⟩:=hr;simp only [jG];exact ⟨v,t,rfl,zS (MonoW.sub hsub) _ _ g1,YH hs1 hsub h3 hg h1 h2 g2⟩
   .cases h
  case nil k=>
   split at h
   .rename_i h3;cases h;simp only [jv,relV] at hr;obtain ⟨v,t,rfl,⟨a,rfl⟩,g2⟩:=hr;simp only [jG,rel];exact ⟨_,t,rfl,⟨a,0,rfl,by simp,by omega,Or.inl trivial⟩,YH hs1 hsub h3 hg h1 h2 g2⟩
   .cases h
  case row id=>
   simp only [jv] at hr;obtain ⟨v,t,rfl,g1,g2⟩:=hr;have key:∀k xs,st1 id = .fro k xs->rel w (Ow O0 m st1) (.sl k xs) v:=λk xs hf=>by
    refine ZG hs1 hf ?_;simp only [relV] at g1 ⊢;exact g1
   split at h
   .rename_i as' r' w' h3;split at h
    .rename_i k xs h4;cases h;simp only [jG];exact ⟨v,t,rfl,key k xs (h1 id k xs (by simp)),YH hs1 hsub h3 (λx hx=>hg x (by simp [hx])) (λid' k' xs' hm=>h1 id' k' xs' (by simp [hm])) h2 g2⟩
    .rename_i k xs h4;cases h;simp only [jG];exact ⟨v,t,rfl,key k xs (h2 id k xs (hg (.obj id (.fro k xs)) (by simp))),YH hs1 hsub h3 (λx hx=>hg x (by simp [hx])) h1 h2 g2⟩
    .cases h
   .cases h
theorem jo1 (st:jC) (a b:List Wr):kV st (a++b)=kV (kV st a) b:=by simp [kV]
theorem jlM {st0 st:jC} {w:World} {O0:Nat->Prop} {m:zu} (hs:Sto X w O0 m st) {cs:List V} {as:List A} {r:List Rd} {ws:List Wr} {us:List Value} (h:JJ st0 cs=some (as,r,ws)) (hg:∀x∈r,yI st x) (hr:jv w (Ow O0 m st) m cs us) :
  Sto X w O0 m (kV st ws)/\Chg w m st w m (kV st ws)/\jG w (Ow O0 m (kV st ws)) as us/\(∀b,Ow O0 m (kV st ws) b->Ow O0 m st b)/\(∀id,st id = .dead->kV st ws id = .dead)/\
   (∀id k xs,st id = .row k xs->kV st ws id = .row k xs\/kV st ws id = .fro k xs)/\(∀id cs,st id = .box cs->kV st ws id = .box cs)/\(∀id k xs,st id = .fro k xs->kV st ws id = .fro k xs):=by
 have hab:=Kt h hg;obtain ⟨a1,a2,a3,a4,a5⟩:=juQ ws st hs hab;have key:∀id,kV st ws id=st id\/ ∃k xs,kV st ws id = .fro k xs/\(st id = .row k xs\/st id = .fro k xs):=by
  intro id;by_cases hin:∃k xs,Wr.obj id (.fro k xs)∈ws
  .obtain ⟨k,xs,hin⟩:=hin;obtain ⟨id',k',xs',e,h1⟩:=hab _ hin;cases e;exact Or.inr ⟨k,xs,a4 id k xs hin,h1⟩
  .exact Or.inl (a5 id λk xs hh=>hin ⟨k,xs,hh⟩)
 have hfro:∀id k xs,st id = .fro k xs->kV st ws id = .fro k xs:=λid k xs hh=>by
  rcases key id with e|⟨k',xs',e,h1⟩
  .rw [e,hh]
  .rcases h1 with h1|h1<;>rw [hh] at h1<;>cases h1<;>exact e
 refine ⟨a1,a2,YH a1 a3 h hg a4 hfro hr,a3,λid hd=> ?_,λid k xs hh=> ?_,λid cs hh=> ?_,hfro⟩
 .rcases key id with e|⟨k',xs',e,h1⟩
  .rw [e,hd]
  .rcases h1 with h1|h1<;>rw [hd] at h1<;>cases h1
 .rcases key id with e|⟨k',xs',e,h1⟩
  .exact Or.inl (by rw [e,hh])
  .rcases h1 with h1|h1<;>rw [hh] at h1<;>cases h1<;>exact Or.inr e
 .rcases key id with e|⟨k',xs',e,h1⟩
  .rw [e,hh]
  .rcases h1 with h1|h1<;>rw [hh] at h1<;>cases h1
theorem jqp {w w':World} {O0:Nat->Prop} {m:zu} {st:jC} (hs:Sto X w O0 m st) (hb:Below w.heap.size w w') {nid:Nat} (hf:st nid = .dead) {o:Obj} {hd:Hd} (hnew:∀b∈hd.blocks,w.heap.size<=b) :
  MonoW w (Ow O0 m st) w' (Ow O0 (upd m nid (some hd)) (upd st nid o))/\MLe m (upd m nid (some hd)):=by
 have hm:=hs.fresh nid hf;have hmz:∀b,Ow O0 (upd m nid (some hd)) (upd st nid o) b->Ow O0 m st b\/w.heap.size<=b:=by
  rintro b (h|⟨i,hd',ha,hmi,hi⟩)
  .exact Or.inl (Or.inl h)
  .by_cases e:i=nid
   .subst e;rw [jJ] at hmi;cases hmi;exact Or.inr (hnew b hi)
   .rw [upd_ne _ _ e] at ha hmi;exact Or.inl (Or.inr ⟨i,hd',ha,hmi,hi⟩)
 refine ⟨⟨hb.size,λb h _=>hb.block b h,λb h hn ho=>by rcases hmz b ho with h1|h1;exact hn h1;omega⟩,MLe.of λid h e=> ?_⟩
 have:id≠nid:=λe'=>by subst e';rw [hm] at e;cases e
 rw [upd_ne _ _ this];exact e
theorem jgY {w w':World} {O0:Nat->Prop} {m:zu} {st:jC} (hs:Sto X w O0 m st) (hb:Below w.heap.size w w') (hsz:w.heap.size < w'.heap.size) {nid:Nat} (hf:st nid = .dead) {cs:List V} {c:Array Value} {T:TypeId}
  (hc:w'.heap[w.heap.size]? = some (.cells c T (0,0))) (ho:jA c.toList) (hr:jv w (Ow O0 m st) m cs c.toList) :
  YL X w O0 m st [.obj nid (.box cs)] (.ptr nid 0) w' (.pointer (some ⟨w.heap.size,0,none⟩)):=by
 have hnew:∀b∈(Hd.blk w.heap.size 0 0).blocks,w.heap.size<=b:=λb e=>by rw [jeo e];exact kD _
 obtain ⟨hmono,hext⟩:=jqp hs hb hf (o:= .box cs) hnew;obtain ⟨k1,k2⟩:=jnN hs hb hf (hd:= .blk w.heap.size 0 0) (o:= .box cs) (λh=>by cases h) (λb e=>by rw [jeo e];exact ⟨kD _,hsz⟩) ⟨_,rfl,c,T,hc,ho,Ks hmono hext _ _ hr⟩;exact ⟨_,k1,k2,by simp only [relV];exact ⟨_,_,_,jJ _ _ _,rfl⟩⟩
def jEp (w w':World) (O:Nat->Prop) (k:Nat) (xs:List (List A)) (hd:Hd):Prop:=
 (hd = .none/\xs = [])\/ ∃cap c T,hd = .blk w.heap.size cap xs.length/\w.heap.size < w'.heap.size/\xs.length<=cap/\cap<=9223372036854775807/\(∀x∈xs,x.length=k)/\w'.heap[w.heap.size]? = some (.cells c T (0,0))/\
   c.size=cap * k/\jA (c.toList.take (xs.length * k))/\jG w O xs.flatten (c.toList.take (xs.length * k))
theorem JE {w w':World} {O0:Nat->Prop} {m:zu} {st:jC} (hs:Sto X w O0 m st) (hb:Below w.heap.size w w') {nid:Nat} (hf:st nid = .dead) {k:Nat} {xs:List (List A)} {hd:Hd} {v:Value} (hv:hdr hd v)
  (hr:jEp w w' (Ow O0 m st) k xs hd):YL X w O0 m st [.obj nid (.row k xs)] (.row nid) w' v:=by
 have hnew:∀b∈hd.blocks,w.heap.size<=b/\b < w'.heap.size:=λb e=>by
  rcases hr with ⟨rfl,_⟩|⟨cap,c',T,rfl,h1,_⟩
  .simp [Hd.blocks] at e
  .rw [jeo e];exact ⟨kD _,h1⟩
 obtain ⟨hmono,hext⟩:=jqp hs hb hf (o:= .row k xs) (hd:=hd) λb e=>(hnew b e).1;obtain ⟨k1,k2⟩:=jnN hs hb hf (hd:=hd) (o:= .row k xs) (λh=>by cases h) hnew ⟨hd,rfl,by
  rcases hr with ⟨rfl,rfl⟩|⟨cap,c,T,rfl,h1,h2,h3,h4,h5,h6,h7,h8⟩
  .simp [rowOk]
  .exact ⟨rfl,h2,h3,h4,c,T,h5,h6,h7,kZ hmono _ _ h8⟩⟩
 exact ⟨_,k1,k2,by simp only [relV];exact ⟨_,jJ _ _ _,hv⟩⟩
theorem YL.after {w w':World} {O0:Nat->Prop} {m:zu} {st:jC} {ws ws':List Wr} {v:V} {u:Value} (hc:Chg w m st w m (kV st ws)) (h:YL X w O0 m (kV st ws) ws' v w' u):YL X w O0 m st (ws++ws') v w' u:=by
 obtain ⟨m',h1,h2,h3⟩:=h;rw [<-jo1] at h1 h2 h3;exact ⟨m',hc.trans h1,h2,h3⟩
theorem ja2 (P:Program) {w:World} {b:Nat} {c:Array Value} {T:TypeId} (h:w.heap[b]? = some (.cells c T (0,0))) (off:Nat) (vs:List Value) (hl:off+vs.length<=c.size) (h1:jA vs) :
  ∃W:World,(storeCells ⟨b,off,none⟩ vs).run P w = .ok () W/\W.os=w.os/\W.tape=w.tape/\Quiet w W/\W.heap.size=w.heap.size/\(∀b',b'≠b->W.heap[b']? = w.heap[b']?)/\
   W.heap[b]? = some (.cells (over c.toList off vs).toArray T (0,0)):=by
 have hst:=run_storeCells_at P b off T vs 0 c w h (by omega) h1;simp only [j6] at hst;exact ⟨_,hst,rfl,rfl,(Quiet.refl _),by simp,λb' hne=>setRow_other w b b' _ hne,setRow_heap w b c _ T _ h⟩
theorem jjs {w W:World} {O0:Nat->Prop} {m:zu} {st:jC} (hs:Sto X w O0 m st) {id b:Nat} {hd:Hd} (ha:(st id).alive=true) (hm:m id=some hd) (hi:b∈hd.blocks) {o':Obj} (ha':o'.alive=true)
  (w1:W.os=w.os) (w2:W.tape=w.tape) (w3:Quiet w W) (w4:W.heap.size=w.heap.size) (w5:∀b',b'≠b->W.heap[b']? = w.heap[b']?)
  (hok:MonoW w (Ow O0 m st) W (Ow O0 m (upd st id o'))->jbN W (Ow O0 m (upd st id o')) m o' (m id)):Chg w m st W m (upd st id o')/\Sto X W O0 m (upd st id o'):=by
 have hMz:∀b',Mz m (upd st id o') b'->Mz m st b':=λb'=>jr9 λ_=>ha;have hchg:Chg w m st W m (upd st id o'):=
  ⟨w1,w2,w3,by omega,λb' _ hn=>w5 b' λe=>hn (by subst e;exact ⟨id,hd,ha,hm,hi⟩),MLe.refl m,λb' h=>Or.inl (hMz b' h)⟩
 have al:∀i,(upd st id o' i).alive=true->(st i).alive=true:=λi h=>by
  by_cases e:i=id
  .subst e;exact ha
  .rwa [upd_ne _ _ e] at h
 refine ⟨hchg,hs.chg hchg ?_ (λi hd' b' h1 h2 _=>Or.inl ⟨al i h1,h2⟩) (λi i' hd1 hd2 b' h1 h2=>hs.inj i i' hd1 hd2 b' (al i h1) (al i' h2)) ?_⟩
 .intro i h;by_cases e:i=id
  .subst e;rw [jJ] at h;rw [h] at ha';cases ha'
  .rw [upd_ne _ _ e] at h;exact hs.fresh i h
 .intro i;by_cases e:i=id
  .subst e;rw [jJ];exact Or.inr (hok (hchg.monoW O0))
  .rw [upd_ne _ _ e];refine Or.inl ⟨rfl,rfl,λhd' b' h1 h2 h3=>w5 b' λe'=>e ?_⟩;subst e';exact hs.inj i id hd' hd b' h1 ha h2 hm h3 hi
theorem jf8 {w W:World} {O0:Nat->Prop} {m:zu} {st:jC} (hs:Sto X w O0 m st) {id b c n:Nat} (ha:(st id).alive=true) (hm:m id=some (.blk b c n)) {o':Obj} (ha':o'.alive=true)
  (w1:W.os=w.os) (w2:W.tape=w.tape) (w3:Quiet w W) (w4:W.heap.size=w.heap.size) (w5:∀b',b'≠b->W.heap[b']? = w.heap[b']?)
  (hok:MonoW w (Ow O0 m st) W (Ow O0 m (upd st id o'))->jbN W (Ow O0 m (upd st id o')) m o' (m id)):Chg w m st W m (upd st id o')/\Sto X W O0 m (upd st id o'):=
 jjs hs ha hm Kk ha' w1 w2 w3 w4 w5 hok
theorem jzF {w:World} {O0:Nat->Prop} {m:zu} {st:jC} (hs:Sto X w O0 m st) {id nid:Nat} (hne:id≠nid) (hal:(st id).alive=true) (hf:st nid = .dead) {hd hd':Hd} (hm:m id=some hd)
  (hsub:∀b∈hd'.blocks,b∈hd.blocks) {o:Obj} (ho:o≠ .dead)
  (hok:MonoW w (Ow O0 m st) w (Ow O0 (upd m nid (some hd')) (upd (upd st id .gone) nid o))->jbN w (Ow O0 (upd m nid (some hd')) (upd (upd st id .gone) nid o)) (upd m nid (some hd')) o (some hd')) :
  Chg w m st w (upd m nid (some hd')) (upd (upd st id .gone) nid o)/\Sto X w O0 (upd m nid (some hd')) (upd (upd st id .gone) nid o):=by
 have hmn:=hs.fresh nid hf;have sid:upd (upd st id .gone) nid o id = .gone:=by rw [upd_ne _ _ hne,jJ]
 have oth:∀i,i≠id->i≠nid->upd (upd st id .gone) nid o i=st i/\upd m nid (some hd') i=m i:=λi h1 h2=>by
  rw [upd_ne _ _ h2,upd_ne _ _ h1,upd_ne _ _ h2];exact ⟨rfl,rfl⟩
 have hchg:Chg w m st w (upd m nid (some hd')) (upd (upd st id .gone) nid o):=by
  refine ⟨rfl,rfl,(Quiet.refl _),kD _,λ_ _ _=>rfl,MLe.of λi h e=> ?_,λb hb=>Or.inl ?_⟩
  .have:i≠nid:=λe'=>by subst e';rw [hmn] at e;cases e
   rw [upd_ne _ _ this];exact e
  .obtain ⟨i,hi,h1,h2,h3⟩:=hb;by_cases e1:i=nid
   .subst e1;rw [jJ] at h2;cases h2;exact ⟨id,hd,hal,hm,hsub b h3⟩
   .by_cases e2:i=id
    .subst e2;rw [sid] at h1;cases h1
    .obtain ⟨g1,g2⟩:=oth i e2 e1;rw [g1] at h1;rw [g2] at h2;exact ⟨i,hi,h1,h2,h3⟩
 refine ⟨hchg,hs.chg hchg ?_ ?_ ?_ ?_⟩
 .intro i h;by_cases e1:i=nid
  .subst e1;rw [jJ] at h;exact (ho h).elim
  .by_cases e2:i=id
   .subst e2;rw [sid] at h;cases h
   .obtain ⟨g1,g2⟩:=oth i e2 e1;rw [g1] at h;rw [g2];exact hs.fresh i h
 .intro i hi b h1 h2 h3;by_cases e1:i=nid
  .subst e1;rw [jJ] at h2;cases h2;exact Or.inr (hs.blk id hd b hal hm (hsub b h3))
  .by_cases e2:i=id
   .subst e2;rw [sid] at h1;cases h1
   .obtain ⟨g1,g2⟩:=oth i e2 e1;rw [g1] at h1;rw [g2] at h2;exact Or.inl ⟨h1,h2⟩
 .have key:∀i hi b,i≠nid->(upd (upd st id .gone) nid o i).alive=true->upd m nid (some hd') i=some hi->b∈hi.blocks->b∈hd'.blocks->False:=by
   intro i hi b e1 h1 h2 h3 h4;by_cases e2:i=id
   .subst e2;rw [sid] at h1;cases h1
   .obtain ⟨g1,g2⟩:=oth i e2 e1;rw [g1] at h1;rw [g2] at h2;exact e2 (hs.inj i id hi hd b h1 hal h2 hm h3 (hsub b h4))
  intro i i' hi hi' b h1 h2 h3 h4 h5 h6;by_cases e1:i=nid
  .by_cases e2:i'=nid
   .rw [e1,e2]
   .subst e1;rw [jJ] at h3;cases h3;exact (key i' hi' b e2 h2 h4 h6 h5).elim
  .by_cases e2:i'=nid
   .subst e2;rw [jJ] at h4;cases h4;exact (key i hi b e1 h1 h3 h5 h6).elim
   .by_cases e3:i=id
    .subst e3;rw [sid] at h1;cases h1
    .by_cases e4:i'=id
     .subst e4;rw [sid] at h2;cases h2
     .obtain ⟨g1,g2⟩:=oth i e3 e1;obtain ⟨g3,g4⟩:=oth i' e4 e2;rw [g1] at h1;rw [g3] at h2;rw [g2] at h3;rw [g4] at h4;exact hs.inj i i' hi hi' b h1 h2 h3 h4 h5 h6
 .intro i;by_cases e1:i=nid
  .subst e1;right;rw [jJ,jJ];exact hok (hchg.monoW O0)
  .by_cases e2:i=id
   .subst e2;right;rw [sid];trivial
   .obtain ⟨g1,g2⟩:=oth i e2 e1;exact Or.inl ⟨g1,g2,λ_ _ _ _ _=>rfl⟩
def jcG (id off:Nat):List V->List Wr
 | []=>[]
 | c::cs=> .cell id off c::jcG id (off+1) cs
theorem jvZ {α:Type} {cs:List α} {off:Nat} {d:α} {ds:List α} (h:off+1+ds.length<=cs.length):over (cs.set off d) (off+1) ds=over cs off (d::ds):=by
 unfold over;exact jb8 cs off d ds h
theorem jek {id:Nat} :∀ {ds:List V} {off:Nat} {st:jC} {cs:List V},st id = .box cs->off+ds.length<=cs.length->kV st (jcG id off ds)=upd st id (.box (over cs off ds))
 | [],off,st,cs,h,_=>by
  funext i;show st i=_;by_cases e:i=id
  .subst e;rw [jJ,h];simp [over]
  .rw [upd_ne _ _ e]
 | d::ds,off,st,cs,h,hl=>by
  have h1:app st (.cell id off d)=upd st id (.box (cs.set off d)):=by
   show upd st id (Wr.on _ (st id))=_;rw [h];rfl
  show kV (app st (.cell id off d)) (jcG id (off+1) ds)=_;rw [h1,jek (cs:=cs.set off d) (jJ _ _ _) (by simp at hl ⊢;omega),jj3,jvZ (by simp at hl;omega)]
theorem ZU {α:Type} {cs ds:List α} {off:Nat} (h:off+ds.length<=cs.length):(over cs off ds).length=cs.length:=by
 simp [over];omega
theorem jcU {α:Type} (l us:List α) (n off:Nat) (h:off+us.length<=n) (hn:n<=l.length) :
  (over l off us).take n=over (l.take n) off us:=by
 unfold over;have a1:(l.take off).length=off:=by simp;omega
 rw [List.take_append,ql (by simp [a1];omega),List.take_take,ja9 (by omega),List.drop_take]
 congr 2;simp [a1]
theorem Zm {α:Type} {k:Nat} :∀(xs:List (List α)) (i j:Nat) (x ds:List α),(∀y∈xs,y.length=k)->xs[i]? = some x->j+ds.length<=x.length->
  (xs.set i (over x j ds)).flatten=over xs.flatten (i * k+j) ds
 | [],i,j,x,ds,_,h,_=>by simp at h
 | y::xs,i,j,x,ds,hk,h,hl=>by
  have hy:=hk y (by simp);cases i with
  | zero=>
   simp at h;subst h;simp only [jgt,J5,over,Nat.zero_mul,Jg];rw [jfn (by omega),List.drop_append_of_le_length (by omega)];simp [zH]
  | succ i=>
   simp at h;have ih:=Zm xs i j x ds (λz hz=>hk z (by simp [hz])) h hl;rw [jki,J5,J5,ih];unfold over;have e1:(i+1) * k+j=y.length+(i * k+j):=by rw [qf];omega
   have e2:(i+1) * k+j+ds.length=y.length+(i * k+j+ds.length):=by omega
   rw [e2,e1,List.take_length_add_append,List.drop_length_add_append];simp [zH]
theorem zo.storeBox {t:TypeId} {a x:Operand} (ho:o.op = .store t a x) {i:TI} (hi:TI.ok P t i) {id off len:Nat} (ha:ρ a = .ptr id off) {ds:List V}
  (hx:∀(w:World) (O:Nat->Prop) (m:zu) (u:Value),relV w O m (ρ x) u->jv w O m ds u.cells.toList/\jA u.cells.toList) (hsz:ds.length=i.size) (hl:off+ds.length<=len) :
  zo P X o ρ ⟨.d (.val undef),[.blen id len],jcG id off ds⟩:=by
 intro w O0 m st ev hs hg hr _hc;have ha':=hr a (by simp [ho,Op.operands]);have hx':=hr x (by simp [ho,Op.operands]);rw [ha] at ha';simp only [relV] at ha';obtain ⟨b,c,n,h1,h2⟩:=ha';obtain ⟨h3,h4⟩:=hx _ _ _ _ hx';obtain ⟨cs,g1,g2⟩:=hg _ (zi.2 rfl);have hob:=hs.obj id;rw [g1] at hob;obtain ⟨hd,q1,q2⟩:=hob;rw [h1] at q1;cases q1;obtain ⟨cc,T,q3,q4,q5⟩:=q2;have l1:=zW h3;have l2:=zW q5;obtain ⟨W,hst,w1,w2,w3,w4,w5,w6⟩:=ja2 P q3 off (ev x).cells.toList (by simp only [jfh] at l1 l2 ⊢;omega) h4;have hrun:(execOp ev o).run P w = .ok .skip W:=by
  have hsize:(ev x).cells.size=i.size:=by rw [<-hsz];simpa using l1
  simp only [execOp,ho,Instr.storeAt,h2,Instr.sureAddr,storeVar,zs,zD,zn,hi.run_sizeOf w,hsize,ne_eq,not_true_eq_false,K6,hst]
 rw [hrun];have hal:(st id).alive=true:=by rw [g1];rfl
 obtain ⟨k1,k2⟩:=jf8 hs hal h1 (o':= .box (over cs off ds)) rfl w1 w2 w3 w4 w5 λhmono=>⟨_,h1,_,T,w6,by simpa using jA.over q4 h4 off,by
  have:=Ks (m:=m) hmono (MLe.refl m) _ _ (jjE (off:=off) q5 h3);simpa using this⟩
 have e:=jek (id:=id) (ds:=ds) (off:=off) (st:=st) (cs:=cs) g1 (by omega);show YL X w O0 m st (jcG id off ds) (.d (.val undef)) W undef;refine ⟨m,?_,?_,by simp [relV,rel]⟩<;>rw [e]
 .exact k1
 .exact k2
theorem zo.storeRow {t:TypeId} {a x:Operand} (ho:o.op = .store t a x) {i:TI} (hi:TI.ok P t i) {id ii k j:Nat} (ha:ρ a = .rptr id ii k j) {cs:List A} {vs:List V} {ds:List A} {st0:jC} {r:List Rd} {ws:List Wr}
  (hx:∀(w:World) (O:Nat->Prop) (m:zu) (u:Value),relV w O m (ρ x) u->jv w O m vs u.cells.toList) (hseal:JJ st0 vs=some (ds,r,ws)) (hok:ds.all j9=true) (hsz:ds.length=i.size) (hl:j+ds.length<=k)
  (hne:∀kk xs,Wr.obj id (.fro kk xs) ∉ ws):zo P X o ρ ⟨.d (.val undef),.elem id ii k cs::r,ws++[.elem id ii (over cs j ds)]⟩:=by
 intro w O0 m st ev hs hg hr _hc;have ha':=hr a (by simp [ho,Op.operands]);have hx':=hr x (by simp [ho,Op.operands]);rw [ha] at ha';simp only [relV] at ha';obtain ⟨hd0,b,h0,h1,h2⟩:=ha';have h3:=hx _ _ _ _ hx';have hgr:∀y∈r,yI st y:=λy hy=>hg y (by simp [hy]);obtain ⟨s1,s2,s3,s4,s5,s6,s7,s8⟩:=jlM hs hseal hgr h3;obtain ⟨xs,g1,g2⟩:=hg (.elem id ii k cs) (by simp);obtain ⟨c,n,h1⟩:=jq6 hs g1 h0 h1;have hab:=Kt hseal hgr;have g1':kV st ws id = .row k xs:=by
  obtain ⟨_,_,_,_,a5⟩:=juQ ws st hs hab;rw [a5 id hne,g1]
 have hone:jA (ev x).cells.toList:=by
  have:∀ {as:List A} {us:List Value},jG w (Ow O0 m (kV st ws)) as us->as.all j9=true->jA us:=by
   intro as;induction as with
   | nil=>intro us h _;simp only [jG] at h;subst h;intro v hv;cases hv
   | cons a as ih=>
    intro us h hk;simp only [jG,yC,ju] at h hk;obtain ⟨v,t,rfl,e1,e2⟩:=h;intro y hy;rcases j7.1 hy with rfl|hy
    .exact je3 e1 hk.1
    .exact ih e2 hk.2 y hy
  exact this s3 hok
 have hob:=s1.obj id;rw [g1'] at hob;obtain ⟨hd,q1,q2⟩:=hob;rw [h1] at q1;cases q1;obtain ⟨q0,q6,q7,q8,cc,T,q3,q9,q4,q5⟩:=q2;have hcl:cs.length=k:=q8 cs (Jq g2);have hii:ii < xs.length:=(qM.1 g2).1;have l1:=kC s3;have hfit:ii * k+j+ds.length<=xs.length * k:=by
  have:(ii+1) * k<=xs.length * k:=jcC k (by omega);rw [qf] at this;omega
 have hcap:xs.length * k<=cc.size:=by rw [q9];exact jcC k q6
 obtain ⟨W,hst,w1,w2,w3,w4,w5,w6⟩:=ja2 P q3 (ii * k+j) (ev x).cells.toList (by rw [l1];omega) hone
 have hrun:(execOp ev o).run P w = .ok .skip W:=by
  have hsize:(ev x).cells.size=i.size:=by rw [<-hsz,<-l1];simp
  simp only [execOp,ho,Instr.storeAt,h2,Instr.sureAddr,storeVar,zs,zD,zn,hi.run_sizeOf w,hsize,ne_eq,not_true_eq_false,K6,hst]
 rw [hrun];have hal:(kV st ws id).alive=true:=by rw [g1'];rfl
 obtain ⟨k1,k2⟩:=jf8 s1 hal h1 (o':= .row k (xs.set ii (over cs j ds))) rfl w1 w2 w3 w4 w5 λhmono=>by
  refine ⟨_,h1,by simpa using q0,by simpa using q6,q7,?_,_,T,w6,?_,?_,?_⟩
  .intro y hy;rcases jox hy with hy|rfl
   .exact q8 y hy
   .rw [ZU (by omega)];exact hcl
  .rw [List.size_toArray,ZU (by have:=l1;have:=hcap;simp only [jfh] at *;omega),jfh];exact q9
  .simp only [jkh];rw [jcU _ _ _ _ (by rw [l1];exact hfit) (by simpa using hcap)];exact jA.over q4 hone _
  .rw [Zm xs ii j cs ds q8 g2 (by omega)];simp only [jkh];rw [jcU _ _ _ _ (by rw [l1];exact hfit) (by simpa using hcap)];exact kZ hmono _ _ (jcP q5 s3)
 refine YL.after (X:=X) s2 ?_;have e:kV (kV st ws) [.elem id ii (over cs j ds)]=upd (kV st ws) id (.row k (xs.set ii (over cs j ds))):=by
  show upd (kV st ws) id (Wr.on _ (kV st ws id))=_;rw [g1'];rfl
 refine ⟨m,?_,?_,by simp [relV,rel]⟩<;>rw [e]
 .exact k1
 .exact k2
theorem zo.makeMap {t:TypeId} (ho:o.op = .makeMap t none) {nid:Nat} :zo P X o ρ ⟨.row nid,[.fresh nid],[.obj nid (.map [])]⟩:=by
 intro w O0 m st ev hs hg hr _hc;have hf:st nid = .dead:=hg (.fresh nid) (by simp);have hrun:(execOp ev o).run P w = .ok (.value (.map (some w.heap.size))) (w.alloc (.map #[] 0)):=by
  simp [execOp,ho,Instr.makeMap]
 rw [hrun];have hnew:∀b∈(Hd.mp w.heap.size).blocks,w.heap.size<=b/\b < (w.alloc (.map #[] 0)).heap.size:=λb e=>by
  simp only [Hd.blocks,zi] at e;subst e;rw [JK];omega
 obtain ⟨k1,k2⟩:=jnN hs (Kw w _) hf (hd:= .mp w.heap.size) (o:= .map []) (λh=>by cases h) hnew ⟨_,rfl,#[],0,heap_alloc_new w _,MapFine.nil 0,by simp [zL]⟩;exact ⟨_,k1,k2,by simp only [relV];exact ⟨_,jJ _ _ _,rfl⟩⟩
theorem jn2 {w:World} {O:Nat->Prop} :∀ {xs:List (List A)} {es:List MapEntry},zL w O xs es->es.length=xs.length
 | [],es,h=>by simp only [zL] at h;simp [h]
 | x::xs,es,h=>by
  simp only [zL] at h;obtain ⟨e,p,q,rfl,_,h3⟩:=h;have:=jn2 h3;simp only [yn,zM] at this ⊢;omega
theorem jjz {w:World} {O:Nat->Prop} {k v:A} {e':MapEntry} (hk:rel w O k e'.key) (hv:rel w O v e'.val):∀ {xs:List (List A)} {es:List MapEntry},zL w O xs es->zL w O (xs++[[k,v]]) (es++[e'])
 | [],es,h=>by simp only [zL] at h;subst h;simp only [KN,zL];exact ⟨_,[],[],rfl,jut hk hv,rfl⟩
 | x::xs,es,h=>by
  simp only [zL] at h;obtain ⟨e,p,q,rfl,h2,h3⟩:=h;have ih:=jjz hk hv h3;simp only [Jl,zL];exact ⟨e,p,q++[e'],by simp,h2,by simpa using ih⟩
theorem MapFine.push {es:List MapEntry} {clock:Nat} (h:MapFine es clock) {ks:Option IntKind} {u v:Value} (hs:∀e∈es,ZI e.key=some ks) (hu:ZI u=some ks) (hn:u ∉ es.map (·.key)):MapFine (es++[{ key:=u,val:=v,born:=clock }]) (clock+1):=by
 refine ⟨⟨ks,λe he=> ?_⟩,?_,?_,λe he=> ?_⟩
 .rcases zh.1 he with h1|h1
  .exact hs e h1
  .rw [zi.1 h1];exact hu
 .rw [zz,jou,jbm];refine ⟨h.keys,List.pairwise_singleton ..,λa ha b hb e=>hn ?_⟩;have e:a=u:=e.trans (zi.1 hb);rw [<-e];exact ha
 .rw [zz,jou,jbm];refine ⟨h.borns,List.pairwise_singleton ..,λa ha b hb e=> ?_⟩;have e:a=clock:=e.trans (zi.1 hb);obtain ⟨x,hx,rfl⟩:=ym.1 ha;have:=h.old x hx;omega
 .rcases zh.1 he with h1|h1
  .exact Nat.lt_succ_of_lt (h.old e h1)
  .rw [zi.1 h1];exact Nat.lt_succ_self _
theorem MapFine.put {p q:List MapEntry} {e:MapEntry} {clock:Nat} (h:MapFine (p++e::q) clock) {v:Value} :MapFine (p++{ e with val:=v } ::q) clock:=by
 have e1:(p++{ e with val:=v } ::q).map (·.key)=(p++e::q).map (·.key):=by simp
 have e2:(p++{ e with val:=v } ::q).map (·.born)=(p++e::q).map (·.born):=by simp
 obtain ⟨ks,hs⟩:=h.sort;refine ⟨⟨ks,λx hx=> ?_⟩,by rw [e1];exact h.keys,by rw [e2];exact h.borns,λx hx=> ?_⟩
 .have:x.key∈(p++e::q).map (·.key):=by rw [<-e1];exact ym.2 ⟨x,hx,rfl⟩
  obtain ⟨y,hy,hk⟩:=ym.1 this;rw [<-hk];exact hs y hy
 .have:x.born∈(p++e::q).map (·.born):=by rw [<-e2];exact ym.2 ⟨x,hx,rfl⟩
  obtain ⟨y,hy,hk⟩:=ym.1 this;rw [<-hk];exact h.old y hy
theorem zo.mapUpdate {t kt et:TypeId} {x k y:Operand} (ho:o.op = .mapUpdate t x k y) (ht:P.underlying t=some (.map kt et)) {ks:Option IntKind} (hkt:P.underlying kt=some (jnt ks)) {id:Nat} (hx:ρ x = .row id) {xs ys:List (List A)} {ka va:A} (hk:dat (ρ k)=some ka)
  (hv:∀(w:World) (O:Nat->Prop) (m:zu) (u:Value),relV w O m (ρ y) u->rel w O va u) (hp:jeW ks xs ka va=some ys):zo P X o ρ ⟨.d (.val undef),[.obj id (.map xs)],[.obj id (.map ys)]⟩:=by
 intro w O0 m st ev hs hg hr _hc;have hst:st id = .map xs:=hg (.obj id (.map xs)) (by simp);have hx':=hr x (by simp [ho,Op.operands]);rw [hx] at hx';have hk':=kQ hk (hr k (by simp [ho,Op.operands]));have hv':=hv _ _ _ _ (hr y (by simp [ho,Op.operands]));obtain ⟨b,es,clock,h1,h2,h3,hmf,h4⟩:=jnM hs hst hx';unfold jeW at hp;split at hp
 .rename_i hok;obtain ⟨hik,rfl⟩:=jpP hok hk';rw [yP] at hp;obtain ⟨r,hf,hy⟩:=hp;have hwd:∀ob:Go.Obj,∀b',b'≠b->(w.heap.setIfInBounds b ob)[b']? = w.heap[b']? :=λob b' hne=>by simp [Ne.symm hne]
  have hlt:b < w.heap.size:=(Ze.1 h3).1;have fin:∀(es':Array MapEntry) (clock':Nat),(Instr.mapUpdate t (ev x) (ev k) (ev y)).run P w = .ok () { w with heap:=w.heap.setIfInBounds b (.map es' clock') } ->MapFine es'.toList clock'->(∀(w':World) (O':Nat->Prop),MonoW w (Ow O0 m st) w' O'->zL w' O' ys es'.toList)->
    Upon P (YL X w O0 m st [.obj id (.map ys)] (.d (.val undef))) w ((execOp ev o).run P w):=by
   intro es' clock' hrun hmf' hes;have hex:(execOp ev o).run P w = .ok .skip { w with heap:=w.heap.setIfInBounds b (.map es' clock') } :=by
    simp only [execOp,ho,zs,hrun,zn,zD]
   rw [hex];obtain ⟨k1,k2⟩:=jjs (W:={ w with heap:=w.heap.setIfInBounds b (.map es' clock') }) hs (id:=id) (by rw [hst];rfl) h1 (b:=b) (by simp [Hd.blocks]) (o':= .map ys) rfl rfl rfl (Quiet.refl _) (by simp) (hwd _) λhmono=>
    ⟨_,h1,es',clock',by simp [hlt],hmf',hes _ _ hmono⟩
   exact ⟨m,k1,k2,by simp [relV,rel]⟩
  rcases jqh hok hmf h4 hf with ⟨rfl,q2,q3,q4⟩|⟨n,a,p,e,q,rfl,q2,q3,q4,q5,q6⟩
  .refine fin (es.push { key:=ev k,val:=ev y,born:=clock }) (clock+1) ?_ (by rw [Array.toList_push];exact hmf.push q3 (jsA hok) q4) λw' O' hmono=> ?_
   .unfold Instr.mapUpdate;rw [h2];simp only [zs,kP ht,zn,joy h3,run_checkKey hkt hik,run_findKey hkt q2,MapKept.run_setObj_map _ h3]
   .rw [<-hy,Array.toList_push];exact jjz (by simp [rel]) (zS hmono _ _ hv') (Jb hmono _ _ h4)
  .have hj:es[p.length]? = some e:=by rw [<-Qk,q3];simp
   have e1:(es.modify p.length λe=>{ e with key:=ev k,val:=ev y }).toList=p++{ e with val:=ev y } ::q:=by
    rw [Array.toList_modify,List.modify_eq_set,Qk,hj,q3,List.set_append,jo (Nat.lt_irrefl _),jdZ,jgt,<-q4];rfl
   refine fin (es.modify p.length λe=>{ e with key:=ev k,val:=ev y }) clock ?_ (by rw [e1];rw [q3] at hmf;exact hmf.put) λw' O' hmono=> ?_
   .unfold Instr.mapUpdate;rw [h2];simp only [zs,kP ht,zn,joy h3,run_checkKey hkt hik,run_findKey hkt q2,Jg,hj,K5,jdY,q4,run_keyThatStays hik,MapKept.run_setObj_map _ h3]
   .rw [<-hy,e1];simp only [Jg];exact q6 w' O' hmono { e with val:=ev y } (.val (ev k)) va (by simp only [rel];exact q4) (zS hmono _ _ hv')
 .cases hp
end
end
noncomputable section
section
variable {P:Program} {X:Ctx} {o:Oper} {ρ:Operand->V} {C:Cfg}
def jc3 (w:World) (O:Nat->Prop) (k:Nat) (ys:List (List A)) (v:Value):Prop:=
 ∃ad c news,v = .slice ad ys.length c/\jG w O ys.flatten news/\jA news/\(∀y∈ys,y.length=k)/\(ys = []\/ ∃b off,ad=some ⟨b,off,none⟩/\Reads w b off news)
theorem jrn {w:World} {O:Nat->Prop} {k:Nat} {ys:List (List A)} {v:Value} (h:rel w O (.sl k ys) v):jc3 w O k ys v:=by
 simp only [rel] at h;obtain ⟨a,cap,rfl,h2,h3,h4⟩:=h;rcases h4 with rfl|⟨b,off,h5,h6,h7,h8⟩
 .exact ⟨a,cap,[],rfl,by simp [jG],(λv h=>by cases h),by simp,Or.inl rfl⟩
 .obtain ⟨vs,g1,g2,g4,g3⟩:=jaJ h8;exact ⟨a,cap,vs,rfl,g1,g4,g3,Or.inr ⟨b,off,h5,g2⟩⟩
theorem jCU {w:World} {O:Nat->Prop} {k:Nat} {ys:List (List A)} {hd:Hd} {v:Value} (h:rowOk w O k ys hd) (hv:hdr hd v):jc3 w O k ys v:=by
 cases hd with
 | none=>
  simp only [rowOk] at h;simp only [hdr] at hv;subst h;obtain ⟨a,rfl⟩:=hv;exact ⟨a,0,[],rfl,by simp [jG],(λv h=>by cases h),by simp,Or.inl rfl⟩
 | blk b cap n=>
  obtain ⟨rfl,q1,q2,q3,c,T,q4,q5,q7,q6⟩:=h;simp only [hdr] at hv;exact ⟨_,cap,_,hv,q6,q7,q3,Or.inr ⟨b,0,rfl,(Reads.block q4).take _⟩⟩
 | tre=>exact h.elim
 | mp=>exact h.elim
theorem jCT {w:World} {O:Nat->Prop} {k:Nat} {v:Value} (h:∃a,v = .slice a 0 0):jc3 w O k [] v:=by
 obtain ⟨a,rfl⟩:=h;exact ⟨a,0,[],rfl,by simp [jG],(λv h=>by cases h),by simp,Or.inl rfl⟩
theorem jgB (P:Program) {w:World} {O:Nat->Prop} {t ty e:TypeId} {i:TI} (ht:P.underlying t=some (.slice e)) (hi:TI.ok P e i)
    {xs ys:List (List A)} {hd:Hd} {v u:Value} (hv:hdr hd v) (hrow:rowOk w O i.size xs hd) (hsrc:jc3 w O i.size ys u)
    (hfit:(xs.length+ys.length) * i.bytes<=140737488355328) (h63:xs.length+ys.length<=9223372036854775807) :
    ∃v' w',(Builtin.append_ #[t,t] ty #[v,u]).run P w = .ok v' w'/\
      ((ys = []/\w'=w/\v'=v)\/
       (∃b cap n cs T,hd = .blk b cap n/\v' = .slice (some ⟨b,0,none⟩) (xs.length+ys.length) cap/\xs.length+ys.length<=cap/\cap<=9223372036854775807/\(w'.os=w.os/\w'.tape=w.tape/\Quiet w w'/\w'.heap.size=w.heap.size/\ ∀b',b'≠b->w'.heap[b']? = w.heap[b']?)/\
          w'.heap[b]? = some (.cells cs T (0,0))/\cs.size=cap * i.size/\jA (cs.toList.take ((xs.length+ys.length) * i.size))/\jG w O (xs++ys).flatten (cs.toList.take ((xs.length+ys.length) * i.size)))\/
       (∃cap cs T,v' = .slice (some ⟨w.heap.size,0,none⟩) (xs.length+ys.length) cap/\xs.length+ys.length<=cap/\cap<=9223372036854775807/\Below w.heap.size w w'/\w.heap.size < w'.heap.size/\
          w'.heap[w.heap.size]? = some (.cells cs T (0,0))/\cs.size=cap * i.size/\jA (cs.toList.take ((xs.length+ys.length) * i.size))/\jG w O (xs++ys).flatten (cs.toList.take ((xs.length+ys.length) * i.size)))):=by
  obtain ⟨ad,c,news,rfl,hnews,hok',hyk,hsrc⟩:=hsrc;obtain ⟨j,hj,j1,j2,j3⟩:=hi.some_info;have hnl:news.length=ys.length * i.size:=by rw [kC hnews,qv hyk]
  have hv2:∃base cap,v = .slice base xs.length cap/\xs.length<=cap/\((hd = .none/\cap=0)\/ ∃b n,hd = .blk b cap n/\base=some ⟨b,0,none⟩):=by
    cases hd with
    | none=>simp only [hdr] at hv;obtain ⟨a,rfl⟩:=hv;simp only [rowOk] at hrow;subst hrow;exact ⟨a,0,rfl,by simp,Or.inl ⟨rfl,rfl⟩⟩
    | blk b cap n=>simp only [hdr] at hv;obtain ⟨rfl,q,_⟩:=hrow;exact ⟨_,cap,hv,q,Or.inr ⟨b,_,rfl,rfl⟩⟩
    | tre=>exact hrow.elim
    | mp=>exact hrow.elim
  obtain ⟨base,cap,rfl,hcap,hhd⟩:=hv2;by_cases hy0:ys = []
  . subst hy0
    refine ⟨.slice base xs.length cap,w,?_,Or.inl ⟨rfl,rfl,rfl⟩⟩;have hf:(Builtin.firstCells i.size 0 (.slice ad 0 c)).run P w = .ok #[] w:=by
      cases ad<;>simp [Builtin.firstCells,loadCells,loadCellsFrom]
    cases base<;>simp [Builtin.append_,kP ht,sizeOf,typeInfo,hj,j1,Builtin.lenOf,hcap,hf,storeCells]
  . obtain ⟨b2,off2,rfl,hreads⟩:=hsrc.resolve_left hy0
    have hypos:0 < ys.length:=List.length_pos_iff.2 hy0;have hn1:∀jj u,news[jj]? = some u->w.cell? ((⟨b2,off2,none⟩:Addr).add jj)=some u:=λjj u hu=>by rw [Km];exact hreads jj u hu
    by_cases hroom:xs.length+ys.length<=cap
    .
      rcases hhd with ⟨_,rfl⟩|⟨b,n,rfl,rfl⟩
      . omega
      obtain ⟨_,q1,q2,q3,cc,T,q4,q5,q7,q6⟩:=hrow;have hf:=jkd (P:=P) w i.size ys.length ⟨b2,off2,none⟩ ys.length c news hnl hn1;have hsum:(xs.length+ys.length) * i.size<=cap * i.size:=jcC _ hroom;have hadd:(xs.length+ys.length) * i.size=xs.length * i.size+ys.length * i.size:=qf _ _ _;obtain ⟨W,hst,w1,w2,w3,w4,w5,w6⟩:=ja2 P q4 (xs.length * i.size) news (by rw [hnl];omega) hok';have hl2:cc.toList.length=cap * i.size:=by simp [q5]
      have e:((over cc.toList (xs.length * i.size) news).toArray.toList.take ((xs.length+ys.length) * i.size))=cc.toList.take (xs.length * i.size)++news:=by
        have hl1:(cc.toList.take (xs.length * i.size)).length=xs.length * i.size:=by simp;omega
        unfold over;rw [jfn (by simp [hnl];omega),ql (by simp [hnl];omega)]
      refine ⟨.slice (some ⟨b,0,none⟩) (xs.length+ys.length) cap,W,?_,Or.inr (Or.inl ⟨b,cap,n,_,T,rfl,rfl,hroom,q2,⟨w1,w2,w3,w4,w5⟩,w6,?_,?_,?_⟩)⟩
      . have hadd2:(⟨b,0,none⟩:Addr).add (xs.length * i.size)=⟨b,xs.length * i.size,none⟩:=by rw [Km];simp
        have hf':(Builtin.firstCells j.size ys.length (.slice (some ⟨b2,off2,none⟩) ys.length c)).run P w = .ok news.toArray w:=by rw [j1];exact hf
        have hst':(storeCells ((⟨b,0,none⟩:Addr).add (xs.length * j.size)) news).run P w = .ok () W:=by rw [j1,hadd2];exact hst
        simp [Builtin.append_,kP ht,sizeOf,typeInfo,hj,Builtin.lenOf,hroom,hf',hst']
      . rw [List.size_toArray,ZU (by rw [hnl,hl2];omega),hl2]
      . rw [e];exact (q7.append hok')
      . have hfl:(xs++ys).flatten=xs.flatten++ys.flatten:=by simp
        rw [hfl,e];exact zy q6 hnews
    .
      have hlt:cap < xs.length+ys.length:=by omega
      have hgf:=growslice_fits (bytes:=i.bytes) hlt hfit;have hgc:=grownCap_ge w (xs.length+ys.length) cap e;have hgm:=grownCap_le_maxLen w (xs.length+ys.length) cap e (by simpa [maxLen] using h63);have holds:∃olds:List Value,jG w O xs.flatten olds/\jA olds/\olds.length=xs.length * i.size/\(Builtin.firstCells j.size xs.length (.slice base xs.length cap)).run P w.drew = .ok olds.toArray w.drew:=by
        rcases hhd with ⟨rfl,rfl⟩|⟨b,n,rfl,rfl⟩
        . simp only [rowOk] at hrow
          subst hrow;refine ⟨[],by simp [jG],(λv h=>by cases h),by simp,?_⟩;cases base<;>simp [Builtin.firstCells,loadCells,loadCellsFrom]
        . obtain ⟨_,q1,q2,q3,cc,T,q4,q5,q7,q6⟩:=hrow
          have hl1:(cc.toList.take (xs.length * i.size)).length=xs.length * i.size:=by rw [kC q6,qv q3]
          refine ⟨_,q6,q7,hl1,?_⟩;rw [j1];refine jkd (P:=P) w.drew i.size xs.length ⟨b,0,none⟩ xs.length cap _ hl1 ?_;intro jj u hu;rw [Km];have:=((Reads.block q4).take (xs.length * i.size)) jj u hu;simpa using this
      obtain ⟨olds,ho1,ho4,ho2,ho3⟩:=holds;have hf':(Builtin.firstCells j.size ys.length (.slice (some ⟨b2,off2,none⟩) ys.length c)).run P w.drew = .ok news.toArray w.drew:=by
        rw [j1];exact jkd (P:=P) w.drew i.size ys.length ⟨b2,off2,none⟩ ys.length c news hnl (by simpa using hn1)
      have n1:¬(xs.length+ys.length<=cap):=hroom;have n2:¬(9223372036854775807 < ((xs.length:Int)+(ys.length:Int))):=by omega
      have n3:¬(281474976710656 < Builtin.nextslicecap (xs.length+ys.length) cap * j.bytes):=by rw [j2];omega
      have e2:((olds.toArray++news.toArray++Builtin.zeroCells i.zero.cells (grownCap w (xs.length+ys.length) cap e - (xs.length+ys.length))).toList.take ((xs.length+ys.length) * i.size))=olds++news:=by
        simp only [Array.toList_append];rw [jfn (by simp [ho2,hnl,qf]),ql (by simp [ho2,hnl,qf])]
      refine ⟨.slice (some ⟨w.heap.size,0,none⟩) (xs.length+ys.length) (grownCap w (xs.length+ys.length) cap e),w.drew.alloc (.cells (olds.toArray++news.toArray++Builtin.zeroCells i.zero.cells (grownCap w (xs.length+ys.length) cap e - (xs.length+ys.length))) e),
        ?_,Or.inr (Or.inr ⟨_,olds.toArray++news.toArray++Builtin.zeroCells i.zero.cells (grownCap w (xs.length+ys.length) cap e - (xs.length+ys.length)),e,rfl,hgc,by simpa [maxLen] using hgm,?_,?_,?_,?_,?_,?_⟩)⟩
      . simp [Builtin.append_,kP ht,sizeOf,typeInfo,zeroValue,hj,j3,Builtin.lenOf,n1,n2,n3,Question.forced,ho3,hf',newRow,grownCap]
        congr 2;rw [<-Array.append_assoc];simp
      . exact ((Below.refl _ w).drew).alloc (by simp) _
      . show w.heap.size < (w.drew.alloc _).heap.size
        rw [JK];simp
      . exact heap_alloc_new w.drew _
      . simp only [Array.size_append,List.size_toArray,Builtin.zeroCells,Array.size_map,Array.size_range,hi.zsize,ho2,hnl]
        rw [<-qf,<-qf];congr 1;omega
      . rw [e2];exact ho4.append hok'
      . have hfl:(xs++ys).flatten=xs.flatten++ys.flatten:=by simp
        rw [hfl,e2];exact zy ho1 hnews
theorem Ko {ev:Operand->Value} {s x:Operand} {xs:Array Operand} {ts:Array TypeId} (ho:o.op = .call { callee:= .builtin .append,args:=xs,argTypes:=ts }) (hxs:xs = #[s,x]) {w w':World} {v:Value}
  (h:(Builtin.append_ ts o.type #[ev s,ev x]).run P w = .ok v w'):(execOp ev o).run P w = .ok (.value v) w':=by
 subst hxs;simp [execOp,ho,resolve,invoke,builtin,h]
theorem zo.append0 {s x:Operand} {xs:Array Operand} {ts:Array TypeId} {t:TypeId} (ho:o.op = .call { callee:= .builtin .append,args:=xs,argTypes:=ts }) (hxs:xs = #[s,x]) (hts:ts = #[t,t])
  {e:Nat} (ht:P.underlying t=some (.slice e)) {i:TI} (hi:TI.ok P e i) {ys:List (List A)} {k0:Nat} (hs:ρ s = .nil k0) {rds:List Rd} {nid:Nat}
  (hx:∀(w:World) (O0:Nat->Prop) (m:zu) (st:jC) (u:Value),Sto X w O0 m st->(∀r∈rds,yI st r)->relV w (Ow O0 m st) m (ρ x) u->jc3 w (Ow O0 m st) i.size ys u)
  (hfit:ys.length * i.bytes<=140737488355328) (h63:ys.length<=9223372036854775807):zo P X o ρ ⟨.row nid,.fresh nid::rds,[.obj nid (.row i.size ys)]⟩:=by
 intro w O0 m st ev hst hg hr _hc;have hs':=hr s (by simp [ho,Op.operands,Call.operands,hxs]);have hx':=hx w O0 m st _ hst (λr h=>hg r (by simp [h])) (hr x (by simp [ho,Op.operands,Call.operands,hxs]));rw [hs] at hs';simp only [relV] at hs';obtain ⟨v',w',a1,a2⟩:=jgB P (ty:=o.type) (xs:=[]) (hd:= .none) ht hi (by simpa only [hdr] using hs') (by simp [rowOk]) hx' (by simpa using hfit) (by simpa using h63);have hrun:=Ko (P:=P) (ev:=ev) ho hxs (by rw [hts];exact a1);rw [hrun];have hf:st nid = .dead:=hg (.fresh nid) (by simp);simp only [qO,Jg,KN] at a2;rcases a2 with ⟨rfl,rfl,rfl⟩|⟨b,cap,n,cs,T,r1,_⟩|⟨cap,cs,T,rfl,r3,r4,r5,r6,r7,r8,r10,r9⟩
 .obtain ⟨a,hv⟩:=hs';exact JE hst (Below.refl _ _) hf (hd:= .none) ⟨a,hv⟩ (Or.inl ⟨rfl,rfl⟩)
 .cases r1
 .obtain ⟨_,_,_,_,_,_,hyk,_⟩:=hx';exact JE hst r5 hf (hd:= .blk w.heap.size cap ys.length) rfl (Or.inr ⟨cap,cs,T,rfl,r6,r3,r4,hyk,r7,r8,r10,r9⟩)
theorem jjJ {w:World} {O0:Nat->Prop} {m:zu} {st:jC} (hs:Sto X w O0 m st) {id k:Nat} {xs:List (List A)} (hf:st id = .row k xs) {u:Value} (hr:relV w (Ow O0 m st) m (.row id) u):∃hd,m id=some hd/\hdr hd u/\rowOk w (Ow O0 m st) k xs hd:=by
 simp only [relV] at hr;obtain ⟨hd,h1,h2⟩:=hr;have ho:=hs.obj id;rw [hf] at ho;obtain ⟨hd',g1,g2⟩:=ho;rw [h1] at g1;cases g1;exact ⟨_,h1,h2,g2⟩
theorem zo.append {s x:Operand} {xs:Array Operand} {ts:Array TypeId} {t:TypeId} (ho:o.op = .call { callee:= .builtin .append,args:=xs,argTypes:=ts }) (hxs:xs = #[s,x]) (hts:ts = #[t,t])
  {e:Nat} (ht:P.underlying t=some (.slice e)) {i:TI} (hi:TI.ok P e i) {us ys:List (List A)} {id:Nat} (hs:ρ s = .row id) {rds:List Rd} {nid:Nat} (hne:nid≠id)
  (hx:∀(w:World) (O0:Nat->Prop) (m:zu) (st:jC) (u:Value),Sto X w O0 m st->(∀r∈rds,yI st r)->relV w (Ow O0 m st) m (ρ x) u->jc3 w (Ow O0 m st) i.size ys u)
  (hfit:(us.length+ys.length) * i.bytes<=140737488355328) (h63:us.length+ys.length<=9223372036854775807):zo P X o ρ ⟨.row nid,.fresh nid:: .obj id (.row i.size us)::rds,[.obj id .gone,.obj nid (.row i.size (us++ys))]⟩:=by
 intro w O0 m st ev hst hg hr _hc;have hs':=hr s (by simp [ho,Op.operands,Call.operands,hxs]);have hx':=hx w O0 m st _ hst (λr h=>hg r (by simp [h])) (hr x (by simp [ho,Op.operands,Call.operands,hxs]));rw [hs] at hs';have hid:st id = .row i.size us:=hg (.obj id (.row i.size us)) (by simp);have hf:st nid = .dead:=hg (.fresh nid) (by simp);obtain ⟨hd,g1,g2,g3⟩:=jjJ hst hid hs';obtain ⟨v',w',a1,a2⟩:=jgB P (ty:=o.type) ht hi g2 g3 hx' hfit h63;have hrun:=Ko (P:=P) (ev:=ev) ho hxs (by rw [hts];exact a1);rw [hrun];have hmn:=hst.fresh nid hf;have hyk:∀y∈ys,y.length=i.size:=by obtain ⟨_,_,_,_,_,_,h,_⟩:=hx';exact h
 have hxk:∀y∈us,y.length=i.size:=by
  cases hd with
  | none=>simp only [rowOk] at g3;subst g3;simp
  | blk b c n=>exact g3.2.2.2.1
  | tre=>exact g3.elim
  | mp=>exact g3.elim
 have hk:∀z∈us++ys,z.length=i.size:=λz hz=>(zh.1 hz).elim (hxk z) (hyk z);have stay:∀(W:World) (hd':Hd),(∀b∈hd'.blocks,b∈hd.blocks)->W.os=w.os->W.tape=w.tape->Quiet w W->W.heap.size=w.heap.size->(∀b',b' ∉ hd.blocks->W.heap[b']? = w.heap[b']?)->
   (MonoW w (Ow O0 m st) W (Ow O0 (upd m nid (some hd')) (upd (upd st id .gone) nid (.row i.size (us++ys))))->rowOk W (Ow O0 (upd m nid (some hd')) (upd (upd st id .gone) nid (.row i.size (us++ys)))) i.size (us++ys) hd')->hdr hd' v'->
   YL X w O0 m st [.obj id .gone,.obj nid (.row i.size (us++ys))] (.row nid) W v':=by
  intro W hd' hsame w1 w2 w3 w4 w5 hok hv;have hal:(st id).alive=true:=by rw [hid];rfl
  have hst':∀j,upd (upd st id .gone) nid (.row i.size (us++ys)) j=if j=nid then .row i.size (us++ys) else if j=id then .gone else st j:=λj=>by
   by_cases e1:j=nid
   .subst e1;rw [jJ,jl rfl]
   .rw [upd_ne _ _ e1,jo e1];by_cases e2:j=id
    .subst e2;rw [jJ,jl rfl]
    .rw [upd_ne _ _ e2,jo e2]
  have hm':∀j,upd m nid (some hd') j=if j=nid then some hd' else m j:=λj=>by
   by_cases e1:j=nid
   .subst e1;rw [jJ,jl rfl]
   .rw [upd_ne _ _ e1,jo e1]
  have hnew:∀b',Mz (upd m nid (some hd')) (upd (upd st id .gone) nid (.row i.size (us++ys))) b'->Mz m st b':=by
   rintro b' ⟨j,hj,h1,h2,h3⟩;rw [hst'] at h1;rw [hm'] at h2;by_cases e1:j=nid
   .rw [jl e1] at h2;cases h2;exact ⟨id,hd,hal,g1,hsame b' h3⟩
   .rw [jo e1] at h1 h2;by_cases e2:j=id
    .rw [jl e2] at h1;cases h1
    .rw [jo e2] at h1;exact ⟨j,hj,h1,h2,h3⟩
  have hchg:Chg w m st W (upd m nid (some hd')) (upd (upd st id .gone) nid (.row i.size (us++ys))):=
   ⟨w1,w2,w3,by omega,λb' _ hn=>w5 b' λe=>hn ⟨id,hd,hal,g1,e⟩,MLe.of λj h e=>by
    rw [hm',jo (λe'=>by subst e';rw [hmn] at e;cases e)];exact e,λb' h=>Or.inl (hnew b' h)⟩
  suffices hsto:Sto X W O0 (upd m nid (some hd')) (upd (upd st id .gone) nid (.row i.size (us++ys))) from
   ⟨upd m nid (some hd'),hchg,hsto,by simp only [relV];exact ⟨_,jJ _ _ _,hv⟩⟩
  refine hst.chg hchg ?_ ?_ ?_ ?_
  .intro j h;rw [hst'] at h;rw [hm'];by_cases e1:j=nid
   .rw [jl e1] at h;cases h
   .rw [jo e1] at h ⊢;by_cases e2:j=id
    .rw [jl e2] at h;cases h
    .rw [jo e2] at h;exact hst.fresh j h
  .intro j hj b' h1 h2 h3;rw [hst'] at h1;rw [hm'] at h2;by_cases e1:j=nid
   .rw [jl e1] at h2;cases h2;have:=hst.blk id hd b' hal g1 (hsame b' h3);exact Or.inr ⟨by omega,this.2⟩
   .rw [jo e1] at h1 h2;by_cases e2:j=id
    .rw [jl e2] at h1;cases h1
    .rw [jo e2] at h1;exact Or.inl ⟨h1,h2⟩
  .intro j j' hj hj' b' h1 h2 h3 h4 h5 h6;rw [hst'] at h1 h2;rw [hm'] at h3 h4;by_cases e1:j=nid
   .by_cases e2:j'=nid
    .rw [e1,e2]
    .rw [jl e1] at h3;cases h3;rw [jo e2] at h2 h4;by_cases e3:j'=id
     .rw [jl e3] at h2;cases h2
     .rw [jo e3] at h2;exact absurd (hst.inj id j' hd hj' b' hal h2 g1 h4 (hsame b' h5) h6).symm e3
   .rw [jo e1] at h1 h3;by_cases e3:j=id
    .rw [jl e3] at h1;cases h1
    .rw [jo e3] at h1;by_cases e2:j'=nid
     .rw [jl e2] at h4;cases h4;exact absurd (hst.inj id j hd hj b' hal h1 g1 h3 (hsame b' h6) h5).symm e3
     .rw [jo e2] at h2 h4;by_cases e4:j'=id
      .rw [jl e4] at h2;cases h2
      .rw [jo e4] at h2;exact hst.inj j j' hj hj' b' h1 h2 h3 h4 h5 h6
  .intro j;by_cases e1:j=nid
   .subst e1;rw [jJ,jJ];exact Or.inr ⟨hd',rfl,hok (hchg.monoW O0)⟩
   .rw [upd_ne _ _ e1,upd_ne _ _ e1];by_cases e2:j=id
    .subst e2;rw [jJ];exact Or.inr trivial
    .rw [upd_ne _ _ e2];exact Or.inl ⟨rfl,rfl,λhj b' h1 h2 h3=>w5 b' λe'=>e2 (hst.inj j id hj hd b' h1 hal h2 g1 h3 e')⟩
 rcases a2 with ⟨rfl,rfl,rfl⟩|⟨b,cap,n,cs,T,r1,r2,r3,r4,⟨w1,w2,w3,w4,w5⟩,r6,r7,r9,r8⟩|⟨cap,cs,T,rfl,r3,r4,r5,r6,r7,r8,r10,r9⟩
 .refine stay _ hd (λb e=>e) rfl rfl (Quiet.refl _) rfl (λ_ _=>rfl) (λhmono=> ?_) g2;have:=ja0 hmono (λ_ _ _ _=>rfl) g3;simpa using this
 .subst r1;refine stay w' (.blk b cap (us.length+ys.length)) (λb' e=>by rw [jeo e];exact Kk) w1 w2 w3 w4 (λb' hb'=>w5 b' λe=>hb' (by rw [e];exact Kk)) (λhmono=> ?_) r2;exact ⟨by simp,by simpa using r3,r4,hk,cs,T,r6,r7,by simpa using r9,by simpa using kZ hmono _ _ r8⟩
 .refine YL.after (ws:=[.obj id .gone]) (Chg.ghost λh=>by cases h) ?_;have hkill:Sto X w O0 m (kV st [.obj id .gone]):=hst.kill id;have hf':kV st [.obj id .gone] nid = .dead:=by
   show upd st id .gone nid=_;rw [upd_ne _ _ hne,hf]
  refine JE hkill r5 hf' (hd:= .blk w.heap.size cap (us.length+ys.length)) rfl (Or.inr ⟨cap,cs,T,by simp,r6,by simpa using r3,r4,hk,r7,r8,by simpa using r10,?_⟩);have:=kZ (MonoW.sub (O':=Ow O0 m (kV st [.obj id .gone])) (jfG λh=>by cases h)) _ _ r9;simpa using this
theorem zo.make {t:TypeId} {x y:Operand} (ho:o.op = .makeSlice t x y) {e:Nat} (ht:P.underlying t=some (.slice e)) {i:TI} (hi:TI.ok P e i) {a b:A} (hx:ρ x = .d a) (hy:ρ y = .d b) {kl kc:IntKind} {l c:Int} (ha:a = .val (.int kl l)) (hb:b = .val (.int kc c))
  (h0:0<=l) (hlc:l<=c) (hbytes:(i.bytes:Int) * c<=281474976710656) (h63:c<=9223372036854775807) {z:List A} (hz:∀w O,jG w O z i.zero.cells.toList) (hone:jA i.zero.cells.toList) {nid:Nat} :
  zo P X o ρ ⟨.row nid,[.fresh nid],[.obj nid (.row i.size (List.replicate l.toNat z))]⟩:=by
 intro w O0 m st ev hst hg hr _hc;have hx':=hr x (by simp [ho,Op.operands]);have hy':=hr y (by simp [ho,Op.operands]);rw [hx,ha] at hx';rw [hy,hb] at hy';simp only [relV,rel] at hx' hy';obtain ⟨j,hj,j1,j2,j3⟩:=hi.some_info;have hrun:=run_make (P:=P) w t e j i.zero ht hj j3 kl kc l c h0 hlc (by rw [j2];exact hbytes) h63;have hzl:i.zero.cells.toList.length=i.size:=by simpa using hi.zsize
 have hzl2:z.length=i.size:=by rw [<-kC (hz w λ_=>False)];exact hzl
 have key:∀(n cn:Nat),n<=cn->((madeCells i.zero.cells (cn * i.size)).toList.take (n * i.size))=(List.replicate n i.zero.cells.toList).flatten:=by
  intro n cn hn;apply Ye;intro q;by_cases hq:q < n * i.size
  .have hpos:0 < i.size:=Nat.pos_of_ne_zero λe0=>by rw [e0] at hq;simp at hq
   have h1:(List.replicate n i.zero.cells.toList).flatten[q]? = i.zero.cells.toList[q % i.size]? :=by
    clear hn;induction n generalizing q with
    | zero=>simp at hq
    | succ n ih=>
     rw [Qf,J5];by_cases hq2:q < i.size
     .rw [Je (by omega),Nat.mod_eq_of_lt hq2]
     .have hq3:q - i.size < n * i.size:=by
       rw [qf,Nat.one_mul] at hq;omega
      have hm2:=Nat.mod_eq_sub_mod (a:=q) (b:=i.size) (by omega);rw [Kv (by omega),hzl,ih (q - i.size) hq3,<-hm2]
   rw [h1,jbb,jl hq];have hlt:q < cn * i.size:=Yb hq (jcC _ hn);have hm:q % i.size < i.zero.cells.size:=by rw [hi.zsize];exact Nat.mod_lt _ hpos
   simp only [madeCells,Qk,Array.getElem?_map,Array.getElem?_range,hlt,Jm,K5,hi.zsize];rw [Qj i.zero.cells (q % i.size) hm,K4 hm]
  .rw [yW (by simp;omega),yW]
   simp only [List.length_flatten,List.map_replicate,hzl,joz];omega
 have hrepl:∀n,jG w (Ow O0 m st) (List.replicate n z).flatten (List.replicate n i.zero.cells.toList).flatten:=by
  intro n;induction n with
  | zero=>simp [jG]
  | succ n ih=>simp only [Qf,J5];exact zy (hz _ _) ih
 have hones:∀n,jA (List.replicate n i.zero.cells.toList).flatten:=λn v hv=>by
  obtain ⟨q,hq,hv⟩:=jkc.1 hv;rw [(joA.1 hq).2] at hv;exact hone v hv
 have hf:st nid = .dead:=hg (.fresh nid) (by simp);have hex:(execOp ev o).run P w = .ok (.value (.slice (some ⟨w.heap.size,0,none⟩) l.toNat c.toNat)) (w.alloc (.cells (madeCells i.zero.cells (c.toNat * j.size)) e)):=by
  simp [execOp,ho,hx',hy',hrun]
 rw [hex];refine JE hst (Kw w _) hf (hd:= .blk w.heap.size c.toNat (List.replicate l.toNat z).length) (by simp [hdr]) (Or.inr ⟨c.toNat,_,e,rfl,by rw [JK];omega,by simp;omega,by omega,λq hq=>by rw [(joA.1 hq).2];exact hzl2,heap_alloc_new w _,by rw [size_madeCells,j1],?_,?_⟩)
 .rw [K2,j1,key _ _ (by omega)];exact hones _
 .rw [K2,j1,key _ _ (by omega)];exact hrepl _
end
end
noncomputable section
inductive LX where
 | fail
 | ret (v:V) (rds:List Rd) (wrs:List Wr)
 | bnd (x:Option A) (k:A->LX)
 | nat (x:Option Nat) (k:Nat->LX)
 | rows (x:Option (List (List A))) (k:List (List A)->LX)
 | cells (x:Option (List A)) (k:List A->LX)
 | chk (b:Bool) (k:LX)
 | node (x:Node) (k:Out->LX)
 | cnd (a:A) (x y:LX)
def brn {α:Type} (b:Bool) (x y:α):α:=if b then x else y
def LX.run (M:Node->Option Out):LX->(V->List Rd->List Wr->Option Out)->Option Out
 | .fail,_=>none
 | .ret v rds wrs,κ=>κ v rds wrs
 | .bnd x k,κ=>x.bind λa=>(k a).run M κ
 | .nat x k,κ=>x.bind λa=>(k a).run M κ
 | .rows x k,κ=>x.bind λa=>(k a).run M κ
 | .cells x k,κ=>x.bind λa=>(k a).run M κ
 | .chk b k,κ=>brn b (k.run M κ) none
 | .node x k,κ=>(M x).bind λa=>(k a).run M κ
 | .cnd a x y,κ=>(JB a).bind λt=>brn t (x.run M κ) (y.run M κ)
def yE (P:Program) (X:Ctx) (M:Node->Option Out) (o:Oper) (ρ:Operand->V) (st:jC):LX->Prop
 | .fail=>True
 | .ret v rds wrs=>zo P X o ρ ⟨v,rds,wrs⟩/\ ∀r∈rds,yI st r
 | .bnd x k=>∀a,x=some a->yE P X M o ρ st (k a)
 | .nat x k=>∀a,x=some a->yE P X M o ρ st (k a)
 | .rows x k=>∀a,x=some a->yE P X M o ρ st (k a)
 | .cells x k=>∀a,x=some a->yE P X M o ρ st (k a)
 | .chk b k=>b=true->yE P X M o ρ st k
 | .node x k=>∀out,M x=some out->yE P X M o ρ st (k out)
 | .cnd a x y=>(JB a=some true->yE P X M o ρ st x)/\(JB a=some false->yE P X M o ρ st y)
def YN:List V->LX->LX
 | [],k=>k
 | .d a::cs,k=> .chk (j9 a) (YN cs k)
 | .agg _::_,_=> .fail
 | .tup _::_,_=> .fail
 | .top::_,_=> .fail
 | _::cs,k=>YN cs k
def jdO (n:Nat) (a:A):Option (List A):=match a with | .agg ds=>if ds.length=n/\ds.all j9=true then some ds else none|_=>none
def jpL:V->Bool | .agg _=>false | .tup _=>false | .top=>false|_=>true
def jc (ds:List A) (j:Nat):A:=ds.getD j .top
def jbQ (plain:Bool) (n:Nat) (v:V) (k:List V->LX):LX:=
 if plain then (if jpL v then YN [v] (k [v]) else .fail)
 else (match v with
  | .agg cs=>if Nat.beq cs.length n then YN cs (k cs) else .fail
  | .d a=> .cells (jdO n a) λds=>k ((List.range n).map λj=> .d (jc ds j))
  | _=> .fail)
def jcD (v:V) (ds:List V):Prop:=∀(w:World) (O:Nat->Prop) (m:zu) (u:Value),relV w O m v u->jv w O m ds u.cells.toList/\jA u.cells.toList
def jkQ (ds:List V):Prop:=∀c∈ds,∀a,c = .d a->j9 a=true
section
variable {P:Program} {X:Ctx} {o:Oper} {ρ:Operand->V} {C:Cfg} {M:Node->Option Out} {st:jC}
theorem ZN {k:LX} :∀ {cs:List V},((∀c∈cs,jpL c=true)->jkQ cs->yE P X M o ρ st k)->yE P X M o ρ st (YN cs k)
 | [],h=>h (by simp) (λc hc=>by cases hc)
 | c::cs,h=>by
  cases c<;>simp only [YN]
  case agg=>trivial
  case tup=>trivial
  case top=>trivial
  case d a=>
   intro ha;refine ZN λh1 h2=>h (λc hc=> ?_) (λc hc a' e=> ?_)
   .rcases j7.1 hc with rfl|hc
    .rfl
    .exact h1 c hc
   .rcases j7.1 hc with rfl|hc
    .cases e;exact ha
    .exact h2 c hc a' e
  all_goals
   refine ZN λh1 h2=>h (λc hc=> ?_) (λc hc a' e=> ?_)
   .rcases j7.1 hc with rfl|hc
    .rfl
    .exact h1 c hc
   .rcases j7.1 hc with rfl|hc
    .cases e
    .exact h2 c hc a' e
theorem jqV {w:World} {O:Nat->Prop} {m:zu} {v:V} {u:Value} (h:relV w O m v u) (hr:jpL v=true) (hd:∀a,v = .d a->j9 a=true):u.oneCell'=true:=by
 cases v<;>simp only [jpL,Zg] at hr<;>simp only [relV] at h
 case d a=>exact je3 h (hd a rfl)
 case nil=>obtain ⟨a,rfl⟩:=h;rfl
 case fn=>obtain ⟨vs,rfl,_⟩:=h;rfl
 case ptr=>obtain ⟨b,c,n,_,rfl⟩:=h;rfl
 case row=>
  obtain ⟨hd,_,h2⟩:=h;cases hd with
  | none=>obtain ⟨a,rfl⟩:=h2;rfl
  | blk b c n=>simp only [hdr] at h2;subst h2;rfl
  | tre f b c n ks=>simp only [hdr] at h2;subst h2;rfl
  | mp b=>simp only [hdr] at h2;subst h2;rfl
 case sub=>
  obtain ⟨hd,_,h2⟩:=h;obtain ⟨a,n,c,rfl⟩:=jtp h2;rfl
 case rptr=>obtain ⟨b,c,n,_,rfl⟩:=h;rfl
 case win=>
  obtain ⟨hd,_,h⟩:=h;cases hd with
  | none=>simp only [Kb] at h;obtain ⟨_,_,a,rfl⟩:=h;rfl
  | blk b c l=>simp only [Kb] at h;obtain ⟨_,q,rfl,_⟩:=h;rfl
  | tre=>exact h.elim
  | mp=>exact h.elim
 case ub=>obtain ⟨b,rfl,_⟩:=h;rfl
theorem jaW {w:World} {O:Nat->Prop} {m:zu} :∀ {cs:List V} {us:List Value},jv w O m cs us->(∀c∈cs,jpL c=true)->jkQ cs->jA us
 | [],us,h,_,_=>by simp only [jv] at h;subst h;intro v hv;cases hv
 | c::cs,us,h,h1,h2=>by
  simp only [jv] at h;obtain ⟨v,r,rfl,g1,g2⟩:=h;intro y hy;rcases j7.1 hy with rfl|hy
  .exact jqV g1 (h1 c (by simp)) (h2 c (by simp))
  .exact jaW g2 (λc hc=>h1 c (by simp [hc])) (λc hc=>h2 c (by simp [hc])) y hy
theorem YC {plain:Bool} {n:Nat} {v:V} {k:List V->LX} (h:∀ds,jcD v ds->jkQ ds->ds.length=(if plain then 1 else n)->yE P X M o ρ st (k ds)):yE P X M o ρ st (jbQ plain n v k):=by
 unfold jbQ;split
 .rename_i hp;split
  .rename_i hr;refine ZN λh1 h2=>h [v] (λw O m u hu=> ?_) h2 (by simp [hp]);have ho:=jqV hu hr (h2 v (by simp));have hc:=cells_one ho;rw [hc];refine ⟨?_,λy hy=> ?_⟩
   .simp only [jv];exact ⟨u,[],rfl,hu,rfl⟩
   .have:y=u:=by simpa using hy
    subst this;exact ho
  .trivial
 .rename_i hp;split
  .rename_i cs;split
   .rename_i hn;refine ZN λh1 h2=>h cs (λw O m u hu=> ?_) h2 (by simp [hp,kU hn]);simp only [relV] at hu;obtain ⟨vs,rfl,g⟩:=hu;have g':jv w O m cs (Value.agg vs.toArray).cells.toList:=by simpa [Value.cells] using g
    exact ⟨g',jaW g' h1 h2⟩
   .trivial
  .rename_i a;intro ds hds;unfold jdO at hds;split at hds
   .rename_i ds';split at hds
    .rename_i hc;cases hds;obtain ⟨hl,hok⟩:=hc;have e:(List.range n).map (λj=>V.d (ds.getD j .top))=ds.map V.d:=by
      apply Ye;intro q;by_cases hq:q < n
      .have hq':q < ds.length:=by omega
       simp [jbf hq,hq',qE]
      .rw [yW (by simp;omega),yW (by simp;omega)]
     show yE P X M o ρ st (k ((List.range n).map λj=>V.d (ds.getD j .top)));rw [e];have hD:jkQ (ds.map V.d):=λc hc a' e'=>by
      obtain ⟨b,hb,rfl⟩:=ym.1 hc;cases e';exact qm.1 hok _ hb
     refine h _ (λw O m u hu=> ?_) hD (by simp [hp,hl]);simp only [relV,rel] at hu;obtain ⟨vs,rfl,g⟩:=hu;have g2:∀ {ds:List A} {vs:List Value},jG w O ds vs->jv w O m (ds.map V.d) vs:=by
      intro ds;induction ds with
      | nil=>intro vs h;simpa [jG,jv] using h
      | cons d ds ih=>
       intro vs h;simp only [jG] at h;obtain ⟨v,r,rfl,e1,e2⟩:=h;simp only [yH,jv,relV];exact ⟨v,r,rfl,e1,ih e2⟩
     have g':jv w O m (ds.map V.d) (Value.agg vs.toArray).cells.toList:=by simpa [Value.cells] using g2 g
     exact ⟨g',jaW g' (λc hc=>by obtain ⟨b,_,rfl⟩:=ym.1 hc;rfl) hD⟩
    .cases hds
   .cases hds
  .trivial
theorem jcS {st0:jC} :∀ {cs:List V} {as:List A} {r:List Rd} {ws:List Wr},JJ st0 cs=some (as,r,ws)->jkQ cs->as.all j9=true/\as.length=cs.length
 | [],as,r,ws,h,_=>by simp only [JJ,kL,qB] at h;obtain ⟨rfl,_⟩:=h;simp
 | c::cs,as,r,ws,h,hd=>by
  cases c<;>simp only [JJ,reduceCtorEq] at h
  case d a=>
   split at h
   .rename_i h1;cases h;have:=jcS h1 λc hc=>hd c (by simp [hc]);exact ⟨by simp only [yC,hd (.d a) (by simp) a rfl,this.1,jhb],by simp [this.2]⟩
   .cases h
  case nil k=>
   split at h
   .rename_i h1;cases h;have:=jcS h1 λc hc=>hd c (by simp [hc]);exact ⟨by simp only [yC,j9,this.1,jhb],by simp [this.2]⟩
   .cases h
  case row id=>
   split at h
   .rename_i h1;have:=jcS h1 λc hc=>hd c (by simp [hc]);split at h
    .cases h;exact ⟨by simp only [yC,j9,this.1,jhb],by simp [this.2]⟩
    .cases h;exact ⟨by simp only [yC,j9,this.1,jhb],by simp [this.2]⟩
    .cases h
   .cases h
theorem jCL {t:TypeId} {x:Operand} {ev:Operand->Value} (ho:o.op = .box t x) (w:World):(execOp ev o).run P w = .ok (.value (.pointer (some ⟨w.heap.size,0,none⟩))) (w.alloc (.cells (ev x).cells t)):=by
 simp [execOp,ho,Instr.box,newVar,newRow]
theorem zo.box {t:TypeId} {x:Operand} (ho:o.op = .box t x) {v:V} (hv:∀(w:World) (O:Nat->Prop) (m:zu) (u:Value),relV w O m (ρ x) u->relV w O m v u) {ds:List V} (hc:jcD v ds) {nid:Nat} :zo P X o ρ ⟨.ptr nid 0,[.fresh nid],[.obj nid (.box ds)]⟩:=by
 intro w O0 m st ev hs hg hr _hc;obtain ⟨h1,h2⟩:=hc _ _ _ _ (hv _ _ _ _ (hr x (by simp [ho,Op.operands])));rw [jCL ho];exact jgY hs (Kw w _) (by rw [JK];omega) (hg (.fresh nid) (by simp)) (heap_alloc_new w _) h2 h1
theorem zo.alloc {t:TypeId} (ho:o.op = .alloc t) {i:TI} (hi:TI.ok P t i) {ds:List V} (hz:∀(w:World) (O:Nat->Prop) (m:zu),jv w O m ds i.zero.cells.toList) (hone:jA i.zero.cells.toList) {nid:Nat} :
  zo P X o ρ ⟨.ptr nid 0,[.fresh nid],[.obj nid (.box ds)]⟩:=by
 intro w O0 m st ev hs hg hr _hc;have hrun:(execOp ev o).run P w = .ok (.value (.pointer (some ⟨w.heap.size,0,none⟩))) (w.alloc (.cells i.zero.cells t)):=by
  simp [execOp,ho,Instr.alloc,hi.run_zero w,newVar,newRow]
 rw [hrun];exact jgY hs (Kw w _) (by rw [JK];omega) (hg (.fresh nid) (by simp)) (heap_alloc_new w _) hone (hz _ _ _)
theorem zo.indexRow {t:TypeId} {x ix:Operand} (ho:o.op = .indexAddr t x ix) {e:Nat} (ht:P.underlying t=some (.slice e)) {i:TI} (hi:TI.ok P e i) {id len n:Nat} {b:A} (hx:ρ x = .row id) (hn:dat (ρ ix)=some b) (h:Q4 len b=some n) :
  zo P X o ρ ⟨.rptr id n i.size 0,[.len id i.size len],[]⟩:=by
 refine zo.same λw O0 m st ev hs hg hr=> ?_;have hx':=hr x (by simp [ho,Op.operands]);have hn':=kQ hn (hr ix (by simp [ho,Op.operands]));rw [hx] at hx';obtain ⟨kk,z,rfl,h0,h2,rfl⟩:=jjl h;obtain ⟨xs,g1,rfl⟩:=hg _ (zi.2 rfl);obtain ⟨hd,q1,q2,q3⟩:=jjJ hs g1 hx';simp only [rel] at hn';cases hd with
 | none=>simp only [rowOk] at q3;subst q3;simp at h2;omega
 | blk b c n=>
  obtain ⟨rfl,_⟩:=q3;simp only [hdr] at q2;have hb:0<=z/\z < (xs.length:Int):=⟨h0,h2⟩;refine ⟨.pointer (some ⟨b,z.toNat * i.size,none⟩),?_,?_⟩
  .simp only [execOp,ho,Instr.indexAt,q2,hn',asIntOf,zs,zD,zn,kP ht,hb,and_self,Jm,hi.run_sizeOf w,Km,Sem.run_ite,Jg]
  .simp only [relV];exact ⟨_,b,q1,rfl,by simp⟩
 | tre=>exact q3.elim
 | mp=>exact q3.elim
theorem zo.sliceRow {t:TypeId} {x:Operand} {lo hi:Option Operand} (ho:o.op = .slice t x lo hi none) {e:Nat} (ht:P.underlying t=some (.slice e)) {i:TI} (hi':TI.ok P e i) {id:Nat} {xs:List (List A)} (hx:ρ x = .row id)
  {alo ahi:Option A} (hlo:∀y,lo=some y-> ∃a,alo=some a/\dat (ρ y)=some a) (hlo0:lo=none->alo=none) (hhi:∀y,hi=some y-> ∃a,ahi=some a/\dat (ρ y)=some a) (hhi0:hi=none->ahi=none)
  {r:A} (h:zZ i.size (.sl i.size xs) alo ahi=some r):zo P X o ρ ⟨.d r,[.obj id (.row i.size xs)],[.obj id (.fro i.size xs)]⟩:=by
 intro w O0 m st ev hs hg hr _hc;have hid:st id = .row i.size xs:=hg _ (zi.2 rfl);have hx':=hr x (by simp [ho,Op.operands]);rw [hx] at hx';have hs1:=hs.freeze hid;have hsub:∀b,Ow O0 m (upd st id (.fro i.size xs)) b->Ow O0 m st b:=jfG λh=>by cases h
 have hdata:rel w (Ow O0 m (upd st id (.fro i.size xs))) (.sl i.size xs) (ev x):=by
  refine ZG hs1 (id:=id) (jJ _ _ _) ?_;simp only [relV] at hx' ⊢;exact hx'
 have hd:∀y,y∈o.op.operands-> ∀a,dat (ρ y)=some a->rel w (Ow O0 m (upd st id (.fro i.size xs))) a (ev y):=λy hy a ha=>zS (MonoW.sub hsub) _ _ (kQ ha (hr y hy));obtain ⟨z,h1,h2⟩:=jlL (P:=P) (w:=w) (O:=Ow O0 m (upd st id (.fro i.size xs))) (ev:=ev) ho ht hi' hdata (alo:=alo) (ahi:=ahi)
  (λy hy=>by obtain ⟨a,e1,e2⟩:=hlo y hy;exact ⟨a,e1,hd y (by simp [ho,Op.operands,hy]) a e2⟩) hlo0 (λy hy=>by obtain ⟨a,e1,e2⟩:=hhi y hy;exact ⟨a,e1,hd y (by simp [ho,Op.operands,hy]) a e2⟩) hhi0 h
 rw [h1];exact ⟨m,Chg.ghost λh=>(by cases h),hs1,by simp only [relV];exact h2⟩
end
end
noncomputable section
def qj (xs:List (List A)) (off:Nat) (ys:List (List A)):List (List A):=over xs off ys
def Ja (xs:List (List A)) (off n:Nat):List (List A):=(xs.drop off).take n
def yq (xs:List (List A)) (off:Nat):Nat:=xs.length - off
def yU (xs:List (List A)):Nat:=xs.length
def jwh (ys:List (List A)) (n:Nat):A:=vi (Nat.min ys.length n)
def jlz (ys:List (List A)) (n:Nat):List (List A):=ys.take n
def jqE (off n:Nat) (ys xs:List (List A)):Bool:=decide (off+n+ys.length<=xs.length)
def jCl (a b:Nat):Nat:=a+b
def zf (a b:Nat):Nat:=a - b
def pB (d top:Nat) (x:Option A):Option Nat:=
 match x with
 | none=>if d<=top then some d else none
 | some (.val (.int _ z))=>if 0<=z/\z<=(top:Int) then some z.toNat else none
 | _=>none
def pLo (top:Nat):Option A->Option Nat
 | none=>some 0
 | some a=>pB 0 top (some a)
theorem jz3 (top:Nat) (x:Option A):pLo top x=pB 0 top x:=by cases x<;>simp [pLo,pB]
def yc (a:A):Nat:=match a with | .val (.int _ z)=>z.toNat|_=>0
theorem jKt (n:Nat):yc (nA n)=n:=rfl
structure WP where
 id:Nat
 k:Nat
 off:Nat
 n:Nat
 xs:List (List A)
def jgk (st:jC):V->Option WP
 | .row id=>(match st id with | .row k xs=>some ⟨id,k,0,yU xs,xs⟩|_=>none)
 | .win id k off n=>(match st id with | .row k' xs=>if Nat.beq k' k then some ⟨id,k',off,n,xs⟩ else none|_=>none)
 | _=>none
def jpK (op:BinOp):Bool:=match op with | .neq=>true|_=>false
def jFf (op:BinOp):Bool:=match op with | .eql=>true | .neq=>true|_=>false
section
variable {P:Program} {X:Ctx} {o:Oper} {ρ:Operand->V} {C:Cfg}
theorem jDa {w:World} {O:Nat->Prop} {k:Nat} {xs:List (List A)} {hd:Hd} {v:Value} (h:rowOk w O k xs hd) (hv:hdr hd v):Kb k 0 xs.length hd v:=by
 cases hd with
 | tre=>exact h.elim
 | mp=>exact h.elim
 | none=>simp only [rowOk] at h;simp only [hdr] at hv;subst h;exact ⟨rfl,rfl,hv⟩
 | blk b c l=>
  obtain ⟨rfl,h1,_⟩:=h;simp only [hdr] at hv;exact ⟨by omega,0,by simpa using hv,λ_=>by simp⟩
theorem K1 {st:jC} {v:V} {p:WP} (h:jgk st v=some p):st p.id = .row p.k p.xs/\
  ∀(w:World) (O0:Nat->Prop) (m:zu) (st':jC) (u:Value),Sto X w O0 m st'->yI st' (.len p.id p.k p.xs.length)->relV w (Ow O0 m st') m v u->
   ∃hd xs',m p.id=some hd/\st' p.id = .row p.k xs'/\xs'.length=p.xs.length/\Kb p.k p.off p.n hd u/\rowOk w (Ow O0 m st') p.k xs' hd:=by
 unfold jgk at h;split at h
 .rename_i id;split at h
  .rename_i k xs hst;cases h;refine ⟨hst,λw O0 m st' u hs hg hr=> ?_⟩;obtain ⟨xs',g1,g2⟩:=hg;obtain ⟨hd,q1,q2,q3⟩:=jjJ hs g1 hr;exact ⟨hd,xs',q1,g1,g2,by show Kb k 0 xs.length hd u;rw [<-g2];exact jDa q3 q2,q3⟩
  .cases h
 .rename_i id k off n;split at h
  .rename_i k' xs hst;split at h
   .rename_i hk;have hk:=kU hk;subst hk;cases h;refine ⟨hst,λw O0 m st' u hs hg hr=> ?_⟩;obtain ⟨xs',g1,g2⟩:=hg;simp only [relV] at hr;obtain ⟨hd,q1,q2⟩:=hr;have ho:=hs.obj id;rw [g1] at ho;obtain ⟨hd',e1,e2⟩:=ho;rw [q1] at e1;cases e1;exact ⟨hd,xs',q1,g1,g2,q2,e2⟩
   .cases h
  .cases h
 .cases h
theorem jCV {w:World} {O:Nat->Prop} {k off n:Nat} {xs:List (List A)} {hd:Hd} {v:Value} (h:rowOk w O k xs hd) (hv:Kb k off n hd v):jc3 w O k ((xs.drop off).take n) v:=by
 cases hd with
 | tre=>exact h.elim
 | mp=>exact h.elim
 | none=>
  simp only [rowOk] at h;simp only [Kb] at hv;obtain ⟨rfl,rfl,a,rfl⟩:=hv;subst h;exact ⟨a,0,[],by simp,by simp [jG],(λv h=>by cases h),by simp,Or.inl (by simp)⟩
 | blk b cap l=>
  obtain ⟨rfl,h1,h2,h3,c,T,h4,h5,h6,h7⟩:=h;simp only [Kb] at hv;obtain ⟨hl,q,rfl,hq⟩:=hv;have hlen:((xs.drop off).take n).length=n:=by simp;omega
  have hr:=JX (w:=w) (O:=O) (b:=b) (off:=0) h3 h7 ((Reads.block h4).take _) h6;have hr:=Yw n (Yv off hr (by omega));obtain ⟨vs,g1,g2,g4,g3⟩:=jaJ hr;refine ⟨_,cap - off,vs,by rw [hlen],g1,g4,g3,?_⟩;by_cases hn:n=0
  .subst hn;left;simp
  .right;have hqe:=hq (by omega);subst hqe;exact ⟨b,off * k,rfl,by simpa using g2⟩
theorem Ym {α:Type} {k:Nat} :∀(xs:List (List α)) (n:Nat),(∀y∈xs,y.length=k)->(xs.take n).flatten=xs.flatten.take (n * k)
 | [],n,_=>by simp
 | x::xs,0,_=>by simp
 | x::xs,n+1,h=>by
  have hx:=h x (by simp);rw [jgn,J5,J5,Ym xs n λy hy=>h y (by simp [hy]),show (n+1) * k=x.length+n * k by rw [qf];omega,List.take_length_add_append]
theorem jeB {α:Type} {k:Nat} :∀(xs:List (List α)) (n:Nat),(∀y∈xs,y.length=k)->(xs.drop n).flatten=xs.flatten.drop (n * k)
 | [],n,_=>by simp
 | x::xs,0,_=>by simp
 | x::xs,n+1,h=>by
  have hx:=h x (by simp);rw [jgr,J5,jeB xs n λy hy=>h y (by simp [hy]),show (n+1) * k=x.length+n * k by rw [qf];omega,List.drop_length_add_append]
theorem jnm {α:Type} {k:Nat} {xs ys:List (List α)} {off:Nat} (hx:∀y∈xs,y.length=k) (hy:∀y∈ys,y.length=k):(over xs off ys).flatten=over xs.flatten (off * k) ys.flatten:=by
 unfold over;rw [List.flatten_append,List.flatten_append,Ym xs off hx,jeB xs _ hx,qv hy,qf]
theorem jn9 (P:Program) {w:World} {O0:Nat->Prop} {m:zu} {st:jC} (hs:Sto X w O0 m st) {id k b c l:Nat} {xs:List (List A)} (hid:st id = .row k xs) (hm:m id=some (.blk b c l)) {ys:List (List A)} {us:List Value}
  (hu:jG w (Ow O0 m st) ys.flatten us) (hone:jA us) (hk:∀y∈ys,y.length=k) {off:Nat} (hl:off+ys.length<=xs.length) :
  ∃W,(storeCells ⟨b,off * k,none⟩ us).run P w = .ok () W/\Chg w m st W m (upd st id (.row k (over xs off ys)))/\Sto X W O0 m (upd st id (.row k (over xs off ys))):=by
 have hob:=hs.obj id;rw [hid] at hob;obtain ⟨hd,q1,q2⟩:=hob;rw [hm] at q1;cases q1;obtain ⟨q0,q6,q7,q8,cc,T,q3,q9,q4,q5⟩:=q2;have l1:=kC hu;rw [qv hk] at l1;have hfit:off * k+ys.length * k<=xs.length * k:=by rw [<-qf];exact jcC k hl
 have hcap:xs.length * k<=cc.size:=by rw [q9];exact jcC k q6
 obtain ⟨W,hst,w1,w2,w3,w4,w5,w6⟩:=ja2 P q3 (off * k) us (by rw [l1];omega) hone
 have hal:(st id).alive=true:=by rw [hid];rfl
 obtain ⟨k1,k2⟩:=jf8 hs hal hm (o':= .row k (over xs off ys)) rfl w1 w2 w3 w4 w5 λhmono=>by
  have hol:=ZU (cs:=xs) (ds:=ys) hl;refine ⟨_,hm,by rw [hol];exact q0,by rw [hol];exact q6,q7,?_,_,T,w6,?_,?_,?_⟩
  .intro y hy;unfold over at hy;rcases zh.1 hy with hy|hy
   .rcases zh.1 hy with hy|hy
    .exact q8 y (jgo hy)
    .exact hk y hy
   .exact q8 y (jj9 hy)
  .rw [List.size_toArray,ZU (by simp only [jfh];omega),jfh];exact q9
  .rw [hol];rw [jcU _ _ _ _ (by rw [l1];exact hfit) (by simpa using hcap)];exact jA.over q4 hone _
  .rw [hol,jnm q8 hk];rw [jcU _ _ _ _ (by rw [l1];exact hfit) (by simpa using hcap)];exact kZ hmono _ _ (jcP q5 hu)
 exact ⟨W,hst,k1,k2⟩
theorem Ys {d top:Nat} {x:Option A} {n:Nat} (h:pB d top x=some n):n<=top/\((x=none/\n=d)\/ ∃k,x=some (.val (.int k n))):=by
 unfold pB at h;split at h
 .split at h
  .cases h;exact ⟨by assumption,Or.inl ⟨rfl,rfl⟩⟩
  .cases h
 .rename_i k z;split at h
  .rename_i hz;cases h;refine ⟨by omega,Or.inr ⟨k,?_⟩⟩;rw [show ((z.toNat:Nat):Int)=z by omega]
  .cases h
 .cases h
theorem jcn {ev:Operand->Value} {w:World} {O:Nat->Prop} {lo hi:Option Operand} {alo ahi:Option A} {len cap top:Nat} (hlo:∀y,lo=some y-> ∃a,alo=some a/\rel w O a (ev y)) (hlo0:lo=none->alo=none) (hhi:∀y,hi=some y-> ∃a,ahi=some a/\rel w O a (ev y)) (hhi0:hi=none->ahi=none)
  {l h:Nat} (hh:pB len top ahi=some h) (hl:pB 0 h alo=some l) (ht:top<=cap) :
  (Instr.sliceBounds true len cap (lo.map ev) (hi.map ev) none).run P w = .ok (l,h,cap) w:=by
 obtain ⟨h1,h2⟩:=Ys hh;obtain ⟨l1,l2⟩:=Ys hl;have el:∀y,lo=some y-> ∃k,ev y = .int k l:=by
  intro y hy;obtain ⟨a,rfl,ha⟩:=hlo y hy;rcases l2 with ⟨l2,_⟩|⟨k,l2⟩
  .cases l2
  .cases l2;simp only [rel] at ha;exact ⟨_,ha⟩
 have el0:lo=none->l=0:=λhy=>by
  rcases l2 with ⟨_,l2⟩|⟨k,l2⟩
  .exact l2
  .rw [hlo0 hy] at l2;cases l2
 have eh:∀y,hi=some y-> ∃k,ev y = .int k h:=by
  intro y hy;obtain ⟨a,rfl,ha⟩:=hhi y hy;rcases h2 with ⟨h2,_⟩|⟨k,h2⟩
  .cases h2
  .cases h2;simp only [rel] at ha;exact ⟨_,ha⟩
 have eh0:hi=none->h=len:=λhy=>by
  rcases h2 with ⟨_,h2⟩|⟨k,h2⟩
  .exact h2
  .rw [hhi0 hy] at h2;cases h2
 have hc:h<=cap:=by omega
 cases lo with
 | none=>
  have:=el0 rfl;subst this;cases hi with
  | none=>
   have:=eh0 rfl;subst this;simp [Instr.sliceBounds]
  | some z=>
   obtain ⟨k,hz⟩:=eh z rfl;simp [Instr.sliceBounds,Instr.sliceBound,hz,asIntOf,hc]
 | some y=>
  obtain ⟨k,hy⟩:=el y rfl;cases hi with
  | none=>
   have:=eh0 rfl;subst this;simp [Instr.sliceBounds,Instr.sliceBound,hy,asIntOf,l1]
  | some z=>
   obtain ⟨k',hz⟩:=eh z rfl;simp [Instr.sliceBounds,Instr.sliceBound,hy,hz,asIntOf,hc,l1]
theorem zo.winSlice {t:TypeId} {x:Operand} {lo hi:Option Operand} (ho:o.op = .slice t x lo hi none) {e:Nat} (ht:P.underlying t=some (.slice e)) {i:TI} (hi':TI.ok P e i) {st0:jC} {p:WP} (hp:jgk st0 (ρ x)=some p) (hk:p.k=i.size)
  {alo ahi:Option A} (hlo:∀y,lo=some y-> ∃a,alo=some a/\dat (ρ y)=some a) (hlo0:lo=none->alo=none) (hhi:∀y,hi=some y-> ∃a,ahi=some a/\dat (ρ y)=some a) (hhi0:hi=none->ahi=none)
  {l h:Nat} (hh:pB p.n (p.xs.length - p.off) ahi=some h) (hl:pB 0 h alo=some l) :
  zo P X o ρ ⟨.win p.id p.k (p.off+l) (h - l),[.len p.id p.k p.xs.length],[]⟩:=by
 refine zo.same λw O0 m st ev hs hg hr=> ?_;have hx':=hr x (by simp [ho,Op.operands]);obtain ⟨hd,xs',e1,e2,e3,e4,e5⟩:=(K1 (X:=X) hp).2 w O0 m st _ hs (hg _ (zi.2 rfl)) hx';have hlo':∀y,lo=some y-> ∃a,alo=some a/\rel w (Ow O0 m st) a (ev y):=λy hy=>by
  obtain ⟨a,f1,f2⟩:=hlo y hy;exact ⟨a,f1,kQ f2 (hr y (by simp [ho,Op.operands,hy]))⟩
 have hhi'':∀y,hi=some y-> ∃a,ahi=some a/\rel w (Ow O0 m st) a (ev y):=λy hy=>by
  obtain ⟨a,f1,f2⟩:=hhi y hy;exact ⟨a,f1,kQ f2 (hr y (by simp [ho,Op.operands,hy]))⟩
 obtain ⟨b1,_⟩:=Ys hh;obtain ⟨b2,_⟩:=Ys hl;cases hd with
 | tre=>exact e4.elim
 | mp=>exact e4.elim
 | none=>
  simp only [rowOk] at e5;simp only [Kb] at e4;obtain ⟨q1,q2,a,q3⟩:=e4;have hx0:p.xs.length=0:=by rw [<-e3,e5];rfl
  have hh0:h=0:=by omega
  subst hh0;have hl0:l=0:=by omega
  subst hl0;rw [q2] at hh;have hb:=jcn (P:=P) (w:=w) (ev:=ev) (cap:=0) hlo' hlo0 hhi'' hhi0 hh hl (by omega);refine ⟨.slice a 0 0,?_,?_⟩
  .simp [execOp,ho,Instr.sliceAt,q3,kP ht,Instr.slice,hb,hi'.run_sizeOf w]
  .simp only [relV];exact ⟨_,e1,by simp [q1],by simp,a,rfl⟩
 | blk b c ll=>
  obtain ⟨f1,f2,f3,f4,_⟩:=e5;simp only [Kb] at e4;obtain ⟨q1,q,q3,q4⟩:=e4;have hb:=jcn (P:=P) (w:=w) (ev:=ev) (cap:=c - p.off) hlo' hlo0 hhi'' hhi0 hh hl (by omega);by_cases hcl:c - p.off=l
  .refine ⟨.slice (some ⟨b,q,none⟩) (h - l) (c - p.off - l),?_,?_⟩
   .rw [hcl] at hb;simp [execOp,ho,Instr.sliceAt,q3,kP ht,Instr.slice,hb,hi'.run_sizeOf w,hcl]
   .simp only [relV];exact ⟨_,e1,by omega,q,by congr 1;omega,λhlt=>by omega⟩
  .refine ⟨.slice (some ⟨b,q+l * i.size,none⟩) (h - l) (c - p.off - l),?_,?_⟩
   .simp [execOp,ho,Instr.sliceAt,q3,kP ht,Instr.slice,hb,hi'.run_sizeOf w,hcl,Km]
   .simp only [relV];refine ⟨_,e1,by omega,_,by congr 1;omega,λhlt=> ?_⟩;rw [q4 (by omega),<-hk,qf]
theorem zo.win3 {t:TypeId} {x l h mx:Operand} (ho:o.op = .slice t x (some l) (some h) (some mx)) {e:Nat} (ht:P.underlying t=some (.slice e)) {i:TI} (hi':TI.ok P e i) {st0:jC} {p:WP} (hp:jgk st0 (ρ x)=some p)
  {al ah am:A} (hl:dat (ρ l)=some al) (hh:dat (ρ h)=some ah) (hm:dat (ρ mx)=some am) {ln hn mn:Nat} (b1:pB 0 (p.xs.length - p.off) (some am)=some mn) (b2:pB 0 mn (some ah)=some hn) (b3:pB 0 hn (some al)=some ln) :
  zo P X o ρ ⟨.top,[.len p.id p.k p.xs.length],[]⟩:=by
 refine zo.same λw O0 m st ev hs hg hr=> ?_;have hx':=hr x (by simp [ho,Op.operands]);obtain ⟨hd,xs',e1,e2,e3,e4,e5⟩:=(K1 (X:=X) hp).2 w O0 m st _ hs (hg _ (zi.2 rfl)) hx';have v1:=kQ hl (hr l (by simp [ho,Op.operands]));have v2:=kQ hh (hr h (by simp [ho,Op.operands]));have v3:=kQ hm (hr mx (by simp [ho,Op.operands]));obtain ⟨c1,d1⟩:=Ys b1;obtain ⟨c2,d2⟩:=Ys b2;obtain ⟨c3,d3⟩:=Ys b3;obtain ⟨k1,d1⟩:=d1.resolve_left (λh=>by cases h.1);obtain ⟨k2,d2⟩:=d2.resolve_left (λh=>by cases h.1);obtain ⟨k3,d3⟩:=d3.resolve_left (λh=>by cases h.1);cases d1;cases d2;cases d3;simp only [rel] at v1 v2 v3;obtain ⟨a,n,c,hv,hc⟩:∃a n c,ev x = .slice a n c/\p.xs.length - p.off<=c:=by
  cases hd with
  | tre=>exact e4.elim
  | mp=>exact e4.elim
  | none=>
   simp only [rowOk] at e5;simp only [Kb] at e4;obtain ⟨q1,q2,a,q3⟩:=e4;refine ⟨a,0,0,q3,?_⟩;rw [<-e3,e5];simp
  | blk b c ll=>
   obtain ⟨f1,f2,_⟩:=e5;simp only [Kb] at e4;obtain ⟨_,q,q3,_⟩:=e4;exact ⟨_,_,_,q3,by omega⟩
 have hmc:mn<=c:=by omega
 have hb:(Instr.sliceBounds true n c (some (ev l)) (some (ev h)) (some (ev mx))).run P w = .ok (ln,hn,mn) w:=by
  simp [Instr.sliceBounds,Instr.sliceBound,v1,v2,v3,asIntOf,hmc,c2,c3]
 refine ⟨_,by simp [execOp,ho,Instr.sliceAt,hv,kP ht,Instr.slice,hb,hi'.run_sizeOf w];rfl,by simp [relV]⟩
theorem zo.winIndex {t:TypeId} {x ix:Operand} (ho:o.op = .indexAddr t x ix) {e:Nat} (ht:P.underlying t=some (.slice e)) {i:TI} (hi:TI.ok P e i) {id off n j:Nat} {b:A} (hx:ρ x = .win id i.size off n) (hn:dat (ρ ix)=some b) (h:Q4 n b=some j)
  {xs:List (List A)} :zo P X o ρ ⟨.rptr id (off+j) i.size 0,[.len id i.size xs.length],[]⟩:=by
 refine zo.same λw O0 m st ev hs hg hr=> ?_;have hx':=hr x (by simp [ho,Op.operands]);have hn':=kQ hn (hr ix (by simp [ho,Op.operands]));rw [hx] at hx';obtain ⟨kk,z,rfl,h0,h2,rfl⟩:=jjl h;obtain ⟨xs',g1,g2⟩:=hg _ (zi.2 rfl);simp only [relV] at hx';obtain ⟨hd,q1,q2⟩:=hx';have ho':=hs.obj id;rw [g1] at ho';obtain ⟨hd',e1,e2⟩:=ho';rw [q1] at e1;cases e1;simp only [rel] at hn';cases hd with
 | tre=>exact q2.elim
 | mp=>exact q2.elim
 | none=>simp only [Kb] at q2;omega
 | blk bb c l=>
  obtain ⟨rfl,f1,_⟩:=e2;simp only [Kb] at q2;obtain ⟨r1,q,r2,r3⟩:=q2;have hqe:=r3 (by omega);subst hqe;have hb:0<=z/\z < (n:Int):=⟨h0,h2⟩;refine ⟨.pointer (some ⟨bb,off * i.size+z.toNat * i.size,none⟩),?_,?_⟩
  .simp only [execOp,ho,Instr.indexAt,r2,hn',asIntOf,zs,zD,zn,kP ht,hb,and_self,Jm,hi.run_sizeOf w,Km,Sem.run_ite]
  .simp only [relV];exact ⟨_,bb,q1,rfl,by rw [qf];simp⟩
theorem Qe (z:Array Value):∀n,(Builtin.zeroCells z n).toList=(List.replicate n z.toList).flatten
 | 0=>by simp [Builtin.zeroCells]
 | n+1=>by
  have ih:=Qe z n;rw [Qf,J5,<-ih];unfold Builtin.zeroCells;rw [jd0,jd0,jkb,jkb,show (n+1) * z.size=z.size+n * z.size by rw [qf];omega,List.range_add,zz,Jf];congr 1
  .refine Ye λj=> ?_;rw [yu];by_cases h:j < z.size
   .rw [jbf h];simp [Nat.mod_eq_of_lt h,h]
   .rw [yW (by simpa using h),yW (by simpa using h)];rfl
  .refine jko λj _=> ?_;simp
theorem jdV {st:jC} {id:Nat} {o':Obj} :kV st [.obj id o']=upd st id o':=rfl
theorem upd_same {st:jC} {id:Nat} {o':Obj} (h:st id=o'):upd st id o'=st:=by
 funext q;by_cases e:q=id
 .subst e;rw [jJ,h]
 .rw [upd_ne _ _ e]
theorem zo.winClear {x:Operand} {xs0:Array Operand} {ts:Array TypeId} {t:TypeId} (ho:o.op = .call { callee:= .builtin .clear,args:=xs0,argTypes:=ts }) (hxs:xs0 = #[x]) (hts:ts = #[t])
  {e:Nat} (ht:P.underlying t=some (.slice e)) {i:TI} (hi:TI.ok P e i) {st0:jC} {p:WP} (hp:jgk st0 (ρ x)=some p) (hk:p.k=i.size) {z:List A} (hz:∀(w:World) (O:Nat->Prop),jG w O z i.zero.cells.toList) (hzo:z.all j9=true) :
  zo P X o ρ ⟨.tup [],[.obj p.id (.row p.k p.xs)],[.obj p.id (.row p.k (qj p.xs p.off (List.replicate p.n z)))]⟩:=by
 intro w O0 m st ev hs hg hr _hc;have hx':=hr x (by simp [ho,Op.operands,Call.operands,hxs]);have hid:st p.id = .row p.k p.xs:=hg _ (zi.2 rfl);obtain ⟨hd,xs',e1,e2,e3,e4,e5⟩:=(K1 (X:=X) hp).2 w O0 m st _ hs ⟨p.xs,hid,rfl⟩ hx';rw [hid] at e2;cases e2;obtain ⟨jj,hj,j1,j2,j3⟩:=hi.some_info;have hrun:∀v' w',(Builtin.clear_ ts o.type #[ev x]).run P w = .ok v' w'->(execOp ev o).run P w = .ok (.value v') w':=by
  intro v' w' h;subst hxs;simp [execOp,ho,resolve,invoke,builtin,h]
 have hnil:p.n=0->(Builtin.clear_ ts o.type #[ev x]).run P w = .ok (.tuple #[]) w/\kV st [.obj p.id (.row p.k (qj p.xs p.off (List.replicate p.n z)))]=st:=by
  intro h0;constructor
  .subst hts;cases hd with
   | tre=>exact e4.elim
   | mp=>exact e4.elim
   | none=>simp only [Kb] at e4;obtain ⟨_,_,a,q3⟩:=e4;cases a<;>simp [Builtin.clear_,kP ht,q3]
   | blk b c l=>simp only [Kb] at e4;obtain ⟨_,q,q3,_⟩:=e4;simp [Builtin.clear_,kP ht,q3,h0]
  .rw [h0,jdV];exact upd_same (by rw [hid];simp [qj,over])
 by_cases h0:p.n=0
 .obtain ⟨a1,a2⟩:=hnil h0;rw [hrun _ _ a1];refine ⟨m,?_,?_,?_⟩
  .rw [a2];exact Chg.refl _ _ _
  .rw [a2];exact hs
  .simp only [relV];exact ⟨[],rfl,by simp [jv]⟩
 .cases hd with
  | tre=>exact e4.elim
  | mp=>exact e4.elim
  | none=>simp only [Kb] at e4;omega
  | blk b c l=>
   have e5':=e5;obtain ⟨rfl,f1,f2,f3,_⟩:=e5;simp only [Kb] at e4;obtain ⟨q1,q,q3,q4⟩:=e4;have hqe:=q4 (by omega);subst hqe;have hzl:z.length=i.size:=by rw [<-kC (hz w (Ow O0 m st))];simpa using hi.zsize
   have hrep:∀n,jG w (Ow O0 m st) (List.replicate n z).flatten (List.replicate n i.zero.cells.toList).flatten:=by
    intro n;induction n with
    | zero=>simp [jG]
    | succ n ih=>rw [Qf,Qf,J5,J5];exact zy (hz _ _) ih
   have hcells:(Builtin.zeroCells i.zero.cells p.n).toList=(List.replicate p.n i.zero.cells.toList).flatten:=by
    exact Qe _ _
   have hone:jA (List.replicate p.n i.zero.cells.toList).flatten:=by
    have h1:∀ {as:List A} {us:List Value},jG w (Ow O0 m st) as us->as.all j9=true->jA us:=by
     intro as;induction as with
     | nil=>intro us h _;simp only [jG] at h;subst h;intro v hv;cases hv
     | cons a as ih=>
      intro us h hk;simp only [jG,yC,ju] at h hk;obtain ⟨v,t,rfl,g1,g2⟩:=h;intro y hy;rcases j7.1 hy with rfl|hy
      .exact je3 g1 hk.1
      .exact ih g2 hk.2 y hy
    intro v hv;obtain ⟨l,hl,hv⟩:=jkc.1 hv;rw [jgs hl] at hv;exact h1 (hz w (Ow O0 m st)) hzo v hv
   obtain ⟨W,hst,k1,k2⟩:=jn9 P hs hid e1 (ys:=List.replicate p.n z) (hrep p.n) hone (λy hy=>by rw [jgs hy,hzl,hk]) (off:=p.off) (by simpa using q1);have hcl:(Builtin.clear_ ts o.type #[ev x]).run P w = .ok (.tuple #[]) W:=by
    subst hts;have hst':(storeCells ⟨b,p.off * p.k,none⟩ (Builtin.zeroCells i.zero.cells p.n).toList).run P w = .ok () W:=by rw [hcells];exact hst
    simp [Builtin.clear_,kP ht,q3,zeroValue,typeInfo,hj,j3,hst']
   rw [hrun _ _ hcl];exact ⟨m,k1,k2,by simp only [relV];exact ⟨[],rfl,by simp [jv]⟩⟩
theorem zo.nilEq {op:BinOp} {t u:TypeId} {x y:Operand} (ho:o.op = .binOp op t x y u) (hop:jFf op=true) (hy:jnq y=true) {e:Nat} (ht:P.underlying t=some (.slice e)) {rds:List Rd} {N:Nat}
  (hv:∀(w:World) (O0:Nat->Prop) (m:zu) (st:jC) (v:Value),Sto X w O0 m st->(∀r∈rds,yI st r)->relV w (Ow O0 m st) m (ρ x) v-> ∃a n c,v = .slice a n c/\(N≠0->a.isNone=false)):zo P X o ρ ⟨.ub N (jpK op),rds,[]⟩:=by
 refine zo.sameC λw O0 m st ev hs hg hr hc=> ?_;obtain ⟨a,n,c,hx,hN⟩:=hv w O0 m st _ hs hg (hr x (by simp [ho,Op.operands]));have hy':ev y = .slice none 0 0:=by
  unfold jnq at hy;split at hy
  .exact hc _
  .cases hy
 have hd:∀(d:Nat) (w:World),(Op.equalIn (d+1) t (.slice a n c) (.slice none 0 0)).run P w = .ok a.isNone w:=by
  intro d w;cases a<;>simp [Op.equalIn,kP ht]
 have he:=hd 9999;cases op<;>simp only [jFf,Zg] at hop
 .refine ⟨.bool a.isNone,?_,by simp only [relV,jpK];exact ⟨a.isNone,by simp,hN⟩⟩
  simp only [execOp,ho,hx,hy',eqGuard,binOp,Op.equal,Op.maxDepth];simp [he]
 .refine ⟨.bool !a.isNone,?_,by simp only [relV,jpK];exact ⟨a.isNone,by simp,hN⟩⟩
  simp only [execOp,ho,hx,hy',eqGuard,binOp,Op.equal,Op.maxDepth];simp [he]
theorem zo.sliceNil {t:TypeId} {x:Operand} {lo hi:Option Operand} (ho:o.op = .slice t x lo hi none) {e:Nat} (ht:P.underlying t=some (.slice e)) {i:TI} (hi':TI.ok P e i) {k:Nat} (hx:ρ x = .nil k)
  {alo ahi:Option A} (hlo:∀y,lo=some y-> ∃a,alo=some a/\dat (ρ y)=some a) (hlo0:lo=none->alo=none) (hhi:∀y,hi=some y-> ∃a,ahi=some a/\dat (ρ y)=some a) (hhi0:hi=none->ahi=none)
  {l h:Nat} (hh:pB 0 0 ahi=some h) (hl:pB 0 h alo=some l):zo P X o ρ ⟨.nil i.size,[],[]⟩:=by
 refine zo.same λw O0 m st ev hs hg hr=> ?_;have hx':=hr x (by simp [ho,Op.operands]);rw [hx] at hx';simp only [relV] at hx' ⊢;obtain ⟨a,q3⟩:=hx';have hlo':∀y,lo=some y-> ∃a,alo=some a/\rel w (Ow O0 m st) a (ev y):=λy hy=>by
  obtain ⟨a,f1,f2⟩:=hlo y hy;exact ⟨a,f1,kQ f2 (hr y (by simp [ho,Op.operands,hy]))⟩
 have hhi'':∀y,hi=some y-> ∃a,ahi=some a/\rel w (Ow O0 m st) a (ev y):=λy hy=>by
  obtain ⟨a,f1,f2⟩:=hhi y hy;exact ⟨a,f1,kQ f2 (hr y (by simp [ho,Op.operands,hy]))⟩
 obtain ⟨b1,_⟩:=Ys hh;obtain ⟨b2,_⟩:=Ys hl;have hh0:h=0:=by omega
 subst hh0;have hl0:l=0:=by omega
 subst hl0;have hb:=jcn (P:=P) (w:=w) (ev:=ev) (cap:=0) hlo' hlo0 hhi'' hhi0 hh hl (by omega);exact ⟨.slice a 0 0,by simp [execOp,ho,Instr.sliceAt,q3,kP ht,Instr.slice,hb,hi'.run_sizeOf w],a,rfl⟩
theorem zo.appendZ {s x:Operand} {xs:Array Operand} {ts:Array TypeId} {t t':TypeId} (ho:o.op = .call { callee:= .builtin .append,args:=xs,argTypes:=ts }) (hxs:xs = #[s,x]) (hts:ts = #[t,t'])
  {e:Nat} (ht:P.underlying t=some (.slice e)) {k:IntKind} (ht':P.underlying t'=some (.int k)) {i:TI} (hi:TI.ok P e i) {k0:Nat} (hs:ρ s = .nil k0) {kl:IntKind} {n:Int} (hx:dat (ρ x)=some (.val (.int kl n))) {nid:Nat}
  (h0:0<=n) (hfit:n.toNat * i.bytes<=140737488355328) (h63:n.toNat<=9223372036854775807) {z:List A} (hz:∀w O,jG w O z i.zero.cells.toList) (hone:jA i.zero.cells.toList) :
  zo P X o ρ ⟨.row nid,[.fresh nid],[.obj nid (.row i.size (List.replicate n.toNat z))]⟩:=by
 intro w O0 m st ev hst hg hr _hc;have hs':=hr s (by simp [ho,Op.operands,Call.operands,hxs]);have hx':=kQ hx (hr x (by simp [ho,Op.operands,Call.operands,hxs]));rw [hs] at hs';simp only [relV] at hs';simp only [rel] at hx';obtain ⟨a,hs'⟩:=hs';obtain ⟨jj,hj,j1,j2,j3⟩:=hi.some_info;have hf:st nid = .dead:=hg (.fresh nid) (by simp);obtain ⟨N,rfl⟩:=jcB h0;simp only [jkn] at hfit h63 ⊢;have hw:IntKind.i64.wrap (N:Int)=N:=jj7 ⟨by omega,by omega⟩;have hbig:¬(281474976710656 < (N:Int) * (jj.bytes:Int)):=by
  rw [j2];have:((N * i.bytes:Nat):Int)<=((140737488355328:Nat):Int):=Int.ofNat_le.2 hfit;rw [Int.natCast_mul] at this;generalize (N:Int) * (i.bytes:Int)=q at this ⊢;omega
 have hzlen:i.zero.cells.toList.length=i.size:=by simpa using hi.zsize
 have hzl:z.length=i.size:=by rw [<-kC (hz w (Ow O0 m st))];exact hzlen
 by_cases hN:N=0
 .subst hN;have hrun:(execOp ev o).run P w = .ok (.value (.slice a 0 0)) w:=by
   refine Ko (P:=P) (ev:=ev) ho hxs ?_;rw [hts,hs',hx'];have hw0:IntKind.i64.wrap 0=0:=hw;cases a<;>simp [Builtin.append_,kP ht,kP ht',sizeOf,typeInfo,hj,asInt,asIntOf,hw0,storeCells]
  rw [hrun];exact JE hst (Below.refl _ _) hf (hd:= .none) ⟨a,rfl⟩ (Or.inl ⟨rfl,rfl⟩)
 .have hpos:0 < N:=Nat.pos_of_ne_zero hN;have hgc:=grownCap_ge w N 0 e;have hgm:=grownCap_le_maxLen w N 0 e (by simpa [maxLen] using h63);have n1:¬(N<=0):=by omega
  have n3:¬(281474976710656 < Builtin.nextslicecap N 0 * jj.bytes):=by
   have:=growslice_fits (bytes:=i.bytes) hpos hfit;rw [j2];omega
  have hlist:(Builtin.zeroCells i.zero.cells N++Builtin.zeroCells i.zero.cells (grownCap w N 0 e - N)).toList.take (N * i.size)=(List.replicate N i.zero.cells.toList).flatten:=by
   have hl:(List.replicate N i.zero.cells.toList).flatten.length=N * i.size:=by
    rw [qv (k:=i.size) λy hy=>by rw [jgs hy,hzlen],K2]
   rw [Array.toList_append,Qe,jfn (by rw [hl];exact kD _),ql (by rw [hl];exact kD _)]
  have hrep:∀N,jG w (Ow O0 m st) (List.replicate N z).flatten (List.replicate N i.zero.cells.toList).flatten:=by
   intro N;induction N with
   | zero=>simp [jG]
   | succ N ih=>rw [Qf,Qf,J5,J5];exact zy (hz _ _) ih
  have hones:jA (List.replicate N i.zero.cells.toList).flatten:=by
   intro v hv;obtain ⟨l,hl,hv⟩:=jkc.1 hv;rw [jgs hl] at hv;exact hone v hv
  have hrun:(execOp ev o).run P w = .ok (.value (.slice (some ⟨w.heap.size,0,none⟩) N (grownCap w N 0 e))) (w.drew.alloc (.cells (Builtin.zeroCells i.zero.cells N++Builtin.zeroCells i.zero.cells (grownCap w N 0 e - N)) e)):=by
   refine Ko (P:=P) (ev:=ev) ho hxs ?_;rw [hts,hs',hx'];have hold:(Builtin.firstCells jj.size 0 (.slice a 0 0)).run P w.drew = .ok #[] w.drew:=by
    cases a<;>simp [Builtin.firstCells,loadCells,loadCellsFrom]
   have n2:¬(9223372036854775807 < (N:Int)):=by omega
   have nneg:¬((N:Int) < 0):=by omega
   simp [Builtin.append_,kP ht,kP ht',sizeOf,typeInfo,zeroValue,hj,j3,asInt,asIntOf,hw,n1,n2,n3,nneg,hbig,Question.forced,hold,newRow,grownCap];rw [jo hN];by_cases hz0:N * jj.size=0
   .have e0:Builtin.zeroCells i.zero.cells N = #[]:=by
     apply ZD;rw [Builtin.zeroCells,jd0,hi.zsize,<-j1,hz0];rfl
    rw [jl hz0,e0];simp
   .rw [jo hz0]
  rw [hrun];refine JE hst (w':=w.drew.alloc _) (((Below.refl _ w).drew).alloc (by simp) _) hf (hd:= .blk w.heap.size (grownCap w N 0 e) (List.replicate N z).length) (by simp [hdr]) (Or.inr ⟨grownCap w N 0 e,_,e,rfl,?_,by simpa using hgc,by simpa [maxLen] using hgm,λy hy=>by rw [jgs hy,hzl],heap_alloc_new w.drew _,?_,?_,?_⟩)
  .show w.heap.size < (w.drew.alloc _).heap.size;rw [JK];simp
  .simp only [Array.size_append,Builtin.zeroCells,Array.size_map,Array.size_range,hi.zsize];rw [<-qf];congr 1;omega
  .rw [K2,hlist];exact hones
  .rw [K2,hlist];exact hrep N
theorem zo.winAppend {s x:Operand} {xs0:Array Operand} {ts:Array TypeId} {t:TypeId} (ho:o.op = .call { callee:= .builtin .append,args:=xs0,argTypes:=ts }) (hxs:xs0 = #[s,x]) (hts:ts = #[t,t])
  {e:Nat} (ht:P.underlying t=some (.slice e)) {i:TI} (hi:TI.ok P e i) {st0:jC} {p:WP} (hp:jgk st0 (ρ s)=some p) (hk:p.k=i.size) {ys:List (List A)} {rds:List Rd}
  (hx:∀(w:World) (O0:Nat->Prop) (m:zu) (st:jC) (u:Value),Sto X w O0 m st->(∀r∈rds,yI st r)->relV w (Ow O0 m st) m (ρ x) u->jc3 w (Ow O0 m st) i.size ys u)
  (hfit:p.off+p.n+ys.length<=p.xs.length) :
  zo P X o ρ ⟨.win p.id p.k p.off (p.n+ys.length),.obj p.id (.row p.k p.xs)::rds,[.obj p.id (.row p.k (qj p.xs (p.off+p.n) ys))]⟩:=by
 intro w O0 m st ev hs hg hr _hc;have hs':=hr s (by simp [ho,Op.operands,Call.operands,hxs]);have hsrc:=hx w O0 m st _ hs (λr h=>hg r (by simp [h])) (hr x (by simp [ho,Op.operands,Call.operands,hxs]));have hid:st p.id = .row p.k p.xs:=hg (.obj p.id (.row p.k p.xs)) (by simp);obtain ⟨hd,xs',e1,e2,e3,e4,e5⟩:=(K1 (X:=X) hp).2 w O0 m st _ hs ⟨p.xs,hid,rfl⟩ hs';rw [hid] at e2;cases e2;obtain ⟨jj,hj,j1,j2,j3⟩:=hi.some_info;obtain ⟨ad,c2,news,hv,hnews,hok',hyk,hsrc⟩:=hsrc;have hnl:news.length=ys.length * i.size:=by rw [kC hnews,qv hyk]
 have same:ys = []->kV st [.obj p.id (.row p.k (qj p.xs (p.off+p.n) ys))]=st:=by
  rintro rfl;rw [jdV];exact upd_same (by rw [hid];simp [qj,over])
 cases hd with
 | tre=>exact e4.elim
 | mp=>exact e4.elim
 | none=>
  simp only [rowOk] at e5;simp only [Kb] at e4;obtain ⟨q1,q2,a,q3⟩:=e4;have hy0:ys = []:=by
   have hl:p.xs.length=0:=by rw [e5];rfl
   have:ys.length=0:=by omega
   exact jbd this
  have hrun:(execOp ev o).run P w = .ok (.value (.slice a 0 0)) w:=by
   refine Ko (P:=P) (ev:=ev) ho hxs ?_;rw [hts,q3,hv,hy0];have hf:(Builtin.firstCells i.size 0 (.slice ad 0 c2)).run P w = .ok #[] w:=by
    cases ad<;>simp [Builtin.firstCells,loadCells,loadCellsFrom]
   cases a<;>simp [Builtin.append_,kP ht,sizeOf,typeInfo,hj,j1,Builtin.lenOf,hf,storeCells]
  rw [hrun];refine ⟨m,?_,?_,?_⟩
  .rw [same hy0];exact Chg.refl _ _ _
  .rw [same hy0];exact hs
  .simp only [relV];exact ⟨_,e1,q1,by rw [q2,hy0];rfl,a,rfl⟩
 | blk b c l=>
  have e5':=e5;obtain ⟨rfl,f1,f2,f3,_⟩:=e5;simp only [Kb] at e4;obtain ⟨q1,q,q3,q4⟩:=e4;have hroom:p.n+ys.length<=c - p.off:=by omega
  by_cases hy0:ys = []
  .subst hy0;have hf:(Builtin.firstCells i.size 0 (.slice ad 0 c2)).run P w = .ok #[] w:=by
    cases ad<;>simp [Builtin.firstCells,loadCells,loadCellsFrom]
   have hrun:(execOp ev o).run P w = .ok (.value (.slice (some ⟨b,q,none⟩) p.n (c - p.off))) w:=by
    refine Ko (P:=P) (ev:=ev) ho hxs ?_;rw [hts,q3,hv];have hr':p.n<=c - p.off:=by omega
    simp [Builtin.append_,kP ht,sizeOf,typeInfo,hj,j1,Builtin.lenOf,hf,storeCells,hr']
   rw [hrun];refine ⟨m,?_,?_,?_⟩
   .rw [same rfl];exact Chg.refl _ _ _
   .rw [same rfl];exact hs
   .simp only [relV,qO,j6];exact ⟨_,e1,q1,q,rfl,q4⟩
  .have hypos:0 < ys.length:=List.length_pos_iff.2 hy0;have hqe:=q4 (by omega);subst hqe;obtain ⟨b2,off2,hb2,hreads⟩:=hsrc.resolve_left hy0;subst hb2;have hn1:∀jj u,news[jj]? = some u->w.cell? ((⟨b2,off2,none⟩:Addr).add jj)=some u:=λjj u hu=>by rw [Km];exact hreads jj u hu
   have hf:=jkd (P:=P) w i.size ys.length ⟨b2,off2,none⟩ ys.length c2 news hnl hn1;obtain ⟨W,hst,k1,k2⟩:=jn9 P hs hid e1 (ys:=ys) hnews hok' (λy hy=>by rw [hyk y hy,hk]) (off:=p.off+p.n) hfit;have hrun:(execOp ev o).run P w = .ok (.value (.slice (some ⟨b,p.off * p.k,none⟩) (p.n+ys.length) (c - p.off))) W:=by
    refine Ko (P:=P) (ev:=ev) ho hxs ?_;rw [hts,q3,hv];have hf':(Builtin.firstCells jj.size ys.length (.slice (some ⟨b2,off2,none⟩) ys.length c2)).run P w = .ok news.toArray w:=by rw [j1];exact hf
    have hst':(storeCells ((⟨b,p.off * p.k,none⟩:Addr).add (p.n * jj.size)) news).run P w = .ok () W:=by
     rw [Km,j1,<-hk,<-qf];exact hst
    simp [Builtin.append_,kP ht,sizeOf,typeInfo,hj,Builtin.lenOf,hroom,hf',hst']
   rw [hrun];refine ⟨m,k1,k2,?_⟩;simp only [relV];exact ⟨_,e1,by omega,_,rfl,λ_=>rfl⟩
theorem zo.winCopy {s x:Operand} {xs0:Array Operand} {ts:Array TypeId} {t t':TypeId} (ho:o.op = .call { callee:= .builtin .copy,args:=xs0,argTypes:=ts }) (hxs:xs0 = #[s,x]) (hts:ts = #[t,t'])
  {e:Nat} (ht:P.underlying t=some (.slice e)) {i:TI} (hi:TI.ok P e i) {st0:jC} {p:WP} (hp:jgk st0 (ρ s)=some p) (hk:p.k=i.size) {ys:List (List A)} {rds:List Rd}
  (hx:∀(w:World) (O0:Nat->Prop) (m:zu) (st:jC) (u:Value),Sto X w O0 m st->(∀r∈rds,yI st r)->relV w (Ow O0 m st) m (ρ x) u->jc3 w (Ow O0 m st) i.size ys u) :
  zo P X o ρ ⟨.d (vi (Nat.min ys.length p.n)),.obj p.id (.row p.k p.xs)::rds,[.obj p.id (.row p.k (qj p.xs p.off (ys.take p.n)))]⟩:=by
 intro w O0 m st ev hs hg hr _hc;have hs':=hr s (by simp [ho,Op.operands,Call.operands,hxs]);have hsrc:=hx w O0 m st _ hs (λr h=>hg r (by simp [h])) (hr x (by simp [ho,Op.operands,Call.operands,hxs]));have hid:st p.id = .row p.k p.xs:=hg (.obj p.id (.row p.k p.xs)) (by simp);obtain ⟨hd,xs',e1,e2,e3,e4,e5⟩:=(K1 (X:=X) hp).2 w O0 m st _ hs ⟨p.xs,hid,rfl⟩ hs';rw [hid] at e2;cases e2;obtain ⟨jj,hj,j1,j2,j3⟩:=hi.some_info;obtain ⟨ad,c2,news,hv,hnews,hok',hyk,hsrc⟩:=hsrc;have hnl:news.length=ys.length * i.size:=by rw [kC hnews,qv hyk]
 have hcopy:∀w',(Builtin.copy_ ts o.type #[ev s,ev x]).run P w = .ok (goInt (Nat.min ys.length p.n)) w'->(execOp ev o).run P w = .ok (.value (.int .i64 (Nat.min ys.length p.n:Nat))) w':=by
  intro w' h;subst hxs;simp [execOp,ho,resolve,invoke,builtin,h,goInt]
 have same:(ys.take p.n) = []->kV st [.obj p.id (.row p.k (qj p.xs p.off (ys.take p.n)))]=st:=by
  intro h0;rw [h0,jdV];exact upd_same (by rw [hid];simp [qj,over])
 have hsame:Nat.min ys.length p.n=0->(ys.take p.n) = []:=λh=>by
  apply jbd;rw [qD,Nat.min_comm];exact h
 have hwv:∃a cc,ev s = .slice a p.n cc/\(p.n=0\/ ∃b c l,hd = .blk b c l/\a=some ⟨b,p.off * p.k,none⟩/\p.off+p.n<=p.xs.length):=by
  cases hd with
  | tre=>exact e4.elim
  | mp=>exact e4.elim
  | none=>simp only [Kb] at e4;obtain ⟨_,h2,a,h3⟩:=e4;exact ⟨a,0,by rw [h2];exact h3,Or.inl h2⟩
  | blk b c l=>
   obtain ⟨rfl,f1,_⟩:=e5;simp only [Kb] at e4;obtain ⟨q1,q,q3,q4⟩:=e4;refine ⟨_,_,q3,?_⟩;by_cases h0:p.n=0
   .exact Or.inl h0
   .exact Or.inr ⟨b,c,_,rfl,by rw [q4 (by omega)],q1⟩
 obtain ⟨a,cc,q3,q4⟩:=hwv;by_cases h0:Nat.min ys.length p.n=0
 .have hf:(Builtin.firstCells i.size 0 (.slice ad ys.length c2)).run P w = .ok #[] w:=by
   cases ad<;>simp [Builtin.firstCells,loadCells,loadCellsFrom]
  have hrun:=hcopy w (by
   rw [hts,q3,hv,h0];have h0':min ys.length p.n=0:=h0;cases a<;>simp [Builtin.copy_,kP ht,sizeOf,typeInfo,hj,j1,Builtin.lenOf,h0,h0',hf,storeCells])
  rw [hrun,h0];refine ⟨m,?_,?_,by simp [relV,rel]⟩
  .rw [same (hsame h0)];exact Chg.refl _ _ _
  .rw [same (hsame h0)];exact hs
 .have hyne:ys≠ []:=λe=>h0 (by subst e;simp)
  have hn0:p.n≠0:=λe=>h0 (by rw [e];simp)
  obtain ⟨b,c,l,rfl,rfl,q1⟩:=q4.resolve_left hn0;obtain ⟨b2,off2,hb2,hreads⟩:=hsrc.resolve_left hyne;subst hb2;have hml:(ys.take p.n).length=Nat.min ys.length p.n:=by rw [qD,Nat.min_comm]
  have hle:Nat.min ys.length p.n<=ys.length:=Nat.min_le_left _ _;have hnews2:jG w (Ow O0 m st) (ys.take p.n).flatten (news.take (p.n * i.size)):=by
   rw [Ym ys p.n hyk];exact KE _ hnews
  have hnl2:(news.take (p.n * i.size)).length=Nat.min ys.length p.n * i.size:=by
   rw [kC hnews2,qv (λy hy=>hyk y (jgo hy)),hml]
  have hn1:∀jj u,(news.take (p.n * i.size))[jj]? = some u->w.cell? ((⟨b2,off2,none⟩:Addr).add jj)=some u:=λjj u hu=>by rw [Km];exact (hreads.take _) jj u hu
  have hf:=jkd (P:=P) w i.size (Nat.min ys.length p.n) ⟨b2,off2,none⟩ ys.length c2 _ hnl2 hn1;obtain ⟨W,hst,k1,k2⟩:=jn9 P hs hid e1 (ys:=ys.take p.n) hnews2 (hok'.take _) (λy hy=>by rw [hyk y (jgo hy),hk]) (off:=p.off) (by rw [hml];have:Nat.min ys.length p.n<=p.n:=Nat.min_le_right ys.length p.n;omega);have hrun:=hcopy W (by
   rw [hts,q3,hv];have hf':(Builtin.firstCells jj.size (Nat.min ys.length p.n) (.slice (some ⟨b2,off2,none⟩) ys.length c2)).run P w = .ok (news.take (p.n * i.size)).toArray w:=by rw [j1];exact hf
   simp [Builtin.copy_,kP ht,sizeOf,typeInfo,hj,Builtin.lenOf,hf',hst])
  rw [hrun];exact ⟨m,k1,k2,by simp [relV,rel]⟩
end
end
noncomputable section
def jG9:A->Bool
 | .val x=>j9 (.val x)
 | _=>false
def jK2:A->Bool
 | .sl _ _=>true
 | _=>false
theorem jFg {a:A} (h:jG9 a=true):∃x,a = .val x/\j9 a=true:=by
 cases a with
 | val x=>exact ⟨x,rfl,h⟩
 | _=>cases h
def jrg (st:jC):V->Option (A × List Rd × List Wr)
 | .d a=>some (a,[],[])
 | .agg cs=>(match JJ st cs with|some (as,r,w)=>some (.agg as,r,w)|none=>none)
 | _=>none
theorem jwv {st:jC} {v:V} {a:A} {r:List Rd} {ws:List Wr} (h:jrg st v=some (a,r,ws)):∀x∈r,yI st x:=by
 unfold jrg at h;split at h
 .cases h;simp
 .split at h
  .rename_i h1;cases h;exact ZA h1
  .cases h
 .cases h
def jpj:V->Option A
 | .agg cs=>(jc0 cs).map .agg
 | v=>dat v
theorem je2 {w:World} {O:Nat->Prop} {m:zu} {v:V} {a:A} {u:Value} (h:jpj v=some a) (hr:relV w O m v u):rel w O a u:=by
 unfold jpj at h;split at h
 .rw [yP] at h;obtain ⟨l,h1,rfl⟩:=h;simp only [relV] at hr;obtain ⟨vs,rfl,h2⟩:=hr;simp only [rel];exact ⟨vs,rfl,JW h1 h2⟩
 .exact kQ h hr
def jgK:List V->Option (List A)
 | []=>some []
 | v::r=>(match jpj v,jgK r with|some a,some l=>some (a::l)|_,_=>none)
theorem jaU {w:World} {O:Nat->Prop} {m:zu} :∀ {cs:List V} {as:List A} {vs:List Value},jgK cs=some as->jv w O m cs vs->jG w O as vs
 | [],as,vs,h,hr=>by simp only [jgK,kL] at h;subst h;simpa [jv,jG] using hr
 | c::cs,as,vs,h,hr=>by
  simp only [jgK] at h;split at h
  .rename_i a l h1 h2;cases h;simp only [jv] at hr;obtain ⟨v,r,rfl,g1,g2⟩:=hr;simp only [jG];exact ⟨v,r,rfl,je2 h1 g1,jaU h2 g2⟩
  .cases h
def jx6:Abs.Obj->Option (A × Abs.Obj)
 | .map xs=>some (.mp xs,.gone)
 | .row k xs=>some (.sl k xs,.fro k xs)
 | .fro k xs=>some (.sl k xs,.fro k xs)
 | _=>none
theorem juk {X:Ctx} {w:World} {O0:Nat->Prop} {m:zu} {st:jC} (hs:Sto X w O0 m st) {id:Nat} {a:A} {o':Abs.Obj} (h:jx6 (st id)=some (a,o')) :
  Sto X w O0 m (upd st id o')/\(∀b,Ow O0 m (upd st id o') b->Ow O0 m st b)/\Chg w m st w m (upd st id o')/\ ∀u,relV w (Ow O0 m st) m (.row id) u->rel w (Ow O0 m (upd st id o')) a u:=by
 cases hst:st id with
 | map xs=>
  rw [hst] at h;cases h;have hsub:∀b,Ow O0 m (upd st id .gone) b->Ow O0 m st b:=jfG λh=>by cases h
  refine ⟨hs.kill id,hsub,Chg.ghost (λh=>by cases h),λu hu=> ?_⟩;simp only [relV] at hu;obtain ⟨hd',g1,g2⟩:=hu;have ho:=hs.obj id;rw [hst] at ho;obtain ⟨hd2,g3,g4⟩:=ho;rw [g1] at g3;cases g3;refine jql g4 g2 hsub λb e=> ?_;subst e;exact jeO (id:=id) hs (by rw [hst];rfl) g1 (by simp [Hd.blocks]) rfl
 | row k xs=>
  rw [hst] at h;cases h;have hsub:∀b,Ow O0 m (upd st id (.fro k xs)) b->Ow O0 m st b:=jfG λh=>by cases h
  have hf:=hs.freeze hst;refine ⟨hf,hsub,Chg.ghost (λh=>by cases h),λu hu=> ?_⟩;exact ZG hf (jJ _ _ _) (by simpa only [relV] using hu)
 | fro k xs=>
  rw [hst] at h;cases h;have e:upd st id (.fro k xs)=st:=by rw [<-hst];exact upd_same rfl
  rw [e];exact ⟨hs,λ_ h=>h,Chg.refl _ _ _,λu hu=>ZG hs hst hu⟩
 | _=>rw [hst] at h;cases h
def jco (st:jC):List V->Option (List A × Option (Nat × Abs.Obj × Abs.Obj))
 | []=>some ([],none)
 | .row id::vs=>(match jx6 (st id),jgK vs with
  | some (a,o'),some as=>some (a::as,some (id,st id,o'))
  | _,_=>none)
 | v::vs=>(match jpj v,jco st vs with
  | some a,some (as,p)=>some (a::as,p)
  | _,_=>none)
def Z9:Option (Nat × Abs.Obj × Abs.Obj)->List Rd
 | none=>[]
 | some (id,o,_)=>[.obj id o]
def Ya:Option (Nat × Abs.Obj × Abs.Obj)->List Wr
 | none=>[]
 | some (id,_,o')=>[.obj id o']
theorem jre {st:jC} {v:V} (vs:List V) (hne:∀id,v≠ .row id):jco st (v::vs)=(match jpj v,jco st vs with
  | some a,some (as,p)=>some (a::as,p)
  | _,_=>none):=by
 cases v<;>first|rfl|exact absurd rfl (hne _)
theorem jlN {st:jC} :∀ {vs:List V} {as:List A} {p:Option (Nat × Abs.Obj × Abs.Obj)},jco st vs=some (as,p)-> ∀x∈Z9 p,yI st x
 | [],as,p,h=>by simp only [jco,kL,qB] at h;obtain ⟨_,rfl⟩:=h;simp [Z9]
 | v::vs,as,p,h=>by
  by_cases hr:∃id,v = .row id
  .obtain ⟨id,rfl⟩:=hr;simp only [jco] at h;split at h
   .cases h;intro x hx;simp only [Z9,zi] at hx;subst hx;rfl
   .cases h
  .rw [jre vs λid e=>hr ⟨id,e⟩] at h;split at h
   .rename_i h2;cases h;exact jlN h2
   .cases h
theorem jlO {X:Ctx} {w:World} {O0:Nat->Prop} {m:zu} {st0 st:jC} (hs:Sto X w O0 m st):∀ {vs:List V} {as:List A} {p:Option (Nat × Abs.Obj × Abs.Obj)},jco st0 vs=some (as,p)->(∀x∈Z9 p,yI st x)->
  Sto X w O0 m (kV st (Ya p))/\(∀b,Ow O0 m (kV st (Ya p)) b->Ow O0 m st b)/\Chg w m st w m (kV st (Ya p))/\ ∀us,jv w (Ow O0 m st) m vs us->jG w (Ow O0 m (kV st (Ya p))) as us
 | [],as,p,h,_=>by
  simp only [jco,kL,qB] at h;obtain ⟨rfl,rfl⟩:=h;exact ⟨hs,λ_ h=>h,Chg.refl _ _ _,λus hr=>by simpa [jv,jG] using hr⟩
 | v::vs,as,p,h,hg=>by
  by_cases hv:∃id,v = .row id
  .obtain ⟨id,rfl⟩:=hv;simp only [jco] at h;split at h
   .rename_i a o' as' hgv hd;cases h;have hst:st id=st0 id:=hg (.obj id (st0 id)) (by simp [Z9]);rw [<-hst] at hgv;obtain ⟨g1,g2,g3,g4⟩:=juk hs hgv;refine ⟨g1,g2,g3,λus hr=> ?_⟩;simp only [jv] at hr;obtain ⟨u,r,rfl,h1,h2⟩:=hr;simp only [jG];exact ⟨u,r,rfl,g4 u h1,kZ (MonoW.sub g2) _ _ (jaU hd h2)⟩
   .cases h
  .rw [jre vs λid e=>hv ⟨id,e⟩] at h;split at h
   .rename_i a as' p' ha hp;cases h;obtain ⟨g1,g2,g3,g4⟩:=jlO hs hp hg;refine ⟨g1,g2,g3,λus hr=> ?_⟩;simp only [jv] at hr;obtain ⟨u,r,rfl,h1,h2⟩:=hr;simp only [jG];exact ⟨u,r,rfl,zS (MonoW.sub g2) _ _ (je2 ha h1),g4 r h2⟩
   .cases h
def jcp (st:jC):List V->Option (List A × Option (Nat × Abs.Obj × Abs.Obj))
 | []=>some ([],none)
 | .row id::vs=>(match jx6 (st id),jgK vs with
  | some (a,o'),some as=>some (a::as,some (id,st id,o'))
  | _,_=>none)
 | v::vs=>(match jpj v with
  | some a=>(match jcp st vs with|some (as,p)=>some (a::as,p)|none=>none)
  | none=>(match v with
   | .agg us=>(match jco st us,jgK vs with|some (bs,p),some as=>some (.agg bs::as,p)|_,_=>none)
   | _=>none))
theorem jrf {st:jC} {v:V} (vs:List V) (hne:∀id,v≠ .row id):jcp st (v::vs)=(match jpj v with
  | some a=>(match jcp st vs with|some (as,p)=>some (a::as,p)|none=>none)
  | none=>(match v with
   | .agg us=>(match jco st us,jgK vs with|some (bs,p),some as=>some (.agg bs::as,p)|_,_=>none)
   | _=>none)):=by
 cases v<;>first|rfl|exact absurd rfl (hne _)
theorem jlP {st:jC} :∀ {vs:List V} {as:List A} {p:Option (Nat × Abs.Obj × Abs.Obj)},jcp st vs=some (as,p)-> ∀x∈Z9 p,yI st x
 | [],as,p,h=>by simp only [jcp,kL,qB] at h;obtain ⟨_,rfl⟩:=h;simp [Z9]
 | v::vs,as,p,h=>by
  by_cases hr:∃id,v = .row id
  .obtain ⟨id,rfl⟩:=hr;simp only [jcp] at h;split at h
   .cases h;intro x hx;simp only [Z9,zi] at hx;subst hx;rfl
   .cases h
  .rw [jrf vs λid e=>hr ⟨id,e⟩] at h;split at h
   .split at h
    .rename_i h2;cases h;exact jlP h2
    .cases h
   .split at h
    .split at h
     .rename_i h2 _;cases h;exact jlN h2
     .cases h
    .cases h
theorem jlQ {X:Ctx} {w:World} {O0:Nat->Prop} {m:zu} {st0 st:jC} (hs:Sto X w O0 m st):∀ {vs:List V} {as:List A} {p:Option (Nat × Abs.Obj × Abs.Obj)},jcp st0 vs=some (as,p)->(∀x∈Z9 p,yI st x)->
  Sto X w O0 m (kV st (Ya p))/\(∀b,Ow O0 m (kV st (Ya p)) b->Ow O0 m st b)/\Chg w m st w m (kV st (Ya p))/\ ∀us,jv w (Ow O0 m st) m vs us->jG w (Ow O0 m (kV st (Ya p))) as us
 | [],as,p,h,_=>by
  simp only [jcp,kL,qB] at h;obtain ⟨rfl,rfl⟩:=h;exact ⟨hs,λ_ h=>h,Chg.refl _ _ _,λus hr=>by simpa [jv,jG] using hr⟩
 | v::vs,as,p,h,hg=>by
  by_cases hv:∃id,v = .row id
  .obtain ⟨id,rfl⟩:=hv;simp only [jcp] at h;split at h
   .rename_i a o' as' hgv hd;cases h;have hst:st id=st0 id:=hg (.obj id (st0 id)) (by simp [Z9]);rw [<-hst] at hgv;obtain ⟨g1,g2,g3,g4⟩:=juk hs hgv;refine ⟨g1,g2,g3,λus hr=> ?_⟩;simp only [jv] at hr;obtain ⟨u,r,rfl,h1,h2⟩:=hr;simp only [jG];exact ⟨u,r,rfl,g4 u h1,kZ (MonoW.sub g2) _ _ (jaU hd h2)⟩
   .cases h
  .rw [jrf vs λid e=>hv ⟨id,e⟩] at h;split at h
   .rename_i a ha;split at h
    .rename_i as' p' hp;cases h;obtain ⟨g1,g2,g3,g4⟩:=jlQ hs hp hg;refine ⟨g1,g2,g3,λus hr=> ?_⟩;simp only [jv] at hr;obtain ⟨u,r,rfl,h1,h2⟩:=hr;simp only [jG];exact ⟨u,r,rfl,zS (MonoW.sub g2) _ _ (je2 ha h1),g4 r h2⟩
    .cases h
   .split at h
    .rename_i us';split at h
     .rename_i bs p' as' hp hd;cases h;obtain ⟨g1,g2,g3,g4⟩:=jlO hs hp hg;refine ⟨g1,g2,g3,λus hr=> ?_⟩;simp only [jv,relV] at hr;obtain ⟨u,r,rfl,⟨ws,rfl,h1⟩,h2⟩:=hr;simp only [jG,rel];exact ⟨_,r,rfl,⟨ws,rfl,g4 ws h1⟩,kZ (MonoW.sub g2) _ _ (jaU hd h2)⟩
     .cases h
    .cases h
theorem zo.sealmap {P:Program} {X:Ctx} {o:Oper} {ρ:Operand->V} {f:Operand} {xs0:Array Operand} {ts:Array TypeId} (ho:o.op = .call { callee:= .value f,args:=xs0,argTypes:=ts }) {g:FuncId} {vs0:List V} {st0:jC} {as:List A} {p:Option (Nat × Abs.Obj × Abs.Obj)} {out:Out} {r:A}
  (hseal:jcp st0 vs0=some (as,p)) (hp:jaA X P g as out) (hr0:fin false out=some r)
  (hargs:∀(w:World) (O0:Nat->Prop) (m:zu) (st:jC) (ev:Operand->Value),Sto X w O0 m st->(∀x∈o.op.operands,relV w (Ow O0 m st) m (ρ x) (ev x))->
   ∃us:List Value,ev f = .func (.func g) #[] us.toArray/\jv w (Ow O0 m st) m vs0 (xs0.toList.map ev++us)) :
  zo P X o ρ ⟨.d r,Z9 p,Ya p⟩:=by
 intro w O0 m st ev hs hg hr _hc;obtain ⟨us,h1,h2⟩:=hargs w O0 m st ev hs hr;have hout:out.1=r:=by
  unfold fin at hr0;split at hr0
  .simp only [jH,Zg,K6] at hr0;exact ZE hr0
  .cases hr0
 obtain ⟨hk1,_,hk2,hrel⟩:=jlQ hs hseal hg;have hrel:=hrel _ h2;generalize hst1:kV st (Ya p)=st1 at *;have hs1:=hk1;have hc1:=hk2;rw [ZM ho h1 hp.1 w];refine ⟨rfl,(hp.2 w (Ow O0 m st1) _ hs.j (λb hb=>Or.inl (hs.jn b hb)) (λb hb=> ?_) hrel).mono ?_⟩
 .rcases hb with h|⟨id,hd,g1,g2,g3⟩
  .exact hs1.old b h
  .exact (hs1.blk id hd b g1 g2 g3).1
 .rintro e w' ⟨v,rfl,hb,hv⟩;have hpost:YL X w O0 m (kV st (Ya p)) [] (.d r) w' v:=by
   rw [hst1];refine ⟨m,Chg.below hb,hs1.below hb,?_⟩;simp only [relV];rw [<-hout];exact hv
  have:=YL.after (ws':=[]) (by rw [hst1];exact hc1) hpost
  rw [y8] at this;exact ⟨v,rfl,this⟩
theorem zo.sealcall {P:Program} {X:Ctx} {o:Oper} {ρ:Operand->V} {f:Operand} {xs0:Array Operand} {ts:Array TypeId} (ho:o.op = .call { callee:= .value f,args:=xs0,argTypes:=ts }) {g:FuncId} {v0:V} {st0:jC} {a:A} {rds:List Rd} {ws:List Wr} {out:Out} {r:A}
  (hseal:jrg st0 v0=some (a,rds,ws)) (hp:jaA X P g [a] out) (hr0:fin false out=some r)
  (hargs:∀(w:World) (O0:Nat->Prop) (m:zu) (st:jC) (ev:Operand->Value),Sto X w O0 m st->(∀x∈o.op.operands,relV w (Ow O0 m st) m (ρ x) (ev x))->
   ∃us:List Value,ev f = .func (.func g) #[] us.toArray/\jv w (Ow O0 m st) m [v0] (xs0.toList.map ev++us)) :
  zo P X o ρ ⟨.d r,rds,ws⟩:=by
 intro w O0 m st ev hs hg hr _hc;obtain ⟨us,h1,h2⟩:=hargs w O0 m st ev hs hr;have hout:out.1=r:=by
  unfold fin at hr0;split at hr0
  .simp only [jH,Zg,K6] at hr0;exact ZE hr0
  .cases hr0
 have key:∃st1,kV st ws=st1/\Sto X w O0 m st1/\Chg w m st w m st1/\jG w (Ow O0 m st1) [a] (xs0.toList.map ev++us):=by
  unfold jrg at hseal;split at hseal
  .cases hseal;refine ⟨st,rfl,hs,Chg.refl _ _ _,?_⟩;simpa only [jv,relV,jG] using h2
  .split at hseal
   .rename_i as r' ws' hsc;cases hseal;simp only [jv,relV] at h2;obtain ⟨v,t,e1,⟨vs,rfl,h3⟩,h4⟩:=h2;obtain ⟨a1,a2,a3,_⟩:=jlM hs hsc hg h3;refine ⟨_,rfl,a1,a2,?_⟩;rw [e1];simp only [jG,rel];exact ⟨_,t,rfl,⟨vs,rfl,a3⟩,h4⟩
   .cases hseal
  .cases hseal
 obtain ⟨st1,e1,hs1,hc1,hrel⟩:=key;rw [ZM ho h1 hp.1 w];refine ⟨rfl,(hp.2 w (Ow O0 m st1) _ hs.j (λb hb=>Or.inl (hs.jn b hb)) (λb hb=> ?_) hrel).mono ?_⟩
 .rcases hb with h|⟨id,hd,g1,g2,g3⟩
  .exact hs1.old b h
  .exact (hs1.blk id hd b g1 g2 g3).1
 .rintro e w' ⟨v,rfl,hb,hv⟩;have hpost:YL X w O0 m (kV st ws) [] (.d r) w' v:=by
   rw [e1];refine ⟨m,Chg.below hb,hs1.below hb,?_⟩;simp only [relV];rw [<-hout];exact hv
  have:=YL.after (ws':=[]) (by rw [e1];exact hc1) hpost
  rw [y8] at this;exact ⟨v,rfl,this⟩
end
end Go.Proofs.YtbidbdhamhbebaaGreatDoor.Abs
