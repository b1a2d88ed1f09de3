/- The abstract machine, part 14: each operation of the machine is so in the model, continued. -/
import Derived.Test.YtmecfjhdnbgfeaaGreatDoorAmK
set_option linter.unusedVariables false
set_option linter.unusedSimpArgs false
namespace Go.Am
open Go.RowKit
section
variable {P:Program} {n:Nat} {o:Oper} {σ τ:St} {x y:Operand} {v:AV} {T:TypeId} {R:Type} {E:Env} {k:Dl→Option R} {r:R}
theorem og {d:Nat} (ho:o.op= .nilCheck x) (hd:o.dst=some d) (hn:d<n) (hx:Ev P σ x v)
  (hv:∀(ok:Nat→Prop) (w:World) (β:Nat→Option Value) (z:Value),RV P ok w β v z→(∃ad,z= .pointer (some ad))∨∃f a b,z= .func (.func f) a b):bn P n o σ (σ.put d v):=
 aG hd hn fun ok0 w0 a w β r=>by
  have h:=hx _ _ _ _ _ _ r
  rcases hv _ _ _ _ h with⟨ad,e⟩| ⟨f,a1,b1,e⟩
  ·exact⟨_,by simp[execOp,ho,e],e▸h⟩
  ·exact⟨_,by simp[execOp,ho,e],e▸h⟩
theorem Yu (ho:o.op= .nilCheck x) (h:Dy P E n o σ x k=some r):OpS P n o σ k r:=by
 have hx:x∈o.op.operands.toList:=by rw[ho];simp[Op.operands]
 unfold Dy at h
 split at h
 ·rename_i T d0 e1
  exact aU h fun σ' ha d hd hn=>og ho hd hn (aY ha hx e1) fun ok w β z hz=>by
   have:=hz.2 rfl
   cases this with
   |rptr=>exact .inl ⟨_,rfl⟩
 ·rename_i l p q e1
  exact aU h fun σ' ha d hd hn=>og ho hd hn (aY ha hx e1) fun ok w β z hz=>by
   have:=hz.2 rfl
   cases this with
   |ptr=>exact .inl ⟨_,rfl⟩
 ·rename_i l i z p q e1
  exact aU h fun σ' ha d hd hn=>og ho hd hn (aY ha hx e1) fun ok w β z hz=>by
   have:=hz.2 rfl
   cases this with
   |eptr=>exact .inl ⟨_,rfl⟩
 ·rename_i f c e1
  exact aU h fun σ' ha d hd hn=>og ho hd hn (aY ha hx e1) fun ok w β z hz=>by
   have:=hz.2 rfl
   cases this with
   |fn=>exact .inr ⟨_,_,_,rfl⟩
 ·rename_i T d0 e1
  split at h
  ·rename_i T2 hT2
   have hh_:=Option.bind_eq_some_iff.1 h
   clear h
   obtain⟨e0,he0,h⟩:=hh_
   exact aU h fun σ' ha d hd hn=>og ho hd hn ((aY ha hx e1).pd (BJ hT2) he0) fun ok w β z hz=>by
        have:=hz.2 rfl
        cases this with
        |rptr=>exact .inl ⟨_,rfl⟩
  ·cases h
 ·cases h
theorem aoJ {op:BinOp} {T T' Tx Ty:TypeId} {q:IntKind} {a b:Int} (ho:o.op= .binOp op T x y T') (hux:P.underlying Tx=some (.int q)) (huy:P.underlying Ty=some (.int q))
  (hx:∀σ',Agr o σ σ' []→Ev P σ' x (.dat Tx (.int a))) (hy:∀σ',Agr o σ σ' []→Ev P σ' y (.dat Ty (.int b))) (h:ae1 P E n o op Tx q a b k=some r):OpS P n o σ k r:=by
 unfold ae1 at h
 simp only at h
 cases op with
 |add=>exact aU h fun σ' ha d hd hn=>amR ho hd hn hux huy (hx σ' ha) (hy σ' ha)
 |sub=>exact aU h fun σ' ha d hd hn=>amS ho hd hn hux huy (hx σ' ha) (hy σ' ha)
 |mul=>exact aU h fun σ' ha d hd hn=>amT ho hd hn hux huy (hx σ' ha) (hy σ' ha)
 |quo=>
  simp only at h
  by_cases hb:b=0
  ·simp[hb] at h
  ·simp only[hb,decide_false,cond_false] at h
   exact aU h fun σ' ha d hd hn=>amU ho hd hn hux huy (hx σ' ha) (hy σ' ha) hb
 |rem=>
  simp only at h
  by_cases hb:b=0
  ·simp[hb] at h
  ·simp only[hb,decide_false,cond_false] at h
   exact aU h fun σ' ha d hd hn=>amV ho hd hn hux huy (hx σ' ha) (hy σ' ha) hb
 |and=>exact aU h fun σ' ha d hd hn=>amW ho hd hn hux huy (hx σ' ha) (hy σ' ha)
 |or=>exact aU h fun σ' ha d hd hn=>aqp ho hd hn hux huy (hx σ' ha) (hy σ' ha)
 |xor=>exact aU h fun σ' ha d hd hn=>amX ho hd hn hux huy (hx σ' ha) (hy σ' ha)
 |andNot=>exact aU h fun σ' ha d hd hn=>amY ho hd hn hux huy (hx σ' ha) (hy σ' ha)
 |lss=>
  simp only at h
  split at h
  ·rename_i TB hTB;exact aU h fun σ' ha d hd hn=>amZ ho hd hn (gM hTB) hux huy (hx σ' ha) (hy σ' ha)
  ·cases h
 |leq=>
  simp only at h
  split at h
  ·rename_i TB hTB;exact aU h fun σ' ha d hd hn=>am0 ho hd hn (gM hTB) hux huy (hx σ' ha) (hy σ' ha)
  ·cases h
 |gtr=>
  simp only at h
  split at h
  ·rename_i TB hTB;exact aU h fun σ' ha d hd hn=>am1 ho hd hn (gM hTB) hux huy (hx σ' ha) (hy σ' ha)
  ·cases h
 |geq=>
  simp only at h
  split at h
  ·rename_i TB hTB;exact aU h fun σ' ha d hd hn=>am2 ho hd hn (gM hTB) hux huy (hx σ' ha) (hy σ' ha)
  ·cases h
 |eql=>
  simp only at h
  split at h
  ·rename_i TB hTB;exact aU h fun σ' ha d hd hn=>am3 ho hd hn (gM hTB) hux huy (hx σ' ha) (hy σ' ha)
  ·cases h
 |neq=>
  simp only at h
  split at h
  ·rename_i TB hTB;exact aU h fun σ' ha d hd hn=>am4 ho hd hn (gM hTB) hux huy (hx σ' ha) (hy σ' ha)
  ·cases h
 |_=>cases h
theorem aoK {op:BinOp} {T T' Tx Ty:TypeId} {a b:ByteArray} (ho:o.op= .binOp op T x y T') (hux:P.underlying Tx=some .string) (huy:P.underlying Ty=some .string)
  (hx:∀σ',Agr o σ σ' []→Ev P σ' x (.dat Tx (.str a))) (hy:∀σ',Agr o σ σ' []→Ev P σ' y (.dat Ty (.str b))) (h:ae2 P E n o op Tx a b k=some r):OpS P n o σ k r:=by
 unfold ae2 at h
 simp only at h
 cases op with
 |add=>
  simp only at h
  have hh_:=bif_some h
  clear h
  obtain⟨hs,h⟩:=hh_
  exact aU h fun σ' ha d hd hn=>am8 ho hd hn hux huy (hx σ' ha) (hy σ' ha) (by have:=Nat.le_of_ble_eq_true hs;unfold maxLen;omega)
 |lss=>
  simp only at h
  split at h
  ·rename_i TB hTB;exact aU h fun σ' ha d hd hn=>am7 ho hd hn (gM hTB) hux huy (hx σ' ha) (hy σ' ha)
  ·cases h
 |eql=>
  simp only at h
  split at h
  ·rename_i TB hTB;exact aU h fun σ' ha d hd hn=>am5 ho hd hn (gM hTB) hux huy (hx σ' ha) (hy σ' ha)
  ·cases h
 |neq=>
  simp only at h
  split at h
  ·rename_i TB hTB;exact aU h fun σ' ha d hd hn=>am6 ho hd hn (gM hTB) hux huy (hx σ' ha) (hy σ' ha)
  ·cases h
 |_=>cases h
theorem alQ {op:BinOp} {T T' Tx Ty:TypeId} {a b:Bool} (ho:o.op= .binOp op T x y T') (hu:P.underlying T=some .bool) (hux:P.underlying Tx=some .bool) (huy:P.underlying Ty=some .bool)
  (hx:∀σ',Agr o σ σ' []→Ev P σ' x (.dat Tx (.bool a))) (hy:∀σ',Agr o σ σ' []→Ev P σ' y (.dat Ty (.bool b))) (h:Yn P E n o op a b k=some r):OpS P n o σ k r:=by
 unfold Yn at h
 simp only at h
 cases op with
 |eql=>
  simp only at h
  split at h
  ·rename_i TB hTB;exact aU h fun σ' ha d hd hn=>am9 ho hd hn (gM hTB) hu hux huy (hx σ' ha) (hy σ' ha)
  ·cases h
 |neq=>
  simp only at h
  split at h
  ·rename_i TB hTB;exact aU h fun σ' ha d hd hn=>ana ho hd hn (gM hTB) hu hux huy (hx σ' ha) (hy σ' ha)
  ·cases h
 |_=>cases h
theorem aoL {op:BinOp} {T T':TypeId} (ho:o.op= .binOp op T x y T') (h:ae8 P E n o op T (opd P E.dt σ T x) y k=some r):OpS P n o σ k r:=by
 have hx:x∈o.op.operands.toList:=by rw[ho];simp[Op.operands]
 unfold ae8 at h
 split at h
 ·split  at h
  ·rename_i ms hu
   split at h
   ·    rename_i e1
        split at h
        ·rename_i TB hTB
         split at h
         ·exact aU h fun σ' ha d hd hn=>adp ho hd hn (gM hTB) hu (aY ha hx e1)
         ·exact aU h fun σ' ha d hd hn=>adq ho hd hn (gM hTB) hu (aY ha hx e1)
         ·cases h
        ·cases h
   ·cases h
  ·cases h
 ·cases h
theorem aqR {op:BinOp} {T T':TypeId} (ho:o.op= .binOp op T x y T') (h:alN P E n o σ op T x y k=some r):OpS P n o σ k r:=by
 have hx:x∈o.op.operands.toList:=by rw[ho];simp[Op.operands]
 unfold alN at h
 split at h
 ·split  at h
  ·rename_i T2 hT2
   split at h
   ·    rename_i T1 p e1
        have hh_:=bif_some h
        clear h
        obtain⟨hc,h⟩:=hh_
        rw[beq_eq hc] at e1
        split at h
        ·rename_i TB hTB
         split at h
         ·exact aU h fun σ' ha d hd hn=>acF ho hd hn (gM hTB) (BJ hT2) (aY ha hx e1) (.inl ⟨rfl,rfl⟩)
         ·exact aU h fun σ' ha d hd hn=>acF ho hd hn (gM hTB) (BJ hT2) (aY ha hx e1) (.inr ⟨rfl,rfl⟩)
         ·cases h
        ·cases h
   ·cases h
  ·cases h
 ·cases h
theorem aqS {op:BinOp} {T T':TypeId} (ho:o.op= .binOp op T x y T') (h:alO P E n o σ op T x y T' k=some r):OpS P n o σ k r:=by
 have hx:x∈o.op.operands.toList:=by rw[ho];simp[Op.operands]
 have hy:y∈o.op.operands.toList:=by rw[ho];simp[Op.operands]
 unfold alO at h
 split at h
 ·rename_i T2 q e2
  split at h
  ·rename_i T1 p e1
   cases hc:(aiK P T&&(Nat.beq T1 T&&Nat.beq T2 T)) with
   |    false=>
        rw[hc] at h
        exact aqR ho h
   |true=>
   rw[hc] at h
   simp only[cond_true] at h
   have u1:=beq_eq (and_l (and_r hc))
   have u2:=beq_eq (and_r (and_r hc))
   rw[u1] at e1
   rw[u2] at e2
   split at h
   ·    rename_i TB hTB
        split at h
        ·exact aU h fun σ' ha d hd hn=>alj ho hd hn (gM hTB) (and_l hc) (aY ha hx e1) (aY ha hy e2) (.inl ⟨rfl,rfl⟩)
        ·exact aU h fun σ' ha d hd hn=>alj ho hd hn (gM hTB) (and_l hc) (aY ha hx e1) (aY ha hy e2) (.inr ⟨rfl,rfl⟩)
        ·cases h
   ·cases h
  ·cases h
 ·exact aoL ho h
theorem aoM {op:BinOp} {T T':TypeId} (ho:o.op= .binOp op T x y T') (h:ae9 P E n o σ op T x y T' k=some r):OpS P n o σ k r:=by
 have hx:x∈o.op.operands.toList:=by rw[ho];simp[Op.operands]
 have hy:y∈o.op.operands.toList:=by rw[ho];simp[Op.operands]
 unfold ae9 at h
 split at h
 ·rename_i Tx q a ha
  obtain⟨d1,e1,u1,rfl⟩:=lD ha
  split at h
  ·rename_i Ty q' b hb
   obtain⟨d2,e2,u2,rfl⟩:=lD hb
   split at h
   ·    obtain⟨hq,h⟩:=bif_some h
        exact aU h fun σ' ag d hd hn=>alc ho hd hn u1 u2 ((aY ag hx e1).cint u1) ((aY ag hy e2).cint u2) (of_decide_eq_true hq) (.inl ⟨rfl,rfl⟩)
   ·    obtain⟨hq,h⟩:=bif_some h
        exact aU h fun σ' ag d hd hn=>alc ho hd hn u1 u2 ((aY ag hx e1).cint u1) ((aY ag hy e2).cint u2) (of_decide_eq_true hq) (.inr ⟨rfl,rfl⟩)
   ·    have hh_:=bif_some h
        clear h
        obtain⟨hq,h⟩:=hh_
        have hq':q=q':=by simpa using hq
        subst hq'
        exact aoJ ho u1 u2 (fun σ' ag=>(aY ag hx e1).cint u1) (fun σ' ag=>(aY ag hy e2).cint u2) h
  ·cases h
 ·split  at h
  ·rename_i Tx a ha
   obtain⟨d1,e1,u1,rfl⟩:=oO ha
   split at h
   ·    rename_i Ty b hb
        obtain⟨d2,e2,u2,rfl⟩:=oO hb
        exact aoK ho u1 u2 (fun σ' ag=>(aY ag hx e1).cstr u1) (fun σ' ag=>(aY ag hy e2).cstr u2) h
   ·cases h
  ·split at h
   ·    rename_i a ha
        obtain⟨Tx,d1,e1,u1,rfl⟩:=uG ha
        split at h
        ·rename_i b hb
         obtain⟨Ty,d2,e2,u2,rfl⟩:=uG hb
         have hh_:=bif_some h
         clear h
         obtain⟨hq,h⟩:=hh_
         exact alQ ho (XJ hq) u1 u2 (fun σ' ag=>(aY ag hx e1).cbool u1) (fun σ' ag=>(aY ag hy e2).cbool u2) h
        ·cases h
   ·exact aqS ho h
theorem aoN {T0:TypeId} (ho:o.op= .unOp .not T0 x) (h:afa P E n o σ x k=some r):OpS P n o σ k r:=by
 have hx:x∈o.op.operands.toList:=by rw[ho];simp[Op.operands]
 unfold afa at h
 split at h
 ·rename_i b hb
  obtain⟨Tx,d1,e1,u1,rfl⟩:=uG hb
  split at h
  ·rename_i TB hTB
   refine aU h fun σ' ha d hd hn=>?_
   have key:=amQ ho hd hn u1 ((aY ha hx e1).cbool u1)
   exact key.weak fun ok w β z hz=>by
        have:=(RV.bool u1 hz).2
        rw[this]
        exact RV.mk_bool (gM hTB)
  ·cases h
 ·cases h
theorem aoO (ho:o.op= .unOp .neg T x) (h:afb P E n o σ T x k=some r):OpS P n o σ k r:=by
 have hx:x∈o.op.operands.toList:=by rw[ho];simp[Op.operands]
 unfold afb at h
 split at h
 ·rename_i Tx q a ha
  obtain⟨d1,e1,u1,rfl⟩:=lD ha
  exact aU h fun σ' ha d hd hn=>anb ho hd hn u1 ((aY ha hx e1).cint u1)
 ·cases h
theorem ajt (ho:o.op= .unOp .xor T x) (h:Sn P E n o σ T x k=some r):OpS P n o σ k r:=by
 have hx:x∈o.op.operands.toList:=by rw[ho];simp[Op.operands]
 unfold Sn at h
 split at h
 ·rename_i Tx q a ha
  obtain⟨d1,e1,u1,rfl⟩:=lD ha
  exact aU h fun σ' ha d hd hn=>ahK ho hd hn u1 ((aY ha hx e1).cint u1)
 ·cases h
theorem ac4 {S1 S2:TypeId} (ho:o.op= .convert S1 S2 x) (h:GD P E n o σ S1 S2 x k=some r):OpS P n o σ k r:=by
 have hx:x∈o.op.operands.toList:=by rw[ho];simp[Op.operands]
 unfold GD at h
 split at h
 ·rename_i Tx q a ha
  obtain⟨d1,e1,u1,rfl⟩:=lD ha
  split at h
  ·rename_i q2 hu2
   have hh_:=bif_some h
   clear h
   obtain⟨hq,h⟩:=hh_
   exact aU h fun σ' ha d hd hn=>WJ ho hd hn (qP hq) hu2 u1 ((aY ha hx e1).cint u1)
  ·cases h
 ·split at h
  ·rename_i Tx a ha
   obtain⟨d1,e1,u1,rfl⟩:=oO ha
   have hh_:=bif_some h
   clear h
   obtain⟨hq,h⟩:=hh_
   exact aU h fun σ' ha d hd hn=>WK ho hd hn (tH (and_l hq)) (tH (and_r hq)) u1 ((aY ha hx e1).cstr u1)
  ·cases h
theorem alR (ho:o.op= .makeSlice T x y) (h:Yt P E n o σ T x y k=some r):OpS P n o σ k r:=by
 unfold Yt at h
 split at h
 ·rename_i Te hTe
  split at h
  ·rename_i z hz
   split at h
   ·    rename_i a ha
        split at h
        ·rename_i b hb
         have hh_:=bif_some h
         clear h
         obtain⟨hc,h⟩:=hh_
         have hh_:=pz h
         clear h
         obtain⟨hk0,h⟩:=hh_
         obtain⟨es,p1,p2,p3,p4,p5,h⟩:=ad8 h
         subst p4
         refine acw h fun σ' ag d hd hn=>?_
         have e1:X8 P σ' (some x) a:=uD (E:=E) (by rw[mU ag.ts (by intro z hz;cases hz;rw[ho];simp[Op.operands])];exact ha)
         have e2:X8 P σ' (some y) b:=uD (E:=E) (by rw[mU ag.ts (by intro z hz;cases hz;rw[ho];simp[Op.operands])];exact hb)
         obtain⟨TI,k1,u1,v1⟩:=e1
         obtain⟨TJ,k2,u2,v2⟩:=e2
         exact aiY ho hd hn (dJ hTe) (by rw[ag.hs _ (by simp)];exact pF σ) (by rw[ag.k0];exact hk0) (om hz) (BD hc) p5 u1 u2 v1 v2 p1 p2 p3
        ·cases h
   ·cases h
  ·cases h
 ·cases h
theorem LA {σ':St} {hs:List Ob} {k0:Nat} {rd:List Nat} (ha:Agr o σ σ' rd) {D:List TypeId} (hx:x∈o.op.operands.toList):Ev P (St.mk σ'.ts hs k0) x (opd P D σ T x):=by
 have e3:opd P D (St.mk σ'.ts hs k0) T x=opd P D σ T x:=by
  rw[←xA ha.ts hx]
  cases x<;>rfl
 rw[←e3]
 exact vW
theorem Agr.frz {σ':St} {ls:List Nat} {rd:List Nat} (ha:Agr o σ σ' rd) (h:∀l∈ls,l∈rd):frzW σ'.hs ls=frzW σ.hs ls:=oo fun l hl=>ha.hs l (h l hl)
theorem OB {d l:Nat} {T3 Te:TypeId} {lo hi:Option Operand} {i j:Int} {es:List Dt} (ho:o.op= .slice T x lo hi none) (hd:o.dst=some d) (hn:d<n) (hu:P.underlying T=some (.slice Te)) (h0c:P.cellsOf Te≠0)
  (hx:Ev P σ x (.row l)) (hl:lk σ.hs l= .row T3 es) (hlo:X8 P σ lo i) (hhi:aec P σ es.length hi j) (h0:0≤i) (hij:i≤j) (hj:j≤es.length):bn P n o σ (σ.put d .dead):=
 aG hd hn fun ok0 w0 a w β r=>by
  have e1:=mQ (hx _ _ _ _ _ _ r)
  have hob:=r.hs l
  rw[hl,e1] at hob
  obtain⟨E',xs,_,hown,_⟩:=Ez hob
  have hz:∃ao cap,a.eval x= .slice ao es.length cap∧es.length≤cap:=by
   rcases hown.2 with⟨h1,h2⟩| ⟨g,cap,cur,h1,_,_,h3,h4,_⟩
   ·exact⟨none,0,by rw[h1,h2],by rw[h2];exact Nat.zero_le _⟩
   ·exact⟨_,cap,h1,by omega⟩
  obtain⟨ao,cap,ex,hlc⟩:=hz
  have hb:=Dm (cap:=cap) r true hlo hhi h0 hij hj hlc
  cases hinf:P.info? Te with
  |none=>simp[Program.cellsOf,hinf] at h0c
  |some inf=>
   have hs:inf.size=P.cellsOf Te:=by simp[Program.cellsOf,hinf]
   exact⟨.slice (if cap=i.toNat then ao else ao.map (·.add (i.toNat*P.cellsOf Te))) (j.toNat-i.toNat) (cap-i.toNat),by simp[execOp,ho,ex,Instr.sliceAt,Instr.slice,run_underlying hu,hb,sizeOf,typeInfo,hinf,hs],trivial⟩
theorem afi {lo hi:Option Operand} (ho:o.op= .slice T x lo hi none) (h:Ls P E n o σ T x lo hi k=some r):OpS P n o σ k r:=by
 have hx:x∈o.op.operands.toList:=by rw[ho];simp[Op.operands]
 have hlo:∀z,lo=some z→z∈o.op.operands.toList:=by intro z hz;rw[ho,hz];simp[Op.operands]
 have hhi:∀z,hi=some z→z∈o.op.operands.toList:=by intro z hz;rw[ho,hz];simp[Op.operands]
 unfold Ls at h
 split at h
 ·rename_i l e1
  split at h
  ·rename_i T3 es hl
   split at h
   ·    rename_i a ha
        split at h
        ·rename_i b hb
         split at h
         ·rename_i Te hTe
          have hh_:=bif_some h
          clear h
          obtain⟨hc,h⟩:=hh_
          have hh_:=Option.bind_eq_some_iff.1 h
          clear h
          obtain⟨rs,hrs,h⟩:=hh_
          obtain⟨p1,p2,p3,p4⟩:=P8 hrs
          obtain⟨d,hd,hn,hk⟩:=oq h
          refine⟨_,hk,fun σ' ag=>?_⟩
          have key:=OB (σ:=σ') ho hd hn (dJ hTe) (BD hc) (aY ag hx e1) (by rw[ag.hs l (by simp)];exact hl) (uD (E:=E) (by rw[mU ag.ts hlo];exact ha)) (Uy (E:=E) (by rw[mU ag.ts hhi];exact hb)) p1 p2 p3
          rw[hd]
          exact key
         ·cases h
        ·cases h
   ·cases h
  ·cases h
 ·cases h
theorem aju {lo hi:Option Operand} (ho:o.op= .slice T x lo hi none) (h:Sq P E n o σ T x lo hi k=some r):OpS P n o σ k r:=by
 have hx:x∈o.op.operands.toList:=by rw[ho];simp[Op.operands]
 have hlo:∀z,lo=some z→z∈o.op.operands.toList:=by intro z hz;rw[ho,hz];simp[Op.operands]
 have hhi:∀z,hi=some z→z∈o.op.operands.toList:=by intro z hz;rw[ho,hz];simp[Op.operands]
 unfold Sq at h
 cases hsl:E.sld o with
 |true=>
  rw[hsl,cond_true] at h
  exact afi ho h
 |false=>
 rw[hsl,cond_false] at h
 split at h
 ·rename_i Tx s hs
  obtain⟨d1,e1,u1,rfl⟩:=oO hs
  split at h
  ·rename_i a ha
   split at h
   ·    rename_i b hb
        have hh_:=bif_some h
        clear h
        obtain⟨hc,h⟩:=hh_
        have hh_:=Option.bind_eq_some_iff.1 h
        clear h
        obtain⟨rs,hrs,h⟩:=hh_
        obtain⟨p1,p2,p3,p4⟩:=acR hrs
        subst p4
        exact aU h fun σ' ag d hd hn=>RP ho hd hn (tH hc) u1 ((aY ag hx e1).cstr u1) (uD (E:=E) (by rw[mU ag.ts hlo];exact ha)) (Uy (E:=E) (by rw[mU ag.ts hhi];exact hb)) p1 p2 p3
   ·cases h
  ·cases h
 ·split  at h
  ·rename_i Tx Te es hl
   obtain⟨d1,hp,u1,rfl⟩:=Cg hl
   split at h
   ·    rename_i a ha
        split at h
        ·rename_i b hb
         have hh_:=bif_some h
         clear h
         obtain⟨hc,h⟩:=hh_
         have hh_:=Option.bind_eq_some_iff.1 h
         clear h
         obtain⟨rs,hrs,h⟩:=hh_
         obtain⟨p1,p2,p3,p4⟩:=P8 hrs
         subst p4
         obtain⟨d,hd,hn,hk⟩:=oq h
         refine⟨_,hk,fun σ' ag=>?_⟩
         have hfw:=ag.frz (ls:=(opd P E.dt σ T x).rws) fun l hl=>hl
         obtain⟨u2,h0c⟩:=fE hc
         have hpk:pk P (wrO σ'.hs (frzW σ'.hs (opd P E.dt σ T x).rws)) (opd P E.dt σ T x)=some (Tx,d1):=by
          rw[←hp,hfw]
          exact BH _ fun l hl=>pO (fun l hl=>ag.hs l hl) l hl
         have hev:Ev P (St.mk σ'.ts (wrO σ'.hs (frzW σ'.hs (opd P E.dt σ T x).rws)) σ'.k0) x (.dat Tx d1):=Ev.pk (LA ag hx) hpk
         have hlo':uY P E (St.mk σ'.ts (wrO σ'.hs (frzW σ'.hs (opd P E.dt σ T x).rws)) σ'.k0) 0 lo=some a:=by
          rw[←ha]
          exact mU (fun t ht=>ag.ts t ht) hlo
         have hhi':uY P E (St.mk σ'.ts (wrO σ'.hs (frzW σ'.hs (opd P E.dt σ T x).rws)) σ'.k0) (d1.toLst.length:Nat) hi=some b:=by
          rw[←hb]
          exact mU (fun t ht=>ag.ts t ht) hhi
         have key:=(RQ ho hd hn u2 u1 h0c (hev.clst u1) (uD hlo') (Uy hhi') p1 p2 p3).pre (Imp.frzW (σ:=σ') (opd P E.dt σ T x).rws)
         rw[hd]
         rw[hfw] at key
         exact key
        ·cases h
   ·cases h
  ·cases h
theorem Vw {S:TypeId} {i:Nat} (ho:o.op= .fieldAddr S x i) (h:Ar P E n o σ S x i k=some r):OpS P n o σ k r:=by
 have hx:x∈o.op.operands.toList:=by rw[ho];simp[Op.operands]
 unfold Ar at h
 split at h
 ·rename_i fs hfs
  split at h
  ·rename_i f hf
   have hh_:=bif_some h
   clear h
   obtain⟨hc,h⟩:=hh_
   split at h
   ·    rename_i l p q e1
        exact aU h fun σ' ha d hd hn=>I6 ho hd hn (pq hfs) hf (BD hc) (aY ha hx e1)
   ·    rename_i l j z p q e1
        exact aU h fun σ' ha d hd hn=>F5 ho hd hn (pq hfs) hf (BD hc) (aY ha hx e1)
   ·    rename_i S' d0 e1
        have hh_:=bif_some h
        clear h
        obtain⟨hc2,h⟩:=hh_
        have e:=beq_eq (and_l hc2)
        subst e
        exact aU h fun σ' ha d hd hn=>xk ho hd hn (pq hfs) hf (BD hc) (Nat.le_of_ble_eq_true (and_r hc2)) (aY ha hx e1)
   ·    rename_i T2 d0 e1
        split at h
        ·rename_i S' hS'
         have hh_:=Option.bind_eq_some_iff.1 h
         clear h
         obtain⟨e0,he0,h⟩:=hh_
         have hh_:=bif_some h
         clear h
         obtain⟨hc2,h⟩:=hh_
         have e:=beq_eq (and_l hc2)
         subst e
         exact aU h fun σ' ha d hd hn=>xk ho hd hn (pq hfs) hf (BD hc) (Nat.le_of_ble_eq_true (and_r hc2)) ((aY ha hx e1).pd (BJ hS') he0)
        ·cases h
   ·cases h
  ·cases h
 ·cases h
theorem ajv {S:TypeId} {i:Nat} (ho:o.op= .field S x i) (h:Sr P E n o σ S x i k=some r):OpS P n o σ k r:=by
 have hx:x∈o.op.operands.toList:=by rw[ho];simp[Op.operands]
 unfold Sr at h
 split at h
 ·rename_i fs hfs
  split at h
  ·rename_i f hf
   split at h
   ·    rename_i S' d0 hp
        have hh_:=bif_some h
        clear h
        obtain⟨hc,h⟩:=hh_
        have e:=beq_eq (and_l hc)
        subst e
        obtain⟨q1,q2,⟨D,hD⟩,q4,q5⟩:=lF (and_r (and_r hc))
        exact aU h fun σ' ha d hd hn=>(aeb ho hd hn (pq hfs) hf hD (fun hf2=>q4 hf2) (Nat.le_of_ble_eq_true (and_l (and_r hc))) (Ev.pk (ru ha hx) (Oh _ hp))).can
   ·cases h
  ·cases h
 ·cases h
theorem Vx (ho:o.op= .indexAddr T x y) (h:Au P E n o σ T x y k=some r):OpS P n o σ k r:=by
 have hx:x∈o.op.operands.toList:=by rw[ho];simp[Op.operands]
 have hy:∀z,some y=some z→z∈o.op.operands.toList:=by intro z hz;cases hz;rw[ho];simp[Op.operands]
 unfold Au at h
 split at h
 ·rename_i i hi
  have hidx:∀σ' rd,Agr o σ σ' rd→∃TI k,P.underlying TI=some (.int k)∧Ev P σ' y (.dat TI (.int i)):=fun σ' rd ag=>uD (lo:=some y) (E:=E) (by rw[mU ag.ts hy];exact hi)
  split at h
  ·rename_i l e1
   split at h
   ·    rename_i T5 es hl
        split at h
        ·rename_i Te hTe
         have hh_:=bif_some h
         clear h
         obtain⟨hc,h⟩:=hh_
         have hh_:=Option.bind_eq_some_iff.1 h
         clear h
         obtain⟨u,hu,h⟩:=hh_
         obtain⟨p1,p2⟩:=ad9 hu
         obtain⟨u2,h0c⟩:=fE hc
         refine aU h fun σ' ag d hd hn=>?_
         obtain⟨TI,k1,v1,v2⟩:=hidx σ' _ ag
         exact Ub ho hd hn u2 h0c v1 (aY ag hx e1) v2 (by rw[ag.hs l (by simp)];exact hl) (dJ hTe) p1 p2
        ·cases h
   ·    rename_i T5 vs hl
        split at h
        ·rename_i Te hTe
         have hh_:=bif_some h
         clear h
         obtain⟨hc,h⟩:=hh_
         obtain⟨u2,h0c⟩:=fE (and_l hc)
         refine aU h fun σ' ag d hd hn=>?_
         obtain⟨TI,k1,v1,v2⟩:=hidx σ' _ ag
         exact P6 ho hd hn u2 h0c v1 (aY ag hx e1) v2 (by rw[ag.hs l (by simp)];exact hl) (by simpa using and_l (and_r hc)) (by simpa using and_r (and_r hc))
        ·cases h
   ·    rename_i T5 es hl
        split at h
        ·rename_i Te hTe
         have hh_:=bif_some h
         clear h
         obtain⟨hc,h⟩:=hh_
         have hh_:=Option.bind_eq_some_iff.1 h
         clear h
         obtain⟨e0,he0,h⟩:=hh_
         obtain⟨p1,p2⟩:=EJ he0
         obtain⟨u2,h0c⟩:=fE hc
         refine aU h fun σ' ag d hd hn=>?_
         obtain⟨TI,k1,v1,v2⟩:=hidx σ' _ ag
         exact F8 ho hd hn u2 (dJ hTe) h0c v1 ((aY ag hx e1).frz (by rw[ag.hs l (by simp)];exact hl)) v2 p1 p2
        ·cases h
   ·cases h
  ·rename_i v0 hne
   split at h
   ·    rename_i Tx Te es hl
        obtain⟨d1,hp,u1,rfl⟩:=Cg hl
        have hh_:=bif_some h
        clear h
        obtain⟨hc,h⟩:=hh_
        have hh_:=Option.bind_eq_some_iff.1 h
        clear h
        obtain⟨e0,he0,h⟩:=hh_
        obtain⟨p1,p2⟩:=EJ he0
        obtain⟨u2,h0c⟩:=fE hc
        refine aU h fun σ' ag d hd hn=>?_
        obtain⟨TI,k1,v1,v2⟩:=hidx σ' _ ag
        exact F8 ho hd hn u2 u1 h0c v1 ((Ev.pk (ru ag hx) (Oh _ hp)).clst u1) v2 p1 p2
   ·cases h
 ·cases h
theorem ajw (ho:o.op= .index T x y) (h:Sv P E n o σ T x y k=some r):OpS P n o σ k r:=by
 have hx:x∈o.op.operands.toList:=by rw[ho];simp[Op.operands]
 have hy:∀z,some y=some z→z∈o.op.operands.toList:=by intro z hz;cases hz;rw[ho];simp[Op.operands]
 unfold Sv at h
 split at h
 ·rename_i Tx s hs
  obtain⟨d1,e1,u1,rfl⟩:=oO hs
  split at h
  ·rename_i i hi
   have hh_:=bif_some h
   clear h
   obtain⟨hc,h⟩:=hh_
   have hh_:=Option.bind_eq_some_iff.1 h
   clear h
   obtain⟨c,hc2,h⟩:=hh_
   obtain⟨p1,u,p2,rfl⟩:=acQ hc2
   refine aU h fun σ' ag d hd hn=>?_
   obtain⟨TI,k1,v1,v2⟩:=uD (lo:=some y) (E:=E) (σ:=σ') (i:=i) (by rw[mU ag.ts hy];exact hi)
   exact TW ho hd hn v1 (qP (and_r hc)) (tH (and_l hc)) u1 ((aY ag hx e1).cstr u1) v2 p1 p2
  ·cases h
 ·split  at h
  ·rename_i T' e he
   split at h
   ·    rename_i len Te hu
        split at h
        ·rename_i i hi
         have hh_:=bif_some h
         clear h
         obtain⟨hc,h⟩:=hh_
         have hh_:=Option.bind_eq_some_iff.1 h
         clear h
         obtain⟨q,hq,h⟩:=hh_
         obtain⟨p1,p2⟩:=EJ hq
         have eT:=beq_eq (and_l hc)
         subst eT
         obtain⟨_,_,⟨D,hD⟩,h1,_⟩:=lF (and_r (and_r hc))
         refine aU h fun σ' ag d hd hn=>?_
         obtain⟨TI,k1,v1,v2⟩:=uD (lo:=some y) (E:=E) (σ:=σ') (i:=i) (by rw[mU ag.ts hy];exact hi)
         exact(UO ho hd hn hu hD h1 (beq_eq (and_l (and_r hc))) v1 (aY ag hx he) v2 p1 p2).can
        ·cases h
   ·cases h
  ·cases h
theorem ac5 {i:Nat} (ho:o.op= .extract x i) (h:GI P E n o σ x i k=some r):OpS P n o σ k r:=by
 have hx:x∈o.op.operands.toList:=by rw[ho];simp[Op.operands]
 unfold GI at h
 split at h
 ·rename_i vs e1
  split at h
  ·cases h
  ·rename_i v0 hne hv
   exact aU h fun σ' ha d hd hn=>ZG ho hd hn (aY ha hx e1) hv fun us e=>hne us e
  ·cases h
 ·cases h
theorem DC:∀{vs:List AV},Vs P vs=true→∀v∈vs,v.isAgg P=false∧v≠ .dead∧∀us,v≠ .tup us
 | [],_,v,hv=>by simp at hv
 |u::r,h,v,hv=>by
  unfold Vs at h
  rcases List.mem_cons.1 hv with e|hv
  ·subst e
   have h1:=and_l h
   split at h1
   ·cases h1
   ·cases h1
   ·    rename_i h3 h4
        exact⟨by simpa using h1,fun e=>h4 e,fun us e=>h3 us e⟩
  ·exact DC (and_r h) v hv
theorem afj {D:List TypeId}:∀{xs:List Operand},EvXs P σ xs (xs.map (opd P D σ T))
 | []=> .nil
 |x::xs=> .cons vW afj
theorem Vy {d:Nat} {f:FuncId} {first:Array Operand} {xs:List Operand} {caps:List AV} (ho:o.op= .makeFunc (.func f) first xs.toArray) (hf:first.size=0) (hd:o.dst=some d) (hn:d<n) (ha:EvXs P σ xs caps) (hc:∀v∈caps,v.isAgg P=false∧v≠ .dead∧∀us,v≠ .tup us):bn P n o σ (σ.put d (.fn f caps)):=
 aG hd hn fun ok0 w0 a w β r=>by
  have hfe:first= #[]:=Array.eq_empty_of_size_eq_zero hf
  subst hfe
  have h:=ha.rvs r
  refine⟨.func (.func f) #[] (xs.map a.eval).toArray,by simp[execOp,ho,Instr.makeFunc,List.map_toArray],⟨fun hi=>by simp[AV.isAgg] at hi,fun _=> .fn (by simpa using h.len) fun i av hv=>?_⟩⟩
  obtain⟨z,h1,h2⟩:=h.get i av hv
  have hm:=hc av (List.mem_of_getElem? hv)
  have e:(xs.map a.eval).toArray.getD i undef=z:=by
   simp only[Array.getD_eq_getD_getElem?,List.getElem?_toArray,h1,Option.getD_some]
  rw[e]
  exact(RV.to1 hm.2.1 hm.2.2 h2).2 hm.1
theorem Yv {f:FuncId} {first caps:Array Operand} (ho:o.op= .makeFunc (.func f) first caps) (h:Dz P E n o σ f first.size caps.toList k=some r):OpS P n o σ k r:=by
 unfold Dz at h
 have hh_:=bif_some h
 clear h
 obtain⟨hc,h⟩:=hh_
 refine aU h fun σ' ag d hd hn=>Vy (xs:=caps.toList) (by rw[ho]) (beq_eq (and_l hc)) hd hn ?_ (DC (and_r hc))
 have e:caps.toList.map (opd P E.dt σ' 0)=caps.toList.map (opd P E.dt σ 0):=by
  refine List.map_congr_left fun z hz=>xA ag.ts ?_
  rw[ho];simp[Op.operands,hz]
 rw[←e]
 exact afj
theorem aoP {xs:Array Operand} {Ts:Array TypeId} (ho:o.op= .call ⟨.builtin .len,xs,Ts⟩) (hxs:xs.toList=[x]) (hTs:Ts.toList=[T]) (h:aff P E n o σ T x k=some r):OpS P n o σ k r:=by
 have hxs':xs= #[x]:=by apply Array.ext';simpa using hxs
 have hTs':Ts= #[T]:=by apply Array.ext';simpa using hTs
 subst hxs' hTs'
 have hx:x∈o.op.operands.toList:=by rw[ho];simp[Op.operands,Call.operands]
 unfold aff at h
 have hh_:=bif_some h
 clear h
 obtain⟨hI,h⟩:=hh_
 split at h
 ·rename_i Tx s hs
  obtain⟨d1,e1,u1,rfl⟩:=oO hs
  have hh_:=bif_some h
  clear h
  obtain⟨hc,h⟩:=hh_
  exact aU h fun σ' ag d hd hn=>ZE ho hd hn (qP hI) (tH hc) u1 ((aY ag hx e1).cstr u1)
 ·split  at h
  ·rename_i Te hTe
   split at h
   ·    rename_i l e1
        split at h
        ·rename_i T5 es hl
         exact aU h fun σ' ag d hd hn=>ZF ho hd hn (qP hI) (dJ hTe) (aY ag hx e1) (by rw[ag.hs l (by simp)];exact hl)
        ·rename_i T5 vs hl
         exact aU h fun σ' ag d hd hn=>XZ (E:=0) ho hd hn (qP hI) (dJ hTe) (aY ag hx e1) (by rw[ag.hs l (by simp)];exact hl)
        ·rename_i T5 es hl
         have hh_:=bif_some h
         clear h
         obtain⟨hsl,h⟩:=hh_
         obtain⟨E5,hE5⟩:=Option.isSome_iff_exists.1 hsl
         refine aU h fun σ' ag d hd hn=>?_
         have hl':lk σ'.hs l= .frz T5 es:=by rw[ag.hs l (by simp)];exact hl
         exact NG ho hd hn (qP hI) (dJ hTe) (dJ hE5) ((aY ag hx e1).frz hl')
        ·cases h
   ·    split at h
        ·rename_i Tx Te2 es hl
         obtain⟨d1,hp,u1,rfl⟩:=Cg hl
         exact aU h fun σ' ag d hd hn=>NG ho hd hn (qP hI) (dJ hTe) u1 ((Ev.pk (ru ag hx) (Oh _ hp)).clst u1)
        ·cases h
  ·cases h
theorem alS {d:Nat} {k:IntKind} {T3 T4 T1 T2:TypeId} {p q:Int} (ho:o.op= .call ⟨.builtin .max,#[x,y],#[T1,T2]⟩) (hd:o.dst=some d) (hn:d<n)
  (hu:P.underlying T3=some (.int k)) (hu':P.underlying T4=some (.int k)) (hx:Ev P σ x (.dat T3 (.int p))) (hy:Ev P σ y (.dat T4 (.int q))):bn P n o σ (σ.put d (.dat T3 (.int (bif decide (p<q) then q else p)))):=
 aG hd hn fun ok0 w0 a w β r=>by
  obtain⟨_,e1,b1,b2⟩:=RV.int hu (hx _ _ _ _ _ _ r)
  obtain⟨_,e2,b3,b4⟩:=RV.int hu' (hy _ _ _ _ _ _ r)
  simp only[Dt.toInt] at e1 e2 b1 b2 b3 b4
  refine⟨.int k (bif decide (p<q) then q else p),?_,RV.mk_int hu ?_ ?_⟩
  ·by_cases h:p<q<;>simp[execOp,ho,e1,e2,resolve,invoke,builtin,Builtin.max_,Builtin.max2,h]
  ·by_cases h:p<q<;>simp[h,b1,b3]
  ·by_cases h:p<q<;>simp[h,b2,b4]
theorem alT {d:Nat} {k:IntKind} {T3 T4 T1 T2:TypeId} {p q:Int} (ho:o.op= .call ⟨.builtin .min,#[x,y],#[T1,T2]⟩) (hd:o.dst=some d) (hn:d<n)
  (hu:P.underlying T3=some (.int k)) (hu':P.underlying T4=some (.int k)) (hx:Ev P σ x (.dat T3 (.int p))) (hy:Ev P σ y (.dat T4 (.int q))):bn P n o σ (σ.put d (.dat T3 (.int (bif decide (q<p) then q else p)))):=
 aG hd hn fun ok0 w0 a w β r=>by
  obtain⟨_,e1,b1,b2⟩:=RV.int hu (hx _ _ _ _ _ _ r)
  obtain⟨_,e2,b3,b4⟩:=RV.int hu' (hy _ _ _ _ _ _ r)
  simp only[Dt.toInt] at e1 e2 b1 b2 b3 b4
  refine⟨.int k (bif decide (q<p) then q else p),?_,RV.mk_int hu ?_ ?_⟩
  ·by_cases h:q<p<;>simp[execOp,ho,e1,e2,resolve,invoke,builtin,Builtin.min_,Builtin.min2,h]
  ·by_cases h:q<p<;>simp[h,b1,b3]
  ·by_cases h:q<p<;>simp[h,b2,b4]
theorem two {A:Type} {xs:Array A} {a b:A} (h:xs.toList=[a,b]):xs= #[a,b]:=by apply Array.ext';simpa using h
theorem aoQ {xs:Array Operand} {Ts:Array TypeId} {T':TypeId} (ho:o.op= .call ⟨.builtin .min,xs,Ts⟩) (hxs:xs.toList=[x,y]) (hTs:Ts.toList=[T,T']) (h:afg P E n o σ T T' x y k=some r):OpS P n o σ k r:=by
 have hxs':=two hxs
 have hTs':=two hTs
 subst hxs' hTs'
 have hx:x∈o.op.operands.toList:=by rw[ho];simp[Op.operands,Call.operands]
 have hy:y∈o.op.operands.toList:=by rw[ho];simp[Op.operands,Call.operands]
 unfold afg at h
 split at h
 ·rename_i Tx q a ha
  obtain⟨d1,e1,u1,rfl⟩:=lD ha
  split at h
  ·rename_i Ty q' b hb
   obtain⟨d2,e2,u2,rfl⟩:=lD hb
   have hh_:=bif_some h
   clear h
   obtain⟨hq,h⟩:=hh_
   have hq':q=q':=by simpa using hq
   subst hq'
   exact aU h fun σ' ag d hd hn=>alT ho hd hn u1 u2 ((aY ag hx e1).cint u1) ((aY ag hy e2).cint u2)
  ·cases h
 ·cases h
theorem aoR {xs:Array Operand} {Ts:Array TypeId} {T':TypeId} (ho:o.op= .call ⟨.builtin .max,xs,Ts⟩) (hxs:xs.toList=[x,y]) (hTs:Ts.toList=[T,T']) (h:afh P E n o σ T T' x y k=some r):OpS P n o σ k r:=by
 have hxs':=two hxs
 have hTs':=two hTs
 subst hxs' hTs'
 have hx:x∈o.op.operands.toList:=by rw[ho];simp[Op.operands,Call.operands]
 have hy:y∈o.op.operands.toList:=by rw[ho];simp[Op.operands,Call.operands]
 unfold afh at h
 split at h
 ·rename_i Tx q a ha
  obtain⟨d1,e1,u1,rfl⟩:=lD ha
  split at h
  ·rename_i Ty q' b hb
   obtain⟨d2,e2,u2,rfl⟩:=lD hb
   have hh_:=bif_some h
   clear h
   obtain⟨hq,h⟩:=hh_
   have hq':q=q':=by simpa using hq
   subst hq'
   exact aU h fun σ' ag d hd hn=>alS ho hd hn u1 u2 ((aY ag hx e1).cint u1) ((aY ag hy e2).cint u2)
  ·cases h
 ·cases h
theorem u6 {KT V:TypeId} (h:Lu P T=some (KT,V)):P.underlying T=some (.map KT V)∧P.underlying KT=some .string∧bW P V=false:=by
 unfold Lu at h
 split at h
 ·rename_i K V' hu
  obtain⟨h1,h2⟩:=bif_some h
  cases h2
  exact⟨hu,tH (and_l h1),by simpa using and_r h1⟩
 ·cases h
theorem Yw {z:Dt} (h:afc P T=some z):∃(i:TypeInfo) (zv:Value),P.info? T=some i∧i.zero=some zv∧∀(ok:Nat→Prop) (w:World),RD P ok w T z [zv]:=by
 unfold afc at h
 split at h
 ·rename_i i hi
  split at h
  ·rename_i zv hz
   cases hb:Dx zv with
   |true=>rw[hb] at h;cases h
   |    false=>
        rw[hb] at h
        obtain⟨i',z',q1,q2,q3,q4⟩:=(om h).ex
        rw[hi] at q1;cases q1
        rw[hz] at q2;cases q2
        refine⟨_,zv,hi,hz,fun ok w=>?_⟩
        have e:zv.cells.toList=[zv]:=by cases zv<;>first|rfl|cases hb
        rw[←e];exact q4 ok w
  ·cases h
 ·cases h
theorem akW {A:Type} {b:Bool} {u v:Option A} {q:A} (h:(bif b then u else v)=some q):(b=true∧u=some q)∨(b=false∧v=some q):=by cases b<;>simp_all
theorem ac6 (h:alP P T=true):∃(i:TypeInfo),P.info? T=some i∧i.zero=some (.slice none 0 0):=by
 unfold alP at h
 split at h
 ·rename_i i hi
  split at h
  ·rename_i hz;exact⟨i,hi,hz⟩
  ·cases h
 ·cases h
theorem afk {   two:Bool} (ho:o.op= .lookup T x y two) (h:Lv P E n o σ T x y two k=some r):OpS P n o σ k r:=by
 have hx:x∈o.op.operands.toList:=by rw[ho];simp[Op.operands]
 have hy:y∈o.op.operands.toList:=by rw[ho];simp[Op.operands]
 unfold Lv at h
 split at h
 ·rename_i KT V hkv
  obtain⟨u1,u2,u3⟩:=u6 hkv
  split at h
  ·rename_i z hz
   have hz':=Yw hz
   split at h
   ·    rename_i l e1
        split at h
        ·rename_i T5 es hl
         split at h
         ·rename_i K5 V5 hkv5
          obtain⟨p1,p2,p3⟩:=u6 hkv5
          split at h
          ·rename_i TS s hs
           obtain⟨d2,e2,us,rfl⟩:=oO hs
           have hh_:=bif_some h
           clear h
           obtain⟨hc,h⟩:=hh_
           have c1:=beq_eq (and_l hc)
           have c2:=beq_eq (and_r hc)
           subst c1;subst c2
           cases two with
           |  true=>
              simp only[cond_true] at h
              split at h
              · rename_i TB hTB
                exact aU h fun σ' ag d hd hn=>ZP ho hd hn u1 u2 u3 (gM hTB) hz' us (aY ag hx e1) ((aY ag hy e2).cstr us) (by rw[ag.hs l (by simp)];exact hl) p1
              ·cases h
           |  false=>
              simp only[cond_false] at h
              rcases akW h with⟨_,h⟩| ⟨_,h⟩
              ·exact aU h fun σ' ag d hd hn=>(Rj ho hd hn u1 u2 u3 hz' us (aY ag hx e1) ((aY ag hy e2).cstr us) (by rw[ag.hs l (by simp)];exact hl) p1).can
              · rcases akW h with⟨_,h⟩| ⟨hm,h⟩
                ·exact aU h fun σ' ag d hd hn=>(Rj ho hd hn u1 u2 u3 hz' us (aY ag hx e1) ((aY ag hy e2).cstr us) (by rw[ag.hs l (by simp)];exact hl) p1).can
                ·obtain⟨hnz,h⟩:=bif_some h
                 exact aU h fun σ' ag d hd hn=>ZO ho hd hn u1 u2 (ac6 hnz) us (aY ag hx e1) ((aY ag hy e2).cstr us) (by rw[ag.hs l (by simp)];exact hl) p1 hm
          ·cases h
         ·cases h
        ·cases h
   ·cases h
  ·cases h
 ·cases h
theorem ac7 (ho:o.op= .makeMap T none) (h:GH P n o σ T k=some r):OpS P n o σ k r:=by
 unfold GH at h
 split at h
 ·rename_i kv hkv
  obtain⟨KT,V⟩:=kv
  obtain⟨u1,u2,u3⟩:=u6 hkv
  have hh_:=pz h
  clear h
  obtain⟨hk0,h⟩:=hh_
  exact acw h fun σ' ag d hd hn=>ZQ ho hd hn u1 u2 (by rw[ag.hs _ (by simp)];exact pF σ) (by rw[ag.k0];exact hk0)
 ·cases h
theorem Vz {u:Operand} (ho:o.op= .mapUpdate T x y u) (h:Av P E o σ T x y u k=some r):OpS P n o σ k r:=by
 have hx:x∈o.op.operands.toList:=by rw[ho];simp[Op.operands]
 have hy:y∈o.op.operands.toList:=by rw[ho];simp[Op.operands]
 have hu:u∈o.op.operands.toList:=by rw[ho];simp[Op.operands]
 unfold Av at h
 split at h
 ·rename_i KT V hkv
  obtain⟨u1,u2,u3⟩:=u6 hkv
  split at h
  ·rename_i l e1
   split at h
   ·    rename_i T5 es hl
        split at h
        ·rename_i K5 V5 hkv5
         obtain⟨p1,p2,p3⟩:=u6 hkv5
         split at h
         ·rename_i TS s hs
          obtain⟨d2,e2,us,rfl⟩:=oO hs
          split at h
          ·rename_i TV dv hpk
           have hh_:=bif_some h
           clear h
           obtain⟨hc,h⟩:=hh_
           have hnm:l∉(opd P E.dt σ V u).rws:=EM (by simpa using and_r (and_r hc))
           obtain⟨hd,hk⟩:=Ch h
           refine⟨_,hk,fun σ' ag=>?_⟩
           have hagr:∀l2∈(opd P E.dt σ V u).rws,lk σ'.hs l2=lk σ.hs l2:=fun l2 hl2=>ag.hs l2 (by simp[hl2])
           rw[hd]
           have hev:∀{z:Operand} {w:AV} {T0:TypeId},z∈o.op.operands.toList→opd P E.dt σ T0 z=w→Ev P (St.mk σ'.ts (wrO σ'.hs (frzW σ'.hs (opd P E.dt σ V u).rws)) σ'.k0) z w:=by
              rintro z w T0 hz rfl
              have e3:opd P E.dt (St.mk σ'.ts (wrO σ'.hs (frzW σ'.hs (opd P E.dt σ V u).rws)) σ'.k0) T0 z=opd P E.dt σ T0 z:=by
                rw[←xA ag.ts hz]
                cases z<;>rfl
              rw[←e3]
              exact vW
           have hpk2:pk P (wrO σ'.hs (frzW σ'.hs (opd P E.dt σ V u).rws)) (opd P E.dt σ V u)=some (TV,dv):=by
              rw[←hpk,oo hagr]
              exact BH _ fun l2 hl2=>pO hagr l2 hl2
           have key:bn P n o ⟨σ'.ts,wrO σ'.hs (frzW σ'.hs (opd P E.dt σ V u).rws),σ'.k0⟩ ((St.mk σ'.ts (wrO σ'.hs (frzW σ'.hs (opd P E.dt σ V u).rws)) σ'.k0).lay l (.map T5 (mput es d2.toStr dv))):=by
              refine Ui (n:=n) ho hd u1 u2 p1 (by simpa using and_l (and_r hc)) (and_l hc) us (hev hx e1) ((hev hy e2).cstr us) (Ev.pk (hev hu rfl) hpk2) ?_
              show lk (wrO σ'.hs _) l=_
              rw[zC hnm,ag.hs l (by simp)]
              exact hl
           have hfin:St.mk (aeZ σ'.ts none none) (wrO σ'.hs (frzW σ.hs (opd P E.dt σ V u).rws++[(l,.map T5 (mput es d2.toStr dv))])) σ'.k0=(St.mk σ'.ts (wrO σ'.hs (frzW σ'.hs (opd P E.dt σ V u).rws)) σ'.k0).lay l (.map T5 (mput es d2.toStr dv)):=by
              rw[sO,oo hagr]
              rfl
           have:=key.pre (Imp.frzW (σ:=σ') (opd P E.dt σ V u).rws)
           rw[←hfin] at this
           exact this
          ·cases h
         ·cases h
        ·cases h
   ·cases h
  ·cases h
 ·cases h
theorem GJ:∀{ts:List (Nat×List Value)} {g:Nat} {cs:List Value},Lx ts g=some cs→(g,cs)∈ts
 | [],_,_,h=>by cases h
 |t::r,g,cs,h=>by
  unfold Lx at h
  cases hb:Nat.beq t.1 g with
  |true=>
   rw[hb] at h
   cases h
   have e:=beq_eq hb
   subst e
   exact List.mem_cons_self
  |false=>
   rw[hb] at h
   exact List.mem_cons_of_mem _ (GJ h)
theorem VA {Te:TypeId} {sz:Nat}:∀{m:Nat} {cs:List Value} {ds:List Dt},afd P Te sz m cs=some ds→∀(i:Nat) (d:Dt),ds[i]? =some d→∀(ok:Nat→Prop) (w:World),RD P ok w Te d ((cs.drop (i*sz)).take sz)∧i<m
 |0,cs,ds,h,i,d,hd,ok,w=>by
  unfold afd at h
  cases h
  simp at hd
 |m+    1,cs,ds,h,i,d,hd,ok,w=>by
  unfold afd at h
  split at h
  ·rename_i v hv
   split at h
   ·    rename_i T' d' hp
        obtain⟨h1,h2⟩:=bif_some h
        have e:=beq_eq h1
        subst e
        split at h2
        ·rename_i ds' hds
         cases h2
         cases i with
         |zero=>
          simp only[List.getElem?_cons_zero,Option.some.injEq] at hd
          subst hd
          refine⟨?_,by omega⟩
          simp only[Nat.zero_mul,List.drop_zero]
          exact jA (β:=fun _=>none) (hs:=[]) (fun l T es hl=>by simp[lk] at hl) ((Ce hv).1 ok w _) hp
         |succ i=>
          simp only[List.getElem?_cons_succ] at hd
          obtain⟨q1,q2⟩:=VA hds i d hd ok w
          rw[List.drop_drop,show sz+i*sz=(i+1)*sz by rw[Nat.succ_mul];omega] at q1
          exact⟨q1,by omega⟩
        ·cases h2
   ·cases h
  ·cases h
theorem aoT {g:Nat} (ho:o.op= .indexAddr T (.global g) y) (h:afe P E n o σ T g y k=some r):OpS P n o σ k r:=by
 have hy:y∈o.op.operands.toList:=by rw[ho];simp[Op.operands]
 unfold afe at h
 split at h
 ·rename_i len Te hu
  split at h
  ·rename_i cs hcs
   split at h
   ·    rename_i ds hds
        split at h
        ·rename_i i hi
         have hh_:=bif_some h
         clear h
         obtain⟨hc,h⟩:=hh_
         have hh_:=Option.bind_eq_some_iff.1 h
         clear h
         obtain⟨e,he,h⟩:=hh_
         obtain⟨p1,p2⟩:=EJ he
         have h0:=BD (and_l hc)
         have hlen:=beq_eq (and_r hc)
         refine aU h fun σ' ag d hd hn=>?_
         obtain⟨TI,k1,v1,v2⟩:=uD (lo:=some y) (E:=E) (σ:=σ') (i:=i) (by rw[mU ag.ts (by intro z hz;cases hz;exact hy)];exact hi)
         refine aG hd hn fun ok0 w0 a w β r=>?_
         obtain⟨_,e2,_⟩:=RV.int v1 (v2 _ _ _ _ _ _ r)
         simp only[Dt.toInt] at e2
         obtain⟨hok,TT,fr,hblk⟩:=r.tab.1 _ (GJ hcs)
         have hmul:∀m,m<len→m*P.cellsOf Te+P.cellsOf Te≤len*P.cellsOf Te:=fun m hm=>by
          have:=Nat.mul_le_mul_right (P.cellsOf Te) (show m+1≤len from hm)
          rw[Nat.succ_mul] at this
          exact this
         have hq:=VA hds i.toNat e p2
         have hlt:=(hq (fun _=>True) w).2
         have hm:=hmul _ hlt
         refine⟨.pointer (some ((⟨g,0,none⟩:Addr).add (i.toNat*P.cellsOf Te))),?_,KG (cs:=(cs.drop (i.toNat*P.cellsOf Te)).take (P.cellsOf Te)) (by rw[block_add];exact hok) (by rw[List.length_take,List.length_drop];omega) (fun j v hv=>?_) (hq _ w).1⟩
         ·have hii:i<len:=by omega
          cases hin:P.info? Te with
          |none=>simp[Program.cellsOf,hin] at h0
          | some inf=>
            unfold execOp
            simp only[ho,e2,Sem.run_bind]
            have ea:a.eval (.global g)= .pointer (some ⟨g,0,none⟩):=rfl
            rw[ea]
            simp[Instr.indexAt,asIntOf,run_underlying hu,Instr.sureAddr,p1,hii,sizeOf,typeInfo,hin,Program.cellsOf]
         ·rw[add_add,qJ,Nat.zero_add]
          rw[List.getElem?_take] at hv
          split at hv
          · rename_i hj
            rw[List.getElem?_drop] at hv
            have hb:w.heap[g]? =some (.cells cs.toArray TT fr):=hblk
            simp only[World.cell?,hb]
            simpa using hv
          ·cases hv
        ·cases h
   ·cases h
  ·cases h
 ·cases h
end
end Go.Am
