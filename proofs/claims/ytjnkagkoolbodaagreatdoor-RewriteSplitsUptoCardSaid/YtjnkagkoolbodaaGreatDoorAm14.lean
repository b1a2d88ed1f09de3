/- The abstract machine, part 14: each operation of the machine is so in the model, continued. -/
import Derived.Test.YtjnkagkoolbodaaGreatDoorAm13
set_option linter.unusedVariables false
set_option linter.unusedSimpArgs false
namespace Go.Am
open Go.RowKit
section
variable {P:Program} {n:Nat} {o:Oper} {σ τ:St} {x y:Operand} {v:AV} {T:TypeId} {R:Type} {E:Env} {k:Dl→Option R} {r:R}
theorem dX {d:Nat} (ho:o.op= .nilCheck x) (hd:o.dst=some d) (hn:d<n) (hx:Ev P σ x v)
  (hv:∀(ok:Nat→Prop) (w:World) (β:Nat→Option Value) (z:Value),RV P ok w β v z→(∃ad,z= .pointer (some ad))∨∃f a b,z= .func (.func f) a b):aI P n o σ (σ.put d v):=
 aC hd hn fun ok0 w0 a w β r=>by
  have h:=hx _ _ _ _ _ _ r
  rcases hv _ _ _ _ h with⟨ad,e⟩| ⟨f,a1,b1,e⟩
  ·exact⟨_,by simp[execOp,ho,e],e▸h⟩
  ·exact⟨_,by simp[execOp,ho,e],e▸h⟩
theorem Qh (ho:o.op= .nilCheck x) (h:oP P E n o σ x k=some r):OpS P n o σ k r:=by
 have hx:x∈o.op.operands.toList:=by rw[ho];simp[Op.operands]
 unfold oP at h
 split at h
 ·rename_i T d0 e1
  exact aG h fun σ' ha d hd hn=>dX ho hd hn (aJ ha hx e1) fun ok w β z hz=>by
   have:=hz.2 rfl
   cases this with
   |rptr=>exact .inl ⟨_,rfl⟩
 ·rename_i l p q e1
  exact aG h fun σ' ha d hd hn=>dX ho hd hn (aJ ha hx e1) fun ok w β z hz=>by
   have:=hz.2 rfl
   cases this with
   |ptr=>exact .inl ⟨_,rfl⟩
 ·rename_i l i z p q e1
  exact aG h fun σ' ha d hd hn=>dX ho hd hn (aJ ha hx e1) fun ok w β z hz=>by
   have:=hz.2 rfl
   cases this with
   |eptr=>exact .inl ⟨_,rfl⟩
 ·rename_i f c e1
  exact aG h fun σ' ha d hd hn=>dX ho hd hn (aJ ha hx e1) fun ok w β z hz=>by
   have:=hz.2 rfl
   cases this with
   |fn=>exact .inr ⟨_,_,_,rfl⟩
 ·cases h
theorem aA5 {op:BinOp} {T T' Tx Ty:TypeId} {q:IntKind} {a b:Int} (ho:o.op= .binOp op T x y T') (hux:P.underlying Tx=some (.int q)) (huy:P.underlying Ty=some (.int q))
  (hx:∀σ',Agr o σ σ' []→Ev P σ' x (.dat Tx (.int a))) (hy:∀σ',Agr o σ σ' []→Ev P σ' y (.dat Ty (.int b))) (h:ahP P E n o op Tx q a b k=some r):OpS P n o σ k r:=by
 unfold ahP at h
 simp only at h
 cases op with
 |add=>exact aG h fun σ' ha d hd hn=>ayW ho hd hn hux huy (hx σ' ha) (hy σ' ha)
 |sub=>exact aG h fun σ' ha d hd hn=>ayX ho hd hn hux huy (hx σ' ha) (hy σ' ha)
 |mul=>exact aG h fun σ' ha d hd hn=>ayY ho hd hn hux huy (hx σ' ha) (hy σ' ha)
 |quo=>
  simp only at h
  by_cases hb:b=0
  ·simp[hb] at h
  ·simp only[hb,decide_false,cond_false] at h
   exact aG h fun σ' ha d hd hn=>ayZ ho hd hn hux huy (hx σ' ha) (hy σ' ha) hb
 |rem=>
  simp only at h
  by_cases hb:b=0
  ·simp[hb] at h
  ·simp only[hb,decide_false,cond_false] at h
   exact aG h fun σ' ha d hd hn=>ay0 ho hd hn hux huy (hx σ' ha) (hy σ' ha) hb
 |and=>exact aG h fun σ' ha d hd hn=>ay1 ho hd hn hux huy (hx σ' ha) (hy σ' ha)
 |or=>exact aG h fun σ' ha d hd hn=>aCL ho hd hn hux huy (hx σ' ha) (hy σ' ha)
 |xor=>exact aG h fun σ' ha d hd hn=>ay2 ho hd hn hux huy (hx σ' ha) (hy σ' ha)
 |andNot=>exact aG h fun σ' ha d hd hn=>ay3 ho hd hn hux huy (hx σ' ha) (hy σ' ha)
 |lss=>
  simp only at h
  split at h
  ·rename_i TB hTB;exact aG h fun σ' ha d hd hn=>ay4 ho hd hn (bO hTB) hux huy (hx σ' ha) (hy σ' ha)
  ·cases h
 |leq=>
  simp only at h
  split at h
  ·rename_i TB hTB;exact aG h fun σ' ha d hd hn=>ay5 ho hd hn (bO hTB) hux huy (hx σ' ha) (hy σ' ha)
  ·cases h
 |gtr=>
  simp only at h
  split at h
  ·rename_i TB hTB;exact aG h fun σ' ha d hd hn=>ay6 ho hd hn (bO hTB) hux huy (hx σ' ha) (hy σ' ha)
  ·cases h
 |geq=>
  simp only at h
  split at h
  ·rename_i TB hTB;exact aG h fun σ' ha d hd hn=>ay7 ho hd hn (bO hTB) hux huy (hx σ' ha) (hy σ' ha)
  ·cases h
 |eql=>
  simp only at h
  split at h
  ·rename_i TB hTB;exact aG h fun σ' ha d hd hn=>ay8 ho hd hn (bO hTB) hux huy (hx σ' ha) (hy σ' ha)
  ·cases h
 |neq=>
  simp only at h
  split at h
  ·rename_i TB hTB;exact aG h fun σ' ha d hd hn=>ay9 ho hd hn (bO hTB) hux huy (hx σ' ha) (hy σ' ha)
  ·cases h
 |_=>cases h
theorem aA6 {op:BinOp} {T T' Tx Ty:TypeId} {a b:ByteArray} (ho:o.op= .binOp op T x y T') (hux:P.underlying Tx=some .string) (huy:P.underlying Ty=some .string)
  (hx:∀σ',Agr o σ σ' []→Ev P σ' x (.dat Tx (.str a))) (hy:∀σ',Agr o σ σ' []→Ev P σ' y (.dat Ty (.str b))) (h:ahQ P E n o op Tx a b k=some r):OpS P n o σ k r:=by
 unfold ahQ at h
 simp only at h
 cases op with
 |add=>
  simp only at h
  have hh_:=bif_some h
  clear h
  obtain⟨hs,h⟩:=hh_
  exact aG h fun σ' ha d hd hn=>azd ho hd hn hux huy (hx σ' ha) (hy σ' ha) (by have:=Nat.le_of_ble_eq_true hs;unfold maxLen;omega)
 |lss=>
  simp only at h
  split at h
  ·rename_i TB hTB;exact aG h fun σ' ha d hd hn=>azc ho hd hn (bO hTB) hux huy (hx σ' ha) (hy σ' ha)
  ·cases h
 |eql=>
  simp only at h
  split at h
  ·rename_i TB hTB;exact aG h fun σ' ha d hd hn=>aza ho hd hn (bO hTB) hux huy (hx σ' ha) (hy σ' ha)
  ·cases h
 |neq=>
  simp only at h
  split at h
  ·rename_i TB hTB;exact aG h fun σ' ha d hd hn=>azb ho hd hn (bO hTB) hux huy (hx σ' ha) (hy σ' ha)
  ·cases h
 |_=>cases h
theorem ayj {op:BinOp} {T T' Tx Ty:TypeId} {a b:Bool} (ho:o.op= .binOp op T x y T') (hu:P.underlying T=some .bool) (hux:P.underlying Tx=some .bool) (huy:P.underlying Ty=some .bool)
  (hx:∀σ',Agr o σ σ' []→Ev P σ' x (.dat Tx (.bool a))) (hy:∀σ',Agr o σ σ' []→Ev P σ' y (.dat Ty (.bool b))) (h:QW P E n o op a b k=some r):OpS P n o σ k r:=by
 unfold QW at h
 simp only at h
 cases op with
 |eql=>
  simp only at h
  split at h
  ·rename_i TB hTB;exact aG h fun σ' ha d hd hn=>aze ho hd hn (bO hTB) hu hux huy (hx σ' ha) (hy σ' ha)
  ·cases h
 |neq=>
  simp only at h
  split at h
  ·rename_i TB hTB;exact aG h fun σ' ha d hd hn=>azf ho hd hn (bO hTB) hu hux huy (hx σ' ha) (hy σ' ha)
  ·cases h
 |_=>cases h
theorem aA7 {op:BinOp} {T T':TypeId} (ho:o.op= .binOp op T x y T') (h:ahW P E n o op T (opd P E.dt σ T x) y k=some r):OpS P n o σ k r:=by
 have hx:x∈o.op.operands.toList:=by rw[ho];simp[Op.operands]
 unfold ahW at h
 split at h
 ·split  at h
  ·rename_i ms hu
   split at h
   ·    rename_i e1
        split at h
        ·rename_i TB hTB
         split at h
         ·exact aG h fun σ' ha d hd hn=>YS ho hd hn (bO hTB) hu (aJ ha hx e1)
         ·exact aG h fun σ' ha d hd hn=>YT ho hd hn (bO hTB) hu (aJ ha hx e1)
         ·cases h
        ·cases h
   ·cases h
  ·cases h
 ·cases h
theorem aFG {op:BinOp} {T T':TypeId} (ho:o.op= .binOp op T x y T') (h:aAD P E n o σ op T x y T' k=some r):OpS P n o σ k r:=by
 have hx:x∈o.op.operands.toList:=by rw[ho];simp[Op.operands]
 have hy:y∈o.op.operands.toList:=by rw[ho];simp[Op.operands]
 unfold aAD at h
 split at h
 ·rename_i T2 q e2
  split at h
  ·rename_i T1 p e1
   have hh_:=bif_some h
   clear h
   obtain⟨hc,h⟩:=hh_
   have u1:=beq_eq (and_l (and_r hc))
   have u2:=beq_eq (and_r (and_r hc))
   rw[u1] at e1
   rw[u2] at e2
   split at h
   ·    rename_i TB hTB
        split at h
        ·exact aG h fun σ' ha d hd hn=>atz ho hd hn (bO hTB) (and_l hc) (aJ ha hx e1) (aJ ha hy e2) (.inl ⟨rfl,rfl⟩)
        ·exact aG h fun σ' ha d hd hn=>atz ho hd hn (bO hTB) (and_l hc) (aJ ha hx e1) (aJ ha hy e2) (.inr ⟨rfl,rfl⟩)
        ·cases h
   ·cases h
  ·cases h
 ·exact aA7 ho h
theorem aA8 {op:BinOp} {T T':TypeId} (ho:o.op= .binOp op T x y T') (h:ahX P E n o σ op T x y T' k=some r):OpS P n o σ k r:=by
 have hx:x∈o.op.operands.toList:=by rw[ho];simp[Op.operands]
 have hy:y∈o.op.operands.toList:=by rw[ho];simp[Op.operands]
 unfold ahX at h
 split at h
 ·rename_i Tx q a ha
  obtain⟨d1,e1,u1,rfl⟩:=bS ha
  split at h
  ·rename_i Ty q' b hb
   obtain⟨d2,e2,u2,rfl⟩:=bS hb
   split at h
   ·    obtain⟨hq,h⟩:=bif_some h
        exact aG h fun σ' ag d hd hn=>avZ ho hd hn u1 u2 ((aJ ag hx e1).cint u1) ((aJ ag hy e2).cint u2) (of_decide_eq_true hq) (.inl ⟨rfl,rfl⟩)
   ·    obtain⟨hq,h⟩:=bif_some h
        exact aG h fun σ' ag d hd hn=>avZ ho hd hn u1 u2 ((aJ ag hx e1).cint u1) ((aJ ag hy e2).cint u2) (of_decide_eq_true hq) (.inr ⟨rfl,rfl⟩)
   ·    have hh_:=bif_some h
        clear h
        obtain⟨hq,h⟩:=hh_
        have hq':q=q':=by simpa using hq
        subst hq'
        exact aA5 ho u1 u2 (fun σ' ag=>(aJ ag hx e1).cint u1) (fun σ' ag=>(aJ ag hy e2).cint u2) h
  ·cases h
 ·split  at h
  ·rename_i Tx a ha
   obtain⟨d1,e1,u1,rfl⟩:=dI ha
   split at h
   ·    rename_i Ty b hb
        obtain⟨d2,e2,u2,rfl⟩:=dI hb
        exact aA6 ho u1 u2 (fun σ' ag=>(aJ ag hx e1).cstr u1) (fun σ' ag=>(aJ ag hy e2).cstr u2) h
   ·cases h
  ·split at h
   ·    rename_i a ha
        obtain⟨Tx,d1,e1,u1,rfl⟩:=fT ha
        split at h
        ·rename_i b hb
         obtain⟨Ty,d2,e2,u2,rfl⟩:=fT hb
         have hh_:=bif_some h
         clear h
         obtain⟨hq,h⟩:=hh_
         exact ayj ho (JE hq) u1 u2 (fun σ' ag=>(aJ ag hx e1).cbool u1) (fun σ' ag=>(aJ ag hy e2).cbool u2) h
        ·cases h
   ·exact aFG ho h
theorem aA9 {T0:TypeId} (ho:o.op= .unOp .not T0 x) (h:ahY P E n o σ x k=some r):OpS P n o σ k r:=by
 have hx:x∈o.op.operands.toList:=by rw[ho];simp[Op.operands]
 unfold ahY at h
 split at h
 ·rename_i b hb
  obtain⟨Tx,d1,e1,u1,rfl⟩:=fT hb
  split at h
  ·rename_i TB hTB
   refine aG h fun σ' ha d hd hn=>?_
   have key:=ayV ho hd hn u1 ((aJ ha hx e1).cbool u1)
   exact key.weak fun ok w β z hz=>by
        have:=(RV.bool u1 hz).2
        rw[this]
        exact RV.mk_bool (bO hTB)
  ·cases h
 ·cases h
theorem aBa (ho:o.op= .unOp .neg T x) (h:ahZ P E n o σ T x k=some r):OpS P n o σ k r:=by
 have hx:x∈o.op.operands.toList:=by rw[ho];simp[Op.operands]
 unfold ahZ at h
 split at h
 ·rename_i Tx q a ha
  obtain⟨d1,e1,u1,rfl⟩:=bS ha
  exact aG h fun σ' ha d hd hn=>azg ho hd hn u1 ((aJ ha hx e1).cint u1)
 ·cases h
theorem aqB (ho:o.op= .unOp .xor T x) (h:IX P E n o σ T x k=some r):OpS P n o σ k r:=by
 have hx:x∈o.op.operands.toList:=by rw[ho];simp[Op.operands]
 unfold IX at h
 split at h
 ·rename_i Tx q a ha
  obtain⟨d1,e1,u1,rfl⟩:=bS ha
  exact aG h fun σ' ha d hd hn=>afb ho hd hn u1 ((aJ ha hx e1).cint u1)
 ·cases h
theorem Xg {S1 S2:TypeId} (ho:o.op= .convert S1 S2 x) (h:tC P E n o σ S1 S2 x k=some r):OpS P n o σ k r:=by
 have hx:x∈o.op.operands.toList:=by rw[ho];simp[Op.operands]
 unfold tC at h
 split at h
 ·rename_i Tx q a ha
  obtain⟨d1,e1,u1,rfl⟩:=bS ha
  split at h
  ·rename_i q2 hu2
   have hh_:=bif_some h
   clear h
   obtain⟨hq,h⟩:=hh_
   exact aG h fun σ' ha d hd hn=>LK ho hd hn (dW hq) hu2 u1 ((aJ ha hx e1).cint u1)
  ·cases h
 ·split at h
  ·rename_i Tx a ha
   obtain⟨d1,e1,u1,rfl⟩:=dI ha
   have hh_:=bif_some h
   clear h
   obtain⟨hq,h⟩:=hh_
   exact aG h fun σ' ha d hd hn=>LM ho hd hn (eY (and_l hq)) (eY (and_r hq)) u1 ((aJ ha hx e1).cstr u1)
  ·cases h
theorem ayk (ho:o.op= .makeSlice T x y) (h:Rb P E n o σ T x y k=some r):OpS P n o σ k r:=by
 unfold Rb at h
 split at h
 ·rename_i Te hTe
  split at h
  ·rename_i z hz
   split at h
   ·    rename_i a ha
        split at h
        ·rename_i b hb
         have hh_:=bif_some h
         clear h
         obtain⟨hc,h⟩:=hh_
         have hh_:=dO h
         clear h
         obtain⟨hk0,h⟩:=hh_
         obtain⟨es,p1,p2,p3,p4,p5,h⟩:=aaV h
         subst p4
         refine Tt h fun σ' ag d hd hn=>?_
         have e1:Qv P σ' (some x) a:=fP (E:=E) (by rw[cB ag.ts (by intro z hz;cases hz;rw[ho];simp[Op.operands])];exact ha)
         have e2:Qv P σ' (some y) b:=fP (E:=E) (by rw[cB ag.ts (by intro z hz;cases hz;rw[ho];simp[Op.operands])];exact hb)
         obtain⟨TI,k1,u1,v1⟩:=e1
         obtain⟨TJ,k2,u2,v2⟩:=e2
         exact ar7 ho hd hn (aY hTe) (by rw[ag.hs _ (by simp)];exact dP σ) (by rw[ag.k0];exact hk0) (dG hz) (lY hc) p5 u1 u2 v1 v2 p1 p2 p3
        ·cases h
   ·cases h
  ·cases h
 ·cases h
theorem Ig {σ':St} {hs:List Ob} {k0:Nat} {rd:List Nat} (ha:Agr o σ σ' rd) {D:List TypeId} (hx:x∈o.op.operands.toList):Ev P (St.mk σ'.ts hs k0) x (opd P D σ T x):=by
 have e3:opd P D (St.mk σ'.ts hs k0) T x=opd P D σ T x:=by
  rw[←gM ha.ts hx]
  cases x<;>rfl
 rw[←e3]
 exact gu
theorem Agr.frz {σ':St} {ls:List Nat} {rd:List Nat} (ha:Agr o σ σ' rd) (h:∀l∈ls,l∈rd):frzW σ'.hs ls=frzW σ.hs ls:=dQ fun l hl=>ha.hs l (h l hl)
theorem Dx {d l:Nat} {T3 Te:TypeId} {lo hi:Option Operand} {i j:Int} {es:List Dt} (ho:o.op= .slice T x lo hi none) (hd:o.dst=some d) (hn:d<n) (hu:P.underlying T=some (.slice Te)) (h0c:P.cellsOf Te≠0)
  (hx:Ev P σ x (.row l)) (hl:lk σ.hs l= .row T3 es) (hlo:Qv P σ lo i) (hhi:aaZ P σ es.length hi j) (h0:0≤i) (hij:i≤j) (hj:j≤es.length):aI P n o σ (σ.put d .dead):=
 aC hd hn fun ok0 w0 a w β r=>by
  have e1:=cK (hx _ _ _ _ _ _ r)
  have hob:=r.hs l
  rw[hl,e1] at hob
  obtain⟨E',xs,_,hown,_⟩:=oD hob
  have hz:∃ao cap,a.eval x= .slice ao es.length cap∧es.length≤cap:=by
   rcases hown.2 with⟨h1,h2⟩| ⟨g,cap,cur,h1,_,_,h3,h4,_⟩
   ·exact⟨none,0,by rw[h1,h2],by rw[h2];exact Nat.zero_le _⟩
   ·exact⟨_,cap,h1,by omega⟩
  obtain⟨ao,cap,ex,hlc⟩:=hz
  have hb:=oq (cap:=cap) r true hlo hhi h0 hij hj hlc
  cases hinf:P.info? Te with
  |none=>simp[Program.cellsOf,hinf] at h0c
  |some inf=>
   have hs:inf.size=P.cellsOf Te:=by simp[Program.cellsOf,hinf]
   exact⟨.slice (if cap=i.toNat then ao else ao.map (·.add (i.toNat*P.cellsOf Te))) (j.toNat-i.toNat) (cap-i.toNat),by simp[execOp,ho,ex,Instr.sliceAt,Instr.slice,run_underlying hu,hb,sizeOf,typeInfo,hinf,hs],trivial⟩
theorem aaC {lo hi:Option Operand} (ho:o.op= .slice T x lo hi none) (h:xS P E n o σ T x lo hi k=some r):OpS P n o σ k r:=by
 have hx:x∈o.op.operands.toList:=by rw[ho];simp[Op.operands]
 have hlo:∀z,lo=some z→z∈o.op.operands.toList:=by intro z hz;rw[ho,hz];simp[Op.operands]
 have hhi:∀z,hi=some z→z∈o.op.operands.toList:=by intro z hz;rw[ho,hz];simp[Op.operands]
 unfold xS at h
 split at h
 ·rename_i l e1
  split at h
  ·rename_i T3 es hl
   split at h
   ·    rename_i a ha
        split at h
        ·rename_i b hb
         split at h
         ·rename_i Te hTe
          have hh_:=bif_some h
          clear h
          obtain⟨hc,h⟩:=hh_
          have hh_:=Option.bind_eq_some_iff.1 h
          clear h
          obtain⟨rs,hrs,h⟩:=hh_
          obtain⟨p1,p2,p3,p4⟩:=Er hrs
          obtain⟨d,hd,hn,hk⟩:=dF h
          refine⟨_,hk,fun σ' ag=>?_⟩
          have key:=Dx (σ:=σ') ho hd hn (aY hTe) (lY hc) (aJ ag hx e1) (by rw[ag.hs l (by simp)];exact hl) (fP (E:=E) (by rw[cB ag.ts hlo];exact ha)) (Ia (E:=E) (by rw[cB ag.ts hhi];exact hb)) p1 p2 p3
          rw[hd]
          exact key
         ·cases h
        ·cases h
   ·cases h
  ·cases h
 ·cases h
theorem aqC {lo hi:Option Operand} (ho:o.op= .slice T x lo hi none) (h:IY P E n o σ T x lo hi k=some r):OpS P n o σ k r:=by
 have hx:x∈o.op.operands.toList:=by rw[ho];simp[Op.operands]
 have hlo:∀z,lo=some z→z∈o.op.operands.toList:=by intro z hz;rw[ho,hz];simp[Op.operands]
 have hhi:∀z,hi=some z→z∈o.op.operands.toList:=by intro z hz;rw[ho,hz];simp[Op.operands]
 unfold IY at h
 cases hsl:E.sld o with
 |true=>
  rw[hsl,cond_true] at h
  exact aaC ho h
 |false=>
 rw[hsl,cond_false] at h
 split at h
 ·rename_i Tx s hs
  obtain⟨d1,e1,u1,rfl⟩:=dI hs
  split at h
  ·rename_i a ha
   split at h
   ·    rename_i b hb
        have hh_:=bif_some h
        clear h
        obtain⟨hc,h⟩:=hh_
        have hh_:=Option.bind_eq_some_iff.1 h
        clear h
        obtain⟨rs,hrs,h⟩:=hh_
        obtain⟨p1,p2,p3,p4⟩:=Xv hrs
        subst p4
        exact aG h fun σ' ag d hd hn=>Ij ho hd hn (eY hc) u1 ((aJ ag hx e1).cstr u1) (fP (E:=E) (by rw[cB ag.ts hlo];exact ha)) (Ia (E:=E) (by rw[cB ag.ts hhi];exact hb)) p1 p2 p3
   ·cases h
  ·cases h
 ·split  at h
  ·rename_i Tx Te es hl
   obtain⟨d1,hp,u1,rfl⟩:=lM hl
   split at h
   ·    rename_i a ha
        split at h
        ·rename_i b hb
         have hh_:=bif_some h
         clear h
         obtain⟨hc,h⟩:=hh_
         have hh_:=Option.bind_eq_some_iff.1 h
         clear h
         obtain⟨rs,hrs,h⟩:=hh_
         obtain⟨p1,p2,p3,p4⟩:=Er hrs
         subst p4
         obtain⟨d,hd,hn,hk⟩:=dF h
         refine⟨_,hk,fun σ' ag=>?_⟩
         have hfw:=ag.frz (ls:=(opd P E.dt σ T x).rws) fun l hl=>hl
         obtain⟨u2,h0c⟩:=bB hc
         have hpk:pk P (wrO σ'.hs (frzW σ'.hs (opd P E.dt σ T x).rws)) (opd P E.dt σ T x)=some (Tx,d1):=by
          rw[←hp,hfw]
          exact og _ fun l hl=>eX (fun l hl=>ag.hs l hl) l hl
         have hev:Ev P (St.mk σ'.ts (wrO σ'.hs (frzW σ'.hs (opd P E.dt σ T x).rws)) σ'.k0) x (.dat Tx d1):=Ev.pk (Ig ag hx) hpk
         have hlo':gF P E (St.mk σ'.ts (wrO σ'.hs (frzW σ'.hs (opd P E.dt σ T x).rws)) σ'.k0) 0 lo=some a:=by
          rw[←ha]
          exact cB (fun t ht=>ag.ts t ht) hlo
         have hhi':gF P E (St.mk σ'.ts (wrO σ'.hs (frzW σ'.hs (opd P E.dt σ T x).rws)) σ'.k0) (d1.toLst.length:Nat) hi=some b:=by
          rw[←hb]
          exact cB (fun t ht=>ag.ts t ht) hhi
         have key:=(Ik ho hd hn u2 u1 h0c (hev.clst u1) (fP hlo') (Ia hhi') p1 p2 p3).pre (Imp.frzW (σ:=σ') (opd P E.dt σ T x).rws)
         rw[hd]
         rw[hfw] at key
         exact key
        ·cases h
   ·cases h
  ·cases h
theorem JY {S:TypeId} {i:Nat} (ho:o.op= .fieldAddr S x i) (h:kM P E n o σ S x i k=some r):OpS P n o σ k r:=by
 have hx:x∈o.op.operands.toList:=by rw[ho];simp[Op.operands]
 unfold kM at h
 split at h
 ·rename_i fs hfs
  split at h
  ·rename_i f hf
   have hh_:=bif_some h
   clear h
   obtain⟨hc,h⟩:=hh_
   split at h
   ·    rename_i l p q e1
        exact aG h fun σ' ha d hd hn=>tV ho hd hn (dV hfs) hf (lY hc) (aJ ha hx e1)
   ·    rename_i l j z p q e1
        exact aG h fun σ' ha d hd hn=>rM ho hd hn (dV hfs) hf (lY hc) (aJ ha hx e1)
   ·    rename_i S' d0 e1
        have hh_:=bif_some h
        clear h
        obtain⟨hc2,h⟩:=hh_
        have e:=beq_eq (and_l hc2)
        subst e
        exact aG h fun σ' ha d hd hn=>rO ho hd hn (dV hfs) hf (lY hc) (Nat.le_of_ble_eq_true (and_r hc2)) (aJ ha hx e1)
   ·cases h
  ·cases h
 ·cases h
theorem aqD {S:TypeId} {i:Nat} (ho:o.op= .field S x i) (h:IZ P E n o σ S x i k=some r):OpS P n o σ k r:=by
 have hx:x∈o.op.operands.toList:=by rw[ho];simp[Op.operands]
 unfold IZ at h
 split at h
 ·rename_i fs hfs
  split at h
  ·rename_i f hf
   split at h
   ·    rename_i S' d0 hp
        have hh_:=bif_some h
        clear h
        obtain⟨hc,h⟩:=hh_
        have e:=beq_eq (and_l hc)
        subst e
        obtain⟨q1,q2,⟨D,hD⟩,q4,q5⟩:=bU (and_r (and_r hc))
        exact aG h fun σ' ha d hd hn=>(aaY ho hd hn (dV hfs) hf hD (fun hf2=>q4 hf2) (Nat.le_of_ble_eq_true (and_l (and_r hc))) (Ev.pk (eF ha hx) (wh _ hp))).can
   ·cases h
  ·cases h
 ·cases h
theorem JZ (ho:o.op= .indexAddr T x y) (h:kN P E n o σ T x y k=some r):OpS P n o σ k r:=by
 have hx:x∈o.op.operands.toList:=by rw[ho];simp[Op.operands]
 have hy:∀z,some y=some z→z∈o.op.operands.toList:=by intro z hz;cases hz;rw[ho];simp[Op.operands]
 unfold kN at h
 split at h
 ·rename_i i hi
  have hidx:∀σ' rd,Agr o σ σ' rd→∃TI k,P.underlying TI=some (.int k)∧Ev P σ' y (.dat TI (.int i)):=fun σ' rd ag=>fP (lo:=some y) (E:=E) (by rw[cB ag.ts hy];exact hi)
  split at h
  ·rename_i l e1
   split at h
   ·    rename_i T5 es hl
        split at h
        ·rename_i Te hTe
         have hh_:=bif_some h
         clear h
         obtain⟨hc,h⟩:=hh_
         have hh_:=Option.bind_eq_some_iff.1 h
         clear h
         obtain⟨u,hu,h⟩:=hh_
         obtain⟨p1,p2⟩:=aaW hu
         obtain⟨u2,h0c⟩:=bB hc
         refine aG h fun σ' ag d hd hn=>?_
         obtain⟨TI,k1,v1,v2⟩:=hidx σ' _ ag
         exact Iu ho hd hn u2 h0c v1 (aJ ag hx e1) v2 (by rw[ag.hs l (by simp)];exact hl) (aY hTe) p1 p2
        ·cases h
   ·    rename_i T5 vs hl
        split at h
        ·rename_i Te hTe
         have hh_:=bif_some h
         clear h
         obtain⟨hc,h⟩:=hh_
         obtain⟨u2,h0c⟩:=bB (and_l hc)
         refine aG h fun σ' ag d hd hn=>?_
         obtain⟨TI,k1,v1,v2⟩:=hidx σ' _ ag
         exact DC ho hd hn u2 h0c v1 (aJ ag hx e1) v2 (by rw[ag.hs l (by simp)];exact hl) (by simpa using and_l (and_r hc)) (by simpa using and_r (and_r hc))
        ·cases h
   ·    rename_i T5 es hl
        split at h
        ·rename_i Te hTe
         have hh_:=bif_some h
         clear h
         obtain⟨hc,h⟩:=hh_
         have hh_:=Option.bind_eq_some_iff.1 h
         clear h
         obtain⟨e0,he0,h⟩:=hh_
         obtain⟨p1,p2⟩:=p9 he0
         obtain⟨u2,h0c⟩:=bB hc
         refine aG h fun σ' ag d hd hn=>?_
         obtain⟨TI,k1,v1,v2⟩:=hidx σ' _ ag
         exact qg ho hd hn u2 (aY hTe) h0c v1 ((aJ ag hx e1).frz (by rw[ag.hs l (by simp)];exact hl)) v2 p1 p2
        ·cases h
   ·cases h
  ·rename_i v0 hne
   split at h
   ·    rename_i Tx Te es hl
        obtain⟨d1,hp,u1,rfl⟩:=lM hl
        have hh_:=bif_some h
        clear h
        obtain⟨hc,h⟩:=hh_
        have hh_:=Option.bind_eq_some_iff.1 h
        clear h
        obtain⟨e0,he0,h⟩:=hh_
        obtain⟨p1,p2⟩:=p9 he0
        obtain⟨u2,h0c⟩:=bB hc
        refine aG h fun σ' ag d hd hn=>?_
        obtain⟨TI,k1,v1,v2⟩:=hidx σ' _ ag
        exact qg ho hd hn u2 u1 h0c v1 ((Ev.pk (eF ag hx) (wh _ hp)).clst u1) v2 p1 p2
   ·cases h
 ·cases h
theorem aqE (ho:o.op= .index T x y) (h:I4 P E n o σ T x y k=some r):OpS P n o σ k r:=by
 have hx:x∈o.op.operands.toList:=by rw[ho];simp[Op.operands]
 have hy:∀z,some y=some z→z∈o.op.operands.toList:=by intro z hz;cases hz;rw[ho];simp[Op.operands]
 unfold I4 at h
 split at h
 ·rename_i Tx s hs
  obtain⟨d1,e1,u1,rfl⟩:=dI hs
  split at h
  ·rename_i i hi
   have hh_:=bif_some h
   clear h
   obtain⟨hc,h⟩:=hh_
   have hh_:=Option.bind_eq_some_iff.1 h
   clear h
   obtain⟨c,hc2,h⟩:=hh_
   obtain⟨p1,u,p2,rfl⟩:=Xu hc2
   refine aG h fun σ' ag d hd hn=>?_
   obtain⟨TI,k1,v1,v2⟩:=fP (lo:=some y) (E:=E) (σ:=σ') (i:=i) (by rw[cB ag.ts hy];exact hi)
   exact Iz ho hd hn v1 (dW (and_r hc)) (eY (and_l hc)) u1 ((aJ ag hx e1).cstr u1) v2 p1 p2
  ·cases h
 ·split  at h
  ·rename_i T' e he
   split at h
   ·    rename_i len Te hu
        split at h
        ·rename_i i hi
         have hh_:=bif_some h
         clear h
         obtain⟨hc,h⟩:=hh_
         have hh_:=Option.bind_eq_some_iff.1 h
         clear h
         obtain⟨q,hq,h⟩:=hh_
         obtain⟨p1,p2⟩:=p9 hq
         have eT:=beq_eq (and_l hc)
         subst eT
         obtain⟨_,_,⟨D,hD⟩,h1,_⟩:=bU (and_r (and_r hc))
         refine aG h fun σ' ag d hd hn=>?_
         obtain⟨TI,k1,v1,v2⟩:=fP (lo:=some y) (E:=E) (σ:=σ') (i:=i) (by rw[cB ag.ts hy];exact hi)
         exact(Kq ho hd hn hu hD h1 (beq_eq (and_l (and_r hc))) v1 (aJ ag hx he) v2 p1 p2).can
        ·cases h
   ·cases h
  ·cases h
theorem Xh {i:Nat} (ho:o.op= .extract x i) (h:tH P E n o σ x i k=some r):OpS P n o σ k r:=by
 have hx:x∈o.op.operands.toList:=by rw[ho];simp[Op.operands]
 unfold tH at h
 split at h
 ·rename_i vs e1
  split at h
  ·cases h
  ·rename_i v0 hne hv
   exact aG h fun σ' ha d hd hn=>QE ho hd hn (aJ ha hx e1) hv fun us e=>hne us e
  ·cases h
 ·cases h
theorem oh:∀{vs:List AV},MH P vs=true→∀v∈vs,v.isAgg P=false∧v≠ .dead∧∀us,v≠ .tup us
 | [],_,v,hv=>by simp at hv
 |u::r,h,v,hv=>by
  unfold MH at h
  rcases List.mem_cons.1 hv with e|hv
  ·subst e
   have h1:=and_l h
   split at h1
   ·cases h1
   ·cases h1
   ·    rename_i h3 h4
        exact⟨by simpa using h1,fun e=>h4 e,fun us e=>h3 us e⟩
  ·exact oh (and_r h) v hv
theorem aaD {D:List TypeId}:∀{xs:List Operand},EvXs P σ xs (xs.map (opd P D σ T))
 | []=> .nil
 |x::xs=> .cons gu aaD
theorem J2 {d:Nat} {f:FuncId} {first:Array Operand} {xs:List Operand} {caps:List AV} (ho:o.op= .makeFunc (.func f) first xs.toArray) (hf:first.size=0) (hd:o.dst=some d) (hn:d<n) (ha:EvXs P σ xs caps) (hc:∀v∈caps,v.isAgg P=false∧v≠ .dead∧∀us,v≠ .tup us):aI P n o σ (σ.put d (.fn f caps)):=
 aC hd hn fun ok0 w0 a w β r=>by
  have hfe:first= #[]:=Array.eq_empty_of_size_eq_zero hf
  subst hfe
  have h:=ha.rvs r
  refine⟨.func (.func f) #[] (xs.map a.eval).toArray,by simp[execOp,ho,Instr.makeFunc,List.map_toArray],⟨fun hi=>by simp[AV.isAgg] at hi,fun _=> .fn (by simpa using h.len) fun i av hv=>?_⟩⟩
  obtain⟨z,h1,h2⟩:=h.get i av hv
  have hm:=hc av (List.mem_of_getElem? hv)
  have e:(xs.map a.eval).toArray.getD i undef=z:=by
   simp only[Array.getD_eq_getD_getElem?,List.getElem?_toArray,h1,Option.getD_some]
  rw[e]
  exact(RV.to1 hm.2.1 hm.2.2 h2).2 hm.1
theorem Qi {f:FuncId} {first caps:Array Operand} (ho:o.op= .makeFunc (.func f) first caps) (h:oQ P E n o σ f first.size caps.toList k=some r):OpS P n o σ k r:=by
 unfold oQ at h
 have hh_:=bif_some h
 clear h
 obtain⟨hc,h⟩:=hh_
 refine aG h fun σ' ag d hd hn=>J2 (xs:=caps.toList) (by rw[ho]) (beq_eq (and_l hc)) hd hn ?_ (oh (and_r hc))
 have e:caps.toList.map (opd P E.dt σ' 0)=caps.toList.map (opd P E.dt σ 0):=by
  refine List.map_congr_left fun z hz=>gM ag.ts ?_
  rw[ho];simp[Op.operands,hz]
 rw[←e]
 exact aaD
theorem aBb {xs:Array Operand} {Ts:Array TypeId} (ho:o.op= .call ⟨.builtin .len,xs,Ts⟩) (hxs:xs.toList=[x]) (hTs:Ts.toList=[T]) (h:ah3 P E n o σ T x k=some r):OpS P n o σ k r:=by
 have hxs':xs= #[x]:=by apply Array.ext';simpa using hxs
 have hTs':Ts= #[T]:=by apply Array.ext';simpa using hTs
 subst hxs' hTs'
 have hx:x∈o.op.operands.toList:=by rw[ho];simp[Op.operands,Call.operands]
 unfold ah3 at h
 have hh_:=bif_some h
 clear h
 obtain⟨hI,h⟩:=hh_
 split at h
 ·rename_i Tx s hs
  obtain⟨d1,e1,u1,rfl⟩:=dI hs
  have hh_:=bif_some h
  clear h
  obtain⟨hc,h⟩:=hh_
  exact aG h fun σ' ag d hd hn=>QC ho hd hn (dW hI) (eY hc) u1 ((aJ ag hx e1).cstr u1)
 ·split  at h
  ·rename_i Te hTe
   split at h
   ·    rename_i l e1
        split at h
        ·rename_i T5 es hl
         exact aG h fun σ' ag d hd hn=>QD ho hd hn (dW hI) (aY hTe) (aJ ag hx e1) (by rw[ag.hs l (by simp)];exact hl)
        ·rename_i T5 vs hl
         exact aG h fun σ' ag d hd hn=>Kl (E:=0) ho hd hn (dW hI) (aY hTe) (aJ ag hx e1) (by rw[ag.hs l (by simp)];exact hl)
        ·rename_i T5 es hl
         refine aG h fun σ' ag d hd hn=>?_
         have hl':lk σ'.hs l= .frz T5 es:=by rw[ag.hs l (by simp)];exact hl
         intro ok0 w0 a w rr K Q hK
         obtain⟨β,rb⟩:=rr
         have hob:=rb.hs l
         rw[hl'] at hob
         obtain⟨E5,z5,_,hu5,_⟩:=hob
         exact wZ ho hd hn (dW hI) (aY hTe) hu5 ((aJ ag hx e1).frz hl') ok0 w0 a w ⟨β,rb⟩ K Q hK
        ·cases h
   ·    split at h
        ·rename_i Tx Te2 es hl
         obtain⟨d1,hp,u1,rfl⟩:=lM hl
         exact aG h fun σ' ag d hd hn=>wZ ho hd hn (dW hI) (aY hTe) u1 ((Ev.pk (eF ag hx) (wh _ hp)).clst u1)
        ·cases h
  ·cases h
theorem ayl {d:Nat} {k:IntKind} {T3 T4 T1 T2:TypeId} {p q:Int} (ho:o.op= .call ⟨.builtin .max,#[x,y],#[T1,T2]⟩) (hd:o.dst=some d) (hn:d<n)
  (hu:P.underlying T3=some (.int k)) (hu':P.underlying T4=some (.int k)) (hx:Ev P σ x (.dat T3 (.int p))) (hy:Ev P σ y (.dat T4 (.int q))):aI P n o σ (σ.put d (.dat T3 (.int (bif decide (p<q) then q else p)))):=
 aC hd hn fun ok0 w0 a w β r=>by
  obtain⟨_,e1,b1,b2⟩:=RV.int hu (hx _ _ _ _ _ _ r)
  obtain⟨_,e2,b3,b4⟩:=RV.int hu' (hy _ _ _ _ _ _ r)
  simp only[Dt.toInt] at e1 e2 b1 b2 b3 b4
  refine⟨.int k (bif decide (p<q) then q else p),?_,RV.mk_int hu ?_ ?_⟩
  ·by_cases h:p<q<;>simp[execOp,ho,e1,e2,resolve,invoke,builtin,Builtin.max_,Builtin.max2,h]
  ·by_cases h:p<q<;>simp[h,b1,b3]
  ·by_cases h:p<q<;>simp[h,b2,b4]
theorem aym {d:Nat} {k:IntKind} {T3 T4 T1 T2:TypeId} {p q:Int} (ho:o.op= .call ⟨.builtin .min,#[x,y],#[T1,T2]⟩) (hd:o.dst=some d) (hn:d<n)
  (hu:P.underlying T3=some (.int k)) (hu':P.underlying T4=some (.int k)) (hx:Ev P σ x (.dat T3 (.int p))) (hy:Ev P σ y (.dat T4 (.int q))):aI P n o σ (σ.put d (.dat T3 (.int (bif decide (q<p) then q else p)))):=
 aC hd hn fun ok0 w0 a w β r=>by
  obtain⟨_,e1,b1,b2⟩:=RV.int hu (hx _ _ _ _ _ _ r)
  obtain⟨_,e2,b3,b4⟩:=RV.int hu' (hy _ _ _ _ _ _ r)
  simp only[Dt.toInt] at e1 e2 b1 b2 b3 b4
  refine⟨.int k (bif decide (q<p) then q else p),?_,RV.mk_int hu ?_ ?_⟩
  ·by_cases h:q<p<;>simp[execOp,ho,e1,e2,resolve,invoke,builtin,Builtin.min_,Builtin.min2,h]
  ·by_cases h:q<p<;>simp[h,b1,b3]
  ·by_cases h:q<p<;>simp[h,b2,b4]
theorem two {A:Type} {xs:Array A} {a b:A} (h:xs.toList=[a,b]):xs= #[a,b]:=by apply Array.ext';simpa using h
theorem aBd {xs:Array Operand} {Ts:Array TypeId} {T':TypeId} (ho:o.op= .call ⟨.builtin .min,xs,Ts⟩) (hxs:xs.toList=[x,y]) (hTs:Ts.toList=[T,T']) (h:ah4 P E n o σ T T' x y k=some r):OpS P n o σ k r:=by
 have hxs':=two hxs
 have hTs':=two hTs
 subst hxs' hTs'
 have hx:x∈o.op.operands.toList:=by rw[ho];simp[Op.operands,Call.operands]
 have hy:y∈o.op.operands.toList:=by rw[ho];simp[Op.operands,Call.operands]
 unfold ah4 at h
 split at h
 ·rename_i Tx q a ha
  obtain⟨d1,e1,u1,rfl⟩:=bS ha
  split at h
  ·rename_i Ty q' b hb
   obtain⟨d2,e2,u2,rfl⟩:=bS hb
   have hh_:=bif_some h
   clear h
   obtain⟨hq,h⟩:=hh_
   have hq':q=q':=by simpa using hq
   subst hq'
   exact aG h fun σ' ag d hd hn=>aym ho hd hn u1 u2 ((aJ ag hx e1).cint u1) ((aJ ag hy e2).cint u2)
  ·cases h
 ·cases h
theorem aBe {xs:Array Operand} {Ts:Array TypeId} {T':TypeId} (ho:o.op= .call ⟨.builtin .max,xs,Ts⟩) (hxs:xs.toList=[x,y]) (hTs:Ts.toList=[T,T']) (h:ah5 P E n o σ T T' x y k=some r):OpS P n o σ k r:=by
 have hxs':=two hxs
 have hTs':=two hTs
 subst hxs' hTs'
 have hx:x∈o.op.operands.toList:=by rw[ho];simp[Op.operands,Call.operands]
 have hy:y∈o.op.operands.toList:=by rw[ho];simp[Op.operands,Call.operands]
 unfold ah5 at h
 split at h
 ·rename_i Tx q a ha
  obtain⟨d1,e1,u1,rfl⟩:=bS ha
  split at h
  ·rename_i Ty q' b hb
   obtain⟨d2,e2,u2,rfl⟩:=bS hb
   have hh_:=bif_some h
   clear h
   obtain⟨hq,h⟩:=hh_
   have hq':q=q':=by simpa using hq
   subst hq'
   exact aG h fun σ' ag d hd hn=>ayl ho hd hn u1 u2 ((aJ ag hx e1).cint u1) ((aJ ag hy e2).cint u2)
  ·cases h
 ·cases h
theorem gB {KT V:TypeId} (h:xU P T=some (KT,V)):P.underlying T=some (.map KT V)∧P.underlying KT=some .string∧aS P V=false:=by
 unfold xU at h
 split at h
 ·rename_i K V' hu
  obtain⟨h1,h2⟩:=bif_some h
  cases h2
  exact⟨hu,eY (and_l h1),by simpa using and_r h1⟩
 ·cases h
theorem Qj {z:Dt} (h:ah0 P T=some z):∃(i:TypeInfo) (zv:Value),P.info? T=some i∧i.zero=some zv∧∀(ok:Nat→Prop) (w:World),RD P ok w T z [zv]:=by
 unfold ah0 at h
 split at h
 ·rename_i i hi
  split at h
  ·rename_i zv hz
   cases hb:oO zv with
   |true=>rw[hb] at h;cases h
   |    false=>
        rw[hb] at h
        obtain⟨i',z',q1,q2,q3,q4⟩:=(dG h).ex
        rw[hi] at q1;cases q1
        rw[hz] at q2;cases q2
        refine⟨_,zv,hi,hz,fun ok w=>?_⟩
        have e:zv.cells.toList=[zv]:=by cases zv<;>first|rfl|cases hb
        rw[←e];exact q4 ok w
  ·cases h
 ·cases h
theorem aty {A:Type} {b:Bool} {u v:Option A} {q:A} (h:(bif b then u else v)=some q):(b=true∧u=some q)∨(b=false∧v=some q):=by cases b<;>simp_all
theorem Xi (h:aAE P T=true):∃(i:TypeInfo),P.info? T=some i∧i.zero=some (.slice none 0 0):=by
 unfold aAE at h
 split at h
 ·rename_i i hi
  split at h
  ·rename_i hz;exact⟨i,hi,hz⟩
  ·cases h
 ·cases h
theorem aaE {   two:Bool} (ho:o.op= .lookup T x y two) (h:xV P E n o σ T x y two k=some r):OpS P n o σ k r:=by
 have hx:x∈o.op.operands.toList:=by rw[ho];simp[Op.operands]
 have hy:y∈o.op.operands.toList:=by rw[ho];simp[Op.operands]
 unfold xV at h
 split at h
 ·rename_i KT V hkv
  obtain⟨u1,u2,u3⟩:=gB hkv
  split at h
  ·rename_i z hz
   have hz':=Qj hz
   split at h
   ·    rename_i l e1
        split at h
        ·rename_i T5 es hl
         split at h
         ·rename_i K5 V5 hkv5
          obtain⟨p1,p2,p3⟩:=gB hkv5
          split at h
          ·rename_i TS s hs
           obtain⟨d2,e2,us,rfl⟩:=dI hs
           have hh_:=bif_some h
           clear h
           obtain⟨hc,h⟩:=hh_
           have c1:=beq_eq (and_l hc)
           have c2:=beq_eq (and_r hc)
           subst c1;subst c2
           cases two with
           |  true=>
              simp only[cond_true] at h
              split at h
              · rename_i TB hTB
                exact aG h fun σ' ag d hd hn=>P9 ho hd hn u1 u2 u3 (bO hTB) hz' us (aJ ag hx e1) ((aJ ag hy e2).cstr us) (by rw[ag.hs l (by simp)];exact hl) p1
              ·cases h
           |  false=>
              simp only[cond_false] at h
              rcases aty h with⟨_,h⟩| ⟨_,h⟩
              ·exact aG h fun σ' ag d hd hn=>(D6 ho hd hn u1 u2 u3 hz' us (aJ ag hx e1) ((aJ ag hy e2).cstr us) (by rw[ag.hs l (by simp)];exact hl) p1).can
              · rcases aty h with⟨_,h⟩| ⟨hm,h⟩
                ·exact aG h fun σ' ag d hd hn=>(D6 ho hd hn u1 u2 u3 hz' us (aJ ag hx e1) ((aJ ag hy e2).cstr us) (by rw[ag.hs l (by simp)];exact hl) p1).can
                ·obtain⟨hnz,h⟩:=bif_some h
                 exact aG h fun σ' ag d hd hn=>P8 ho hd hn u1 u2 (Xi hnz) us (aJ ag hx e1) ((aJ ag hy e2).cstr us) (by rw[ag.hs l (by simp)];exact hl) p1 hm
          ·cases h
         ·cases h
        ·cases h
   ·cases h
  ·cases h
 ·cases h
theorem Xj (ho:o.op= .makeMap T none) (h:tF P n o σ T k=some r):OpS P n o σ k r:=by
 unfold tF at h
 split at h
 ·rename_i kv hkv
  obtain⟨KT,V⟩:=kv
  obtain⟨u1,u2,u3⟩:=gB hkv
  have hh_:=dO h
  clear h
  obtain⟨hk0,h⟩:=hh_
  exact Tt h fun σ' ag d hd hn=>Qa ho hd hn u1 u2 (by rw[ag.hs _ (by simp)];exact dP σ) (by rw[ag.k0];exact hk0)
 ·cases h
theorem J3 {u:Operand} (ho:o.op= .mapUpdate T x y u) (h:kP P E o σ T x y u k=some r):OpS P n o σ k r:=by
 have hx:x∈o.op.operands.toList:=by rw[ho];simp[Op.operands]
 have hy:y∈o.op.operands.toList:=by rw[ho];simp[Op.operands]
 have hu:u∈o.op.operands.toList:=by rw[ho];simp[Op.operands]
 unfold kP at h
 split at h
 ·rename_i KT V hkv
  obtain⟨u1,u2,u3⟩:=gB hkv
  split at h
  ·rename_i l e1
   split at h
   ·    rename_i T5 es hl
        split at h
        ·rename_i K5 V5 hkv5
         obtain⟨p1,p2,p3⟩:=gB hkv5
         split at h
         ·rename_i TS s hs
          obtain⟨d2,e2,us,rfl⟩:=dI hs
          split at h
          ·rename_i TV dv hpk
           have hh_:=bif_some h
           clear h
           obtain⟨hc,h⟩:=hh_
           have hnm:l∉(opd P E.dt σ V u).rws:=pX (by simpa using and_r (and_r hc))
           obtain⟨hd,hk⟩:=lJ h
           refine⟨_,hk,fun σ' ag=>?_⟩
           have hagr:∀l2∈(opd P E.dt σ V u).rws,lk σ'.hs l2=lk σ.hs l2:=fun l2 hl2=>ag.hs l2 (by simp[hl2])
           rw[hd]
           have hev:∀{z:Operand} {w:AV} {T0:TypeId},z∈o.op.operands.toList→opd P E.dt σ T0 z=w→Ev P (St.mk σ'.ts (wrO σ'.hs (frzW σ'.hs (opd P E.dt σ V u).rws)) σ'.k0) z w:=by
              rintro z w T0 hz rfl
              have e3:opd P E.dt (St.mk σ'.ts (wrO σ'.hs (frzW σ'.hs (opd P E.dt σ V u).rws)) σ'.k0) T0 z=opd P E.dt σ T0 z:=by
                rw[←gM ag.ts hz]
                cases z<;>rfl
              rw[←e3]
              exact gu
           have hpk2:pk P (wrO σ'.hs (frzW σ'.hs (opd P E.dt σ V u).rws)) (opd P E.dt σ V u)=some (TV,dv):=by
              rw[←hpk,dQ hagr]
              exact og _ fun l2 hl2=>eX hagr l2 hl2
           have key:aI P n o ⟨σ'.ts,wrO σ'.hs (frzW σ'.hs (opd P E.dt σ V u).rws),σ'.k0⟩ ((St.mk σ'.ts (wrO σ'.hs (frzW σ'.hs (opd P E.dt σ V u).rws)) σ'.k0).lay l (.map T5 (mput es d2.toStr dv))):=by
              refine H8 (n:=n) ho hd u1 u2 p1 (by simpa using and_l (and_r hc)) (and_l hc) us (hev hx e1) ((hev hy e2).cstr us) (Ev.pk (hev hu rfl) hpk2) ?_
              show lk (wrO σ'.hs _) l=_
              rw[jq hnm,ag.hs l (by simp)]
              exact hl
           have hfin:St.mk (ahN σ'.ts none none) (wrO σ'.hs (frzW σ.hs (opd P E.dt σ V u).rws++[(l,.map T5 (mput es d2.toStr dv))])) σ'.k0=(St.mk σ'.ts (wrO σ'.hs (frzW σ'.hs (opd P E.dt σ V u).rws)) σ'.k0).lay l (.map T5 (mput es d2.toStr dv)):=by
              rw[jo,dQ hagr]
              rfl
           have:=key.pre (Imp.frzW (σ:=σ') (opd P E.dt σ V u).rws)
           rw[←hfin] at this
           exact this
          ·cases h
         ·cases h
        ·cases h
   ·cases h
  ·cases h
 ·cases h
theorem sw:∀{ts:List (Nat×List Value)} {g:Nat} {cs:List Value},xW ts g=some cs→(g,cs)∈ts
 | [],_,_,h=>by cases h
 |t::r,g,cs,h=>by
  unfold xW at h
  cases hb:Nat.beq t.1 g with
  |true=>
   rw[hb] at h
   cases h
   have e:=beq_eq hb
   subst e
   exact List.mem_cons_self
  |false=>
   rw[hb] at h
   exact List.mem_cons_of_mem _ (sw h)
theorem J4 {Te:TypeId} {sz:Nat}:∀{m:Nat} {cs:List Value} {ds:List Dt},ah1 P Te sz m cs=some ds→∀(i:Nat) (d:Dt),ds[i]? =some d→∀(ok:Nat→Prop) (w:World),RD P ok w Te d ((cs.drop (i*sz)).take sz)∧i<m
 |0,cs,ds,h,i,d,hd,ok,w=>by
  unfold ah1 at h
  cases h
  simp at hd
 |m+    1,cs,ds,h,i,d,hd,ok,w=>by
  unfold ah1 at h
  split at h
  ·rename_i v hv
   split at h
   ·    rename_i T' d' hp
        obtain⟨h1,h2⟩:=bif_some h
        have e:=beq_eq h1
        subst e
        split at h2
        ·rename_i ds' hds
         cases h2
         cases i with
         |zero=>
          simp only[List.getElem?_cons_zero,Option.some.injEq] at hd
          subst hd
          refine⟨?_,by omega⟩
          simp only[Nat.zero_mul,List.drop_zero]
          exact bV (β:=fun _=>none) (hs:=[]) (fun l T es hl=>by simp[lk] at hl) ((lK hv).1 ok w _) hp
         |succ i=>
          simp only[List.getElem?_cons_succ] at hd
          obtain⟨q1,q2⟩:=J4 hds i d hd ok w
          rw[List.drop_drop,show sz+i*sz=(i+1)*sz by rw[Nat.succ_mul];omega] at q1
          exact⟨q1,by omega⟩
        ·cases h2
   ·cases h
  ·cases h
theorem aBf {g:Nat} (ho:o.op= .indexAddr T (.global g) y) (h:ah2 P E n o σ T g y k=some r):OpS P n o σ k r:=by
 have hy:y∈o.op.operands.toList:=by rw[ho];simp[Op.operands]
 unfold ah2 at h
 split at h
 ·rename_i len Te hu
  split at h
  ·rename_i cs hcs
   split at h
   ·    rename_i ds hds
        split at h
        ·rename_i i hi
         have hh_:=bif_some h
         clear h
         obtain⟨hc,h⟩:=hh_
         have hh_:=Option.bind_eq_some_iff.1 h
         clear h
         obtain⟨e,he,h⟩:=hh_
         obtain⟨p1,p2⟩:=p9 he
         have h0:=lY (and_l hc)
         have hlen:=beq_eq (and_r hc)
         refine aG h fun σ' ag d hd hn=>?_
         obtain⟨TI,k1,v1,v2⟩:=fP (lo:=some y) (E:=E) (σ:=σ') (i:=i) (by rw[cB ag.ts (by intro z hz;cases hz;exact hy)];exact hi)
         refine aC hd hn fun ok0 w0 a w β r=>?_
         obtain⟨_,e2,_⟩:=RV.int v1 (v2 _ _ _ _ _ _ r)
         simp only[Dt.toInt] at e2
         obtain⟨hok,TT,fr,hblk⟩:=r.tab.1 _ (sw hcs)
         have hmul:∀m,m<len→m*P.cellsOf Te+P.cellsOf Te≤len*P.cellsOf Te:=fun m hm=>by
          have:=Nat.mul_le_mul_right (P.cellsOf Te) (show m+1≤len from hm)
          rw[Nat.succ_mul] at this
          exact this
         have hq:=J4 hds i.toNat e p2
         have hlt:=(hq (fun _=>True) w).2
         have hm:=hmul _ hlt
         refine⟨.pointer (some ((⟨g,0,none⟩:Addr).add (i.toNat*P.cellsOf Te))),?_,Jb (cs:=(cs.drop (i.toNat*P.cellsOf Te)).take (P.cellsOf Te)) (by rw[block_add];exact hok) (by rw[List.length_take,List.length_drop];omega) (fun j v hv=>?_) (hq _ w).1⟩
         ·have hii:i<len:=by omega
          cases hin:P.info? Te with
          |none=>simp[Program.cellsOf,hin] at h0
          | some inf=>
            unfold execOp
            simp only[ho,e2,Sem.run_bind]
            have ea:a.eval (.global g)= .pointer (some ⟨g,0,none⟩):=rfl
            rw[ea]
            simp[Instr.indexAt,asIntOf,run_underlying hu,Instr.sureAddr,p1,hii,sizeOf,typeInfo,hin,Program.cellsOf]
         ·rw[add_add,fZ,Nat.zero_add]
          rw[List.getElem?_take] at hv
          split at hv
          · rename_i hj
            rw[List.getElem?_drop] at hv
            have hb:w.heap[g]? =some (.cells cs.toArray TT fr):=hblk
            simp only[World.cell?,hb]
            simpa using hv
          ·cases hv
        ·cases h
   ·cases h
  ·cases h
 ·cases h
end
end Go.Am
