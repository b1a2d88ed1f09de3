/- Circles: coordinates, points, distances, valid circles, what lies inside.
Valid circles,what lies inside,the point that a value denotes:the program's functions and the reference's.
The point that a value denotes.
The least distance among values:the program's loop and the reference's. -/
import Derived.Test.YtameompfdamfpaaGreatDoorRA
set_option linter.unusedVariables false
set_option linter.unusedSimpArgs false
namespace Go.Proofs.YtameompfdamfpaaGreatDoor
open Go.Am
def inC (n:Int):Bool:=bif decide (0≤n) then decide (n<65536) else false
def isPt (p:Dt):Bool:=bif inC (Dt.I p 0) then inC (Dt.I p 1) else false
theorem gC (m:Nat) (n:Int):geo_isCoordinate (m+1) n=some (inC n):=by
 rw[geo_isCoordinate,inC];cases decide (0≤n)<;>rfl
theorem rC (m:Nat) (n:Int):ref10_in (m+1) n=some (inC n):=by
 rw[ref10_in,inC];cases decide (0≤n)<;>rfl
theorem gP (m:Nat) (p:Dt):geo_isPoint (m+2) p=some (isPt p):=by
 rw[geo_isPoint,gC,gC,isPt];cases inC (Dt.I p 0)<;>rfl
theorem rP (m:Nat) (p:Dt):ref10_Is (m+2) p=some (isPt p):=by
 rw[ref10_Is,rC,rC,isPt];cases inC (Dt.I p 0)<;>rfl
def dsW (a b:Dt):Int:=IntKind.wrap .i64 ((IntKind.wrap .i64 ((IntKind.wrap .i64 ((Dt.I a 0)-(Dt.I b 0)))*(IntKind.wrap .i64 ((Dt.I a 0)-(Dt.I b 0)))))+(IntKind.wrap .i64 ((IntKind.wrap .i64 ((Dt.I a 1)-(Dt.I b 1)))*(IntKind.wrap .i64 ((Dt.I a 1)-(Dt.I b 1))))))
def dsD (a b:Dt):Int:=bif isPt a then(bif isPt b then dsW a b else -1) else -1
theorem gD (m:Nat) (a b:Dt):geo_Distance (m+3) a b=some (dsD a b):=by
 rw[geo_Distance,gP,gP,dsD]
 cases isPt a<;>cases isPt b<;>rfl
theorem rD (m:Nat) (a b:Dt):ref10_Distance (m+3) a b=some (dsD a b):=by
 rw[ref10_Distance,rP,rP,dsD]
 cases isPt a<;>cases isPt b<;>rfl
theorem inC_iff {n:Int}:inC n=true↔0≤n∧n<65536:=by
 unfold inC
 by_cases h:0≤n<;>simp[h]
theorem isPt_iff {p:Dt}:isPt p=true↔(0≤Dt.I p 0∧Dt.I p 0<65536)∧0≤Dt.I p 1∧Dt.I p 1<65536:=by
 unfold isPt
 cases h:inC (Dt.I p 0) with
 |true=>simp only[cond_true,inC_iff];exact⟨fun h2=>⟨inC_iff.1 h,h2⟩,fun h2=>h2.2⟩
 |false=>
  simp only[cond_false]
  constructor
  ·intro h2;cases h2
  ·intro h2;rw[inC_iff.2 h2.1] at h;cases h
theorem sq_bound {x y:Int} (h1: -65536≤x) (h2:x≤65536):0≤x*x∧x*x≤4294967296:=by
 constructor
 ·rcases Int.le_total 0 x with h|h
  ·exact Int.mul_nonneg h h
  ·exact Int.mul_nonneg_of_nonpos_of_nonpos h h
 ·rcases Int.le_total 0 x with h|h
  ·exact Int.le_trans (Int.mul_le_mul h2 h2 h (by omega)) (by omega)
  ·have:=Int.mul_le_mul (show -x≤65536 by omega) (show -x≤65536 by omega) (by omega) (by omega)
   rw[Int.neg_mul_neg] at this
   exact Int.le_trans this (by omega)
theorem dsW_eq {a b:Dt} (ha:isPt a=true) (hb:isPt b=true):dsW a b=(Dt.I a 0-Dt.I b 0)*(Dt.I a 0-Dt.I b 0)+(Dt.I a 1-Dt.I b 1)*(Dt.I a 1-Dt.I b 1)∧0≤dsW a b∧dsW a b≤8589934592:=by
 obtain⟨⟨a1,a2⟩,a3,a4⟩:=isPt_iff.1 ha
 obtain⟨⟨b1,b2⟩,b3,b4⟩:=isPt_iff.1 hb
 have h1:=sq_bound (x:=Dt.I a 0-Dt.I b 0) (y:=0) (by omega) (by omega)
 have h2:=sq_bound (x:=Dt.I a 1-Dt.I b 1) (y:=0) (by omega) (by omega)
 have w1:IntKind.wrap .i64 (Dt.I a 0-Dt.I b 0)=Dt.I a 0-Dt.I b 0:=wrap64 (by omega) (by omega)
 have w2:IntKind.wrap .i64 (Dt.I a 1-Dt.I b 1)=Dt.I a 1-Dt.I b 1:=wrap64 (by omega) (by omega)
 unfold dsW
 rw[w1,w2]
 generalize (Dt.I a 0-Dt.I b 0)*(Dt.I a 0-Dt.I b 0)=x at h1 ⊢
 generalize (Dt.I a 1-Dt.I b 1)*(Dt.I a 1-Dt.I b 1)=y at h2 ⊢
 rw[wrap64 (n:=x) (by omega) (by omega),wrap64 (n:=y) (by omega) (by omega),wrap64 (by omega) (by omega)]
 omega
theorem dsD_comm (a b:Dt):dsD a b=dsD b a:=by
 unfold dsD
 cases ha:isPt a<;>cases hb:isPt b<;>simp only[cond_true,cond_false]
 rw[(dsW_eq ha hb).1,(dsW_eq hb ha).1]
 have e1:(Dt.I a 0-Dt.I b 0)= -(Dt.I b 0-Dt.I a 0):=by omega
 have e2:(Dt.I a 1-Dt.I b 1)= -(Dt.I b 1-Dt.I a 1):=by omega
 rw[e1,e2,Int.neg_mul_neg,Int.neg_mul_neg]
theorem dsD_bound (a b:Dt): -1≤dsD a b∧dsD a b≤8589934592:=by
 unfold dsD
 cases ha:isPt a<;>cases hb:isPt b<;>simp only[cond_true,cond_false]<;>first|omega|skip
 have:=dsW_eq ha hb
 omega
end Go.Proofs.YtameompfdamfpaaGreatDoor
namespace Go.Proofs.YtameompfdamfpaaGreatDoor
open Go.Am
def cirB (s:Dt):Bool:=match Dt.L s 1 with
 | [p]=>isPt p&&inC (Dt.I s 2)
 |_=>false
def ansC (b:Bool):Int:=bif b then 0 else 18
theorem two_one:((2:Int)==1)=false∧((2:Int)==2)=true∧((2:Int)==3)=false:=⟨rfl,rfl,rfl⟩
theorem gV (m:Nat) (s:Dt) (h2:Dt.I s 0=2):geo_Valid (m+4) s=some (ansC (cirB s)):=by
 rw[geo_Valid,h2,two_one.1,two_one.2.1,cond_false,cond_true]
 cases hL:Dt.L s 1 with
 |nil=>simp[cirB,hL,geo_Valid_j0,ansC]
 |cons p r=>
  cases r with
  |cons q r=>
   have e:((((p::q::r).length:Nat):Int)==1)=false:=by rw[beq_eq_false_iff_ne];simp only[List.length_cons];omega
   rw[e]
   simp[cirB,hL,geo_Valid_j0,ansC]
  |nil=>
   have e:(((([p]:List Dt).length:Nat):Int)==1)=true:=rfl
   rw[e,cond_true,gC,Option.bind_some,cirB,hL]
   simp only[geo_Valid_j0]
   cases hr:inC (Dt.I s 2) with
   |false=>simp[ansC]
   |    true=>
        simp only[Bool.not_true,cond_false,geo_Valid_j1,hL,geo_Valid_j2,geo_Valid_l3,geo_Valid_j4,geo_Valid_j5,geo_Valid_j6]
        have e1:decide ((0:Int)<((([p]:List Dt).length:Nat):Int))=true:=rfl
        have e2:idx [p] 0=some p:=idx_lt (l:=[p]) (i:=0) (by simp)
        have e3:decide (IntKind.wrap .i64 ((0:Int)+1)<((([p]:List Dt).length:Nat):Int))=false:=by rw[wrap64 (by omega) (by omega)];rfl
        rw[e1,cond_true,e2,Option.bind_some,gP,Option.bind_some,e3]
        cases isPt p<;>rfl
theorem rV_loop (m:Nat) (s:Dt) (hl:(Dt.L s 1).length<9223372036854775807):∀(M i:Nat),i≤(Dt.L s 1).length→(Dt.L s 1).length-i<M→ref10_Valid_l2 (m+2) M ((Dt.L s 1).length:Int) (i:Int) s=bif ((Dt.L s 1).drop i).all isPt then ref10_Valid_j5 (m+2) ((Dt.L s 1).length:Int) s else some 18
 |0,i,_,h=>by omega
 |M+    1,i,hi,h=>by
  simp only[ref10_Valid_l2,dlt]
  by_cases hlt:i<(Dt.L s 1).length
  ·rw[List.drop_eq_getElem_cons hlt]
   simp only[hlt,decide_true,cond_true,ref10_Valid_j3,ref10_Valid_j4,idx_lt hlt,Option.bind_some,rP,List.all_cons,wrapS (show i<9223372036854775807 by omega)]
   cases isPt (Dt.L s 1)[i] with
   |false=>rfl
   |    true=>
        simp only[Bool.not_true,cond_false,Bool.true_and]
        exact rV_loop m s hl M (i+1) (by omega) (by omega)
  ·have e:i=(Dt.L s 1).length:=by omega
   rw[e,List.drop_length]
   simp
theorem rV5 (m:Nat) (s:Dt) (n:Int) (h2:Dt.I s 0=2):ref10_Valid_j5 (m+1) n s=some (ansC ((n==1)&&inC (Dt.I s 2))):=by
 unfold ref10_Valid_j5
 rw[h2,two_one.1,two_one.2.1,two_one.2.2,cond_false,cond_true,rC,Option.bind_some]
 cases (n==1)<;>cases inC (Dt.I s 2)<;>rfl
theorem rV (m:Nat) (s:Dt) (h2:Dt.I s 0=2) (hl:(Dt.L s 1).length≤m) (hm:m<9223372036854775807):ref10_Valid (m+3) s=some (ansC (cirB s)):=by
 rw[ref10_Valid]
 have hlp:=rV_loop m s (by omega) (m+3) 0 (Nat.zero_le _) (by omega)
 rw[List.drop_zero] at hlp
 have hj:ref10_Valid_j0 (m+2) ((Dt.L s 1).length:Int) s=some (ansC (cirB s)):=by
  refine Eq.trans hlp ?_
  rw[rV5 _ s _ h2,cirB]
  cases hL:Dt.L s 1 with
  |nil=>rfl
  |cons p r=>
   cases r with
   |    cons q r=>
        have e:((((p::q::r).length:Nat):Int)==1)=false:=by rw[beq_eq_false_iff_ne];simp only[List.length_cons];omega
        rw[e]
        cases ((p::q::r).all isPt)<;>rfl
   |    nil=>
        simp only[List.all_cons,List.all_nil,Bool.and_true]
        have e:(((([p]:List Dt).length:Nat):Int)==1)=true:=rfl
        rw[e]
        cases isPt p<;>cases inC (Dt.I s 2)<;>rfl
 by_cases h64:(64:Int)<((Dt.L s 1).length:Int)
 ·rw[decide_eq_true h64,cond_true,cirB]
  cases hL:Dt.L s 1 with
  |nil=>rw[hL] at h64;simp at h64
  |cons p r=>
   cases r with
   |cons q r=>rfl
   |nil=>rw[hL] at h64;simp at h64
 ·rw[decide_eq_false h64,cond_false]
  exact hj
def insB (s p:Dt):Bool:=match Dt.L s 1 with
 | [c]=>bif isPt p then decide (dsD c p≤IntKind.wrap .i64 ((Dt.I s 2)*(Dt.I s 2))) else false
 |_=>false
theorem cir_inv {s:Dt} (h:cirB s=true):∃c,Dt.L s 1=[c]∧isPt c=true:=by
 unfold cirB at h
 split at h
 ·next p hp=>exact⟨p,hp,by simp only[Bool.and_eq_true] at h;exact h.1⟩
 ·cases h
theorem gI (m:Nat) (s p:Dt) (h2:Dt.I s 0=2) (hc:cirB s=true):geo_Inside (m+5) s p=some (insB s p):=by
 obtain⟨c,hL,_⟩:=cir_inv hc
 have e2:idx [c] 0=some c:=idx_lt (l:=[c]) (i:=0) (by simp)
 rw[geo_Inside,gV m s h2,hc,Option.bind_some,gP,insB,hL]
 simp only[show ((ansC true) !=0)=false from rfl,cond_false,Option.bind_some,geo_Inside_j0,geo_Inside_j1,h2,two_one.1,two_one.2.1,cond_true,hL,e2,gD]
 cases isPt p<;>rfl
theorem rI (m:Nat) (s p:Dt) (h2:Dt.I s 0=2) (hc:cirB s=true) (hm:m<9223372036854775800):ref10_Inside (m+5) s p=some (insB s p):=by
 obtain⟨c,hL,_⟩:=cir_inv hc
 have e2:idx [c] 0=some c:=idx_lt (l:=[c]) (i:=0) (by simp)
 rw[ref10_Inside,rV (m+1) s h2 (by rw[hL];simp) (by omega),hc,Option.bind_some,rP,insB,hL]
 simp only[show ((ansC true) !=0)=false from rfl,cond_false,Option.bind_some,ref10_Inside_j0,ref10_Inside_j1,h2,two_one.1,two_one.2.1,cond_true,hL,e2,rD]
 cases isPt p<;>rfl
end Go.Proofs.YtameompfdamfpaaGreatDoor
namespace Go.Proofs.YtameompfdamfpaaGreatDoor
open Go.Am
def gtV (v:Dt) (s:ByteArray):Dt:=match fi s (Dt.L v 4) with
 |some k=>chF v k
 |none=>kza2373
theorem vget_eq (m:Nat) (s:ByteArray) (v:Dt) (hw:WV v) (h5:Dt.I v 0=5) (hm:v.bulk≤m) (hb:v.bulk≤137438953472) (hm2:m<9223372036854775807):∃b,value_Get (m+2) v s=some (gtV v s,b):=by
 have hn:=L_len v 4
 rw[value_Get,vfind_eq m s v h5 (by omega) hm2,Option.bind_some,gtV]
 cases h:fi s (Dt.L v 4) with
 |none=>exact⟨false,by rw[oIn,dn2,cond_true]⟩
 |some k=>
  have hk:=fi_lt h
  obtain⟨e1,e2,e3⟩:=ch_F hw hk
  refine⟨true,?_⟩
  rw[oI0,dp2,cond_false,value_Get_j0,idx_lt hk,Option.bind_some,←e1,value_clone_cp _ _ (Nat.le_refl _) (by omega) e2 m (by omega),Option.bind_some,prt5_back e2.isVal]
theorem rget_eq' (m:Nat) (s:ByteArray) (v:Dt) (hw:WV v) (h5:Dt.I v 0=5) (hm:v.bulk≤m) (hm2:m<9223372036854775807):∃b,ref01_Get (m+2) v s=some (gtV v s,b):=by
 have hn:=L_len v 4
 rw[ref01_Get,at_eq m s v h5 (by omega) hm2,Option.bind_some,gtV]
 cases h:fi s (Dt.L v 4) with
 |none=>exact⟨false,by rw[oIn,dn2,cond_true]⟩
 |some k=>
  have hk:=fi_lt h
  obtain⟨e1,e2,e3⟩:=ch_F hw hk
  refine⟨true,?_⟩
  rw[oI0,dp2,cond_false,ref01_Get_j0,idx_lt hk,Option.bind_some,←e1]
def zPt:Dt:= .agg [.int 0,.int 0]
def ptOf (x y:Dt):Dt×Int:=bif (Dt.I x 0 !=3) then(zPt,18) else bif (Dt.I y 0 !=3) then(zPt,18) else bif isPt (.agg [.int (Dt.I x 1),.int (Dt.I y 1)]) then(.agg [.int (Dt.I x 1),.int (Dt.I y 1)],0) else(zPt,18)
theorem gPo (m:Nat) (x y:Dt):geo_Point_j1 (m+2) zPt x y=some (ptOf x y):=by
 unfold geo_Point_j1 ptOf
 cases (Dt.I x 0 !=3) with
 |true=>rfl
 |false=>
  cases (Dt.I y 0 !=3) with
  |true=>rfl
  |false=>
   simp only[cond_false,gP,Option.bind_some,geo_Point_j2]
   cases isPt _<;>rfl
theorem rPo (m:Nat) (x y:Dt):ref10_Point_j3 (m+2) zPt x y=some (ptOf x y):=by
 unfold ref10_Point_j3 ptOf
 cases (Dt.I x 0 !=3) with
 |true=>rfl
 |false=>
  cases (Dt.I y 0 !=3) with
  |true=>rfl
  |false=>
   simp only[cond_false,rP,Option.bind_some,ref10_Point_j4]
   cases isPt _<;>rfl
def xN:ByteArray:=ByteArray.mk (List.toArray [120])
def yN:ByteArray:=ByteArray.mk (List.toArray [121])
def ptV (v:Dt):Dt×Int:=bif (Dt.I v 0==6) then(match Dt.L v 3 with
    | [x,y]=>ptOf x y
    |_=>ptOf kza2373 kza2373)
 else bif (Dt.I v 0==5) then(bif (((Dt.L v 4).length:Int)==2) then ptOf (gtV v xN) (gtV v yN) else ptOf kza2373 kza2373) else ptOf kza2373 kza2373
theorem gPt (m:Nat) (v:Dt) (hw:WV v) (hm:v.bulk≤m) (hb:v.bulk≤137438953472) (hm2:m<9223372036854775807):geo_Point (m+3) v=some (ptV v):=by
 rw[geo_Point,ptV]
 have hz:∀x y,geo_Point_j1 (m+2) (.agg [.int 0,.int 0]) x y=some (ptOf x y):=fun x y=>gPo m x y
 by_cases h6:Dt.I v 0=6
 ·rw[   h6,show ((6:Int)==6)=true from rfl,cond_true,cond_true]
  split
  ·next x y hL=>
   have e0:idx [x,y] 0=some x:=idx_lt (l:=[x,y]) (i:=0) (by simp)
   have e1:idx [x,y] 1=some y:=idx_lt (l:=[x,y]) (i:=1) (by simp)
   rw[hL,show (((([x,y]:List Dt).length:Nat):Int)==2)=true from rfl]
   simp only[geo_Point_j0,cond_true,hL,e0,e1,Option.bind_some,hz]
  ·next hne=>
   have e:((((Dt.L v 3).length:Nat):Int)==2)=false:=by
        rw[beq_eq_false_iff_ne]
        intro h
        obtain⟨x,y,e⟩:=list2 (l:=Dt.L v 3) (by omega)
        exact hne x y e
   rw[e]
   simp only[geo_Point_j0,cond_false,h6,show ((6:Int)==5)=false from rfl,geo_Point_j4,hz]
 ·have e6:(Dt.I v 0==6)=false:=by rw[beq_eq_false_iff_ne];exact h6
  rw[e6,cond_false,cond_false]
  simp only[geo_Point_j0,cond_false]
  by_cases h5:Dt.I v 0=5
  ·rw[h5,show ((5:Int)==5)=true from rfl,cond_true,cond_true]
   cases hl2:((((Dt.L v 4).length:Nat):Int)==2) with
   |false=>simp only[geo_Point_j4,cond_false,hz]
   |    true=>
        obtain⟨b1,q1⟩:=vget_eq m xN v hw h5 hm hb hm2
        obtain⟨b2,q2⟩:=vget_eq m yN v hw h5 hm hb hm2
        have q1':value_Get (m+2) v (ByteArray.mk (List.toArray [120]))=some (gtV v xN,b1):=q1
        have q2':value_Get (m+2) v (ByteArray.mk (List.toArray [121]))=some (gtV v yN,b2):=q2
        simp only[geo_Point_j4,cond_true,q1',q2',Option.bind_some,hz]
  ·have e5:(Dt.I v 0==5)=false:=by rw[beq_eq_false_iff_ne];exact h5
   rw[e5]
   simp only[cond_false,geo_Point_j4,hz]
theorem rPt (m:Nat) (v:Dt) (hw:WV v) (hm:v.bulk≤m) (hm2:m<9223372036854775807):ref10_Point (m+3) v=some (ptV v):=by
 rw[ref10_Point,ptV]
 have hz:∀x y,ref10_Point_j3 (m+2) (.agg [.int 0,.int 0]) x y=some (ptOf x y):=fun x y=>rPo m x y
 by_cases h6:Dt.I v 0=6
 ·rw[   h6,show ((6:Int)==6)=true from rfl,cond_true,cond_true]
  split
  ·next x y hL=>
   have e0:idx [x,y] 0=some x:=idx_lt (l:=[x,y]) (i:=0) (by simp)
   have e1:idx [x,y] 1=some y:=idx_lt (l:=[x,y]) (i:=1) (by simp)
   rw[hL,show (((([x,y]:List Dt).length:Nat):Int)==2)=true from rfl]
   simp only[ref10_Point_j0,cond_true,hL,e0,e1,Option.bind_some,ref10_Point_j1,h6,show ((6:Int)==5)=false from rfl,cond_false,ref10_Point_j2,hz]
  ·next hne=>
   have e:((((Dt.L v 3).length:Nat):Int)==2)=false:=by
        rw[beq_eq_false_iff_ne]
        intro h
        obtain⟨x,y,e⟩:=list2 (l:=Dt.L v 3) (by omega)
        exact hne x y e
   rw[e]
   simp only[ref10_Point_j0,cond_false,ref10_Point_j1,h6,show ((6:Int)==5)=false from rfl,ref10_Point_j2,hz]
 ·have e6:(Dt.I v 0==6)=false:=by rw[beq_eq_false_iff_ne];exact h6
  rw[e6,cond_false,cond_false]
  simp only[ref10_Point_j0,cond_false,ref10_Point_j1]
  by_cases h5:Dt.I v 0=5
  ·rw[h5,show ((5:Int)==5)=true from rfl,cond_true,cond_true]
   cases hl2:((((Dt.L v 4).length:Nat):Int)==2) with
   |false=>simp only[ref10_Point_j2,cond_false,hz]
   |    true=>
        obtain⟨b1,q1⟩:=rget_eq' m xN v hw h5 hm hm2
        obtain⟨b2,q2⟩:=rget_eq' m yN v hw h5 hm hm2
        have q1':ref01_Get (m+2) v (ByteArray.mk (List.toArray [120]))=some (gtV v xN,b1):=q1
        have q2':ref01_Get (m+2) v (ByteArray.mk (List.toArray [121]))=some (gtV v yN,b2):=q2
        simp only[ref10_Point_j2,cond_true,q1',q2',Option.bind_some,hz]
  ·have e5:(Dt.I v 0==5)=false:=by rw[beq_eq_false_iff_ne];exact h5
   rw[e5]
   simp only[cond_false,ref10_Point_j2,hz]
end Go.Proofs.YtameompfdamfpaaGreatDoor
namespace Go.Proofs.YtameompfdamfpaaGreatDoor
open Go.Am
def cen (s:Dt):Dt:=match Dt.L s 1 with
 | [c]=>c
 |_=>zPt
def nst (s:Dt) (acc:Int×Bool) (v:Dt):Int×Bool:=
 bif ((ptV v).2 !=0) then acc else bif (!insB s (ptV v).1) then acc else bif (!acc.2) then(dsD (cen s) (ptV v).1,true) else bif decide (dsD (cen s) (ptV v).1<acc.1) then(dsD (cen s) (ptV v).1,true) else acc
theorem cen_eq {s:Dt} (h:cirB s=true):Dt.L s 1=[cen s]:=by
 obtain⟨c,hL,_⟩:=cir_inv h
 rw[cen,hL]
theorem nearest_loop (m:Nat) (s:Dt) (h2:Dt.I s 0=2) (hc:cirB s=true) (l:List Dt) (hl:l.length<9223372036854775807) (hw:∀v∈l,WV v∧v.bulk≤m) (hb:m≤137438953472):∀(M i:Nat) (acc:Int×Bool),i≤l.length→l.length-i<M→
  reshape_nearest_l1 (m+5) M acc.1 acc.2 l (l.length:Int) (i:Int) s=some ((l.drop i).foldl (nst s) acc)
 |0,i,_,_,h=>by omega
 |M+    1,i,acc,hi,h=>by
  simp only[reshape_nearest_l1,dlt]
  by_cases hlt:i<l.length
  ·obtain⟨w1,w2⟩:=hw _ (List.getElem_mem hlt)
   have e0:idx [cen s] 0=some (cen s):=idx_lt (l:=[cen s]) (i:=0) (by simp)
   have ih:=fun acc=>nearest_loop m s h2 hc l hl hw hb M (i+1) acc (by omega) (by omega)
   have hp:=gPt (m+2) l[i] w1 (by omega) (by omega) (by omega)
   have hI:=gI m s (ptV l[i]).1 h2 hc
   have hD:=gD (m+2) (ptV l[i]).1 (cen s)
   rw[dsD_comm] at hD
   rw[List.drop_eq_getElem_cons hlt,List.foldl_cons]
   simp only[hlt,decide_true,cond_true,reshape_nearest_j2,idx_lt hlt,Option.bind_some,hp,nst]
   cases ((ptV l[i]).2 !=0) with
   |true=>simp only[cond_true,reshape_nearest_j3,wrapS (show i<9223372036854775807 by omega)];exact ih acc
   |    false=>
        simp only[cond_false,hI,Option.bind_some]
        cases insB s (ptV l[i]).1 with
        |false=>simp only[Bool.not_false,cond_true,reshape_nearest_j3,wrapS (show i<9223372036854775807 by omega)];exact ih acc
        |true=>
         simp only[Bool.not_true,cond_false,reshape_nearest_j4,cen_eq hc,e0,Option.bind_some,hD,reshape_nearest_j5,reshape_nearest_j3,wrapS (show i<9223372036854775807 by omega)]
         obtain⟨x0,x1⟩:=acc
         cases x1 with
         |false=>simp only[Bool.not_false,cond_true];exact ih (_,true)
         |true=>
          simp only[Bool.not_true,cond_false]
          cases decide (dsD (cen s) (ptV l[i]).1<x0) with
          |true=>simp only[cond_true];exact ih (_,true)
          |false=>simp only[cond_false];exact ih (_,true)
  ·have e:i=l.length:=by omega
   rw[e,List.drop_length]
   simp[reshape_nearest_j6]
theorem distance_loop (m:Nat) (s:Dt) (h2:Dt.I s 0=2) (hc:cirB s=true) (l:List Dt) (hl:l.length<9223372036854775807) (hw:∀v∈l,WV v∧v.bulk≤m) (hb:m≤137438953472):∀(M i:Nat) (acc:Int×Bool),i≤l.length→l.length-i<M→
  ref36_Distance_l1 (m+5) M acc.1 acc.2 l (i:Int) s=some ((l.drop i).foldl (nst s) acc)
 |0,i,_,_,h=>by omega
 |M+    1,i,acc,hi,h=>by
  simp only[ref36_Distance_l1,dlt]
  by_cases hlt:i<l.length
  ·obtain⟨w1,w2⟩:=hw _ (List.getElem_mem hlt)
   have e0:idx [cen s] 0=some (cen s):=idx_lt (l:=[cen s]) (i:=0) (by simp)
   have ih:=fun acc=>distance_loop m s h2 hc l hl hw hb M (i+1) acc (by omega) (by omega)
   have hp:=rPt (m+2) l[i] w1 (by omega) (by omega)
   have hI:=rI m s (ptV l[i]).1 h2 hc (by omega)
   have hD:=rD (m+2) (cen s) (ptV l[i]).1
   rw[List.drop_eq_getElem_cons hlt,List.foldl_cons]
   simp only[hlt,decide_true,cond_true,ref36_Distance_j2,idx_lt hlt,Option.bind_some,hp,nst]
   cases ((ptV l[i]).2 !=0) with
   |true=>simp only[cond_true,ref36_Distance_j3,wrapS (show i<9223372036854775807 by omega)];exact ih acc
   |    false=>
        simp only[cond_false,hI,Option.bind_some]
        cases insB s (ptV l[i]).1 with
        |false=>simp only[Bool.not_false,cond_true,ref36_Distance_j3,wrapS (show i<9223372036854775807 by omega)];exact ih acc
        |true=>
         simp only[Bool.not_true,cond_false,ref36_Distance_j4,cen_eq hc,e0,Option.bind_some,hD,ref36_Distance_j5,ref36_Distance_j3,wrapS (show i<9223372036854775807 by omega)]
         obtain⟨x0,x1⟩:=acc
         cases x1 with
         |false=>simp only[Bool.not_false,cond_true];exact ih (_,true)
         |true=>
          simp only[Bool.not_true,cond_false]
          cases decide (dsD (cen s) (ptV l[i]).1<x0) with
          |true=>simp only[cond_true];exact ih (_,true)
          |false=>simp only[cond_false];exact ih (_,true)
  ·have e:i=l.length:=by omega
   rw[e,List.drop_length]
   simp[ref36_Distance_j6]
theorem nst_bound (s:Dt):∀(l:List Dt) (acc:Int×Bool),(-1≤acc.1∧acc.1≤8589934592)→ -1≤(l.foldl (nst s) acc).1∧(l.foldl (nst s) acc).1≤8589934592
 | [],_,h=>h
 |v::l,acc,h=>by
  rw[List.foldl_cons]
  refine nst_bound s l _ ?_
  have hd:=dsD_bound (cen s) (ptV v).1
  unfold nst
  cases ((ptV v).2 !=0) with
  |true=>exact h
  |false=>
   cases insB s (ptV v).1 with
   |false=>exact h
   |    true=>
        cases acc.2 with
        |false=>exact hd
        |true=>
         simp only[Bool.not_true,cond_false]
         cases decide (dsD (cen s) (ptV v).1<acc.1) with
         |true=>exact hd
         |false=>exact h
end Go.Proofs.YtameompfdamfpaaGreatDoor
