/- Near: the program's and the reference's answers are the same. -/
import Derived.Test.YtameompfdamfpaaGreatDoorRD
import Derived.Test.YtameompfdamfpaaGreatDoorRB
import Derived.Test.YtameompfdamfpaaGreatDoorRE
set_option linter.unusedVariables false
set_option linter.unusedSimpArgs false
namespace Go.Proofs.YtameompfdamfpaaGreatDoor
open Go.Am Go.Am.Srt
def DocN (d:Dt):Prop:=WV d∧Dt.I d 0=5∧DL 16 d∧d.bulk≤1048576
theorem near_one (s d:Dt) (h2:Dt.I s 0=2) (hc:cirB s=true) (hd:DocN d) (p:List Dt) (m:Nat) (hm:68719477000≤m) (hm2:m≤137438953000):
  ∃q:Int×Bool,reshape_nearest (m+6) s p d=some q∧ref36_Distance (m+6) s p d=some q∧ -1≤q.1∧q.1≤8589934592:=by
 obtain⟨l,l1,l2,l3,l4⟩:=leaves_eq d hd.1 16 hd.2.2.1 (by have:=hd.2.2.2;omega) p (m+4) (by omega) (by omega)
 have hb:=nst_bound s l (0,false) (by decide)
 refine⟨l.foldl (nst s) (0,false),?_,?_,hb⟩
 ·rw[reshape_nearest,l3,Option.bind_some]
  exact nearest_loop m s h2 hc l (by omega) (fun v hv=>⟨(l1 v hv).1,by have:=(l1 v hv).2;omega⟩) (by omega) (m+6) 0 (0,false) (Nat.zero_le _) (by omega)
 ·rw[ref36_Distance,l4,Option.bind_some]
  exact distance_loop m s h2 hc l (by omega) (fun v hv=>⟨(l1 v hv).1,by have:=(l1 v hv).2;omega⟩) (by omega) (m+6) 0 (0,false) (Nat.zero_le _) (by omega)
def intV (n:Int):Dt:= .agg [.int 3,.int n,.str (ByteArray.mk (List.toArray [])),.lst [],.lst []]
theorem intV_wv (n:Int):WV (intV n):= .mk (by simp) (by simp)
theorem intV_bulk (n:Int):(intV n).bulk≤10:=by unfold intV;rw[bulk_val];simp[Dt.bulkL];decide
def resN (name:ByteArray) (q:Dt):Dt:=nmd (Dt.fld q 0) name (intV (Dt.I q 1))
def cD (x y:Dt):Int:=Dt.I x 1-Dt.I y 1
theorem cD_swo:SWO (ltc cD):=ltd_swo
def PD (x:Dt):Prop:= -1≤Dt.I x 1∧Dt.I x 1≤8589934592
theorem cD_eq:∀m,1≤m→∀x y,PD x→PD y→reshape_Near_1 m x y=some (cD x y):=by
 intro m hm x y hx hy
 obtain⟨m,rfl⟩:∃k,m=k+1:=⟨m-1,by omega⟩
 obtain⟨x1,x2⟩:=hx
 obtain⟨y1,y2⟩:=hy
 rw[reshape_Near_1,wrap64 (by omega) (by omega)]
 rfl
theorem near_both (s:Dt) (docs p:List Dt) (name:ByteArray) (hd:∀d∈docs,DocN d) (hl:docs.length≤30) (hs:(Dt.L s 1).length≤1048576) (m:Nat) (hm:68719477000≤m) (hm2:m≤137438953000):
  ∃R:List Dt,R.length≤30∧(∀x∈R,∃d∈docs,x=resN name (plc d (Dt.I x 1))∨∃n,x=resN name (plc d n))∧reshape_Near (m+7) s p name docs=some R∧ref36_Near (m+7) s p name docs=some R:=by
 by_cases h2:Dt.I s 0=2
 ·have n2:(Dt.I s 0 !=2)=false:=by rw[h2];rfl
  have g1:=gV (m+2) s h2
  have g2:=rV (m+3) s h2 (by omega) (by omega)
  cases hc:cirB s with
  |false=>
   rw[hc] at g1 g2
   exact⟨[],by simp,by simp,by rw[reshape_Near,n2,cond_false,g1];rfl,by rw[ref36_Near,n2,cond_false,g2];rfl⟩
  |true=>
   rw[hc] at g1 g2
   have hone:=fun d (h:d∈docs)=>near_one s d h2 hc (hd d h) p m hm hm2
   let nf:Dt→Int×Bool:=fun d=>(reshape_nearest (m+6) s p d).getD (0,false)
   have hn:∀d∈docs,reshape_nearest (m+6) s p d=some (nf d)∧ref36_Distance (m+6) s p d=some (nf d)∧ -1≤(nf d).1∧(nf d).1≤8589934592:=fun d h=>by
        obtain⟨q,q1,q2,q3⟩:=hone d h
        have:nf d=q:=by show (reshape_nearest (m+6) s p d).getD (0,false)=q;rw[q1];rfl
        rw[this]
        exact⟨q1,q2,q3⟩
   clear_value nf
   have hP:∀x∈pls nf docs,PD x∧∃d∈docs,∃n,x=plc d n:=pls_mem (Q:=fun x=>PD x∧∃d∈docs,∃n,x=plc d n) fun d h=>⟨(hn d h).2.2,d,h,_,rfl⟩
   have hPl:=pls_len nf docs
   have hS:∀x∈isort ltd (pls nf docs),PD x∧∃d∈docs,∃n,x=plc d n:=fun x hx=>hP x ((perm_isort (pls nf docs)).mem_iff.1 hx)
   have hSl:(isort ltd (pls nf docs)).length=(pls nf docs).length:=isort_len _
   have hst:i12 (m+6) (pls nf docs)=some (isort ltd (pls nf docs)):=stable_eq cD_swo cD_eq (m+4) 1000 (by omega) (by omega) (by omega) (pls nf docs) (by omega) fun x hx=>(hP x hx).1
   have hnm:∀d∈docs,∀n:Int,reshape_named (m+6) d name (intV n)=some (resN name (plc d n))∧ref36_with (m+6) d name (intV n)=some (resN name (plc d n)):=fun d h n=>by
        obtain⟨w1,w2,w3,w4⟩:=hd d h
        have:=intV_bulk n
        exact⟨named_eq (m+3) name d (intV n) w1 (intV_wv n) w2 (by omega) (by omega) (by omega) (by omega) (by omega),with_eq (m+3) name d (intV n) w2 (by omega) (by omega) (by omega)⟩
   refine⟨(isort ltd (pls nf docs)).map (resN name),by rw[List.length_map];omega,fun x hx=>?_,?_,?_⟩
   ·    obtain⟨q,hq,rfl⟩:=List.mem_map.1 hx
        obtain⟨_,d,hdm,n,rfl⟩:=hS q hq
        exact⟨d,hdm,.inr ⟨n,rfl⟩⟩
   ·    rw[reshape_Near,n2,cond_false,g1,Option.bind_some]
        have k1:=near_l3 (m+6) nf p name docs s (by omega) (fun d h=>(hn d h).1) (m+7) 0 [] (Nat.zero_le _) (by omega) (by simp;omega)
        rw[List.drop_zero,List.nil_append] at k1
        refine Eq.trans k1 ?_
        rw[reshape_Near_j6,hst,Option.bind_some,mkL_nat (by omega),Option.bind_some]
        have k2:=near_l8 (m+6) name (resN name) (isort ltd (pls nf docs)) (by omega) (fun q hq=>by
         obtain⟨_,d,hdm,n,rfl⟩:=hS q hq
         obtain⟨w1,w2,w3,w4⟩:=hd d hdm
         exact⟨d,intV n,rcopy_eq _ d (Nat.le_refl _) (by omega) w1 (m+5) (by omega),rfl,(hnm d hdm n).1⟩) kza2373 (m+7) 0 (Nat.zero_le _) (by omega)
        rw[List.take_zero,List.nil_append,Nat.sub_zero,List.length_map] at k2
        exact k2
   ·    rw[ref36_Near,n2,cond_false,g2,Option.bind_some]
        have k1:=rnear_l3 (m+6) nf (resN name) p name docs s (by omega) (by omega) (fun d h=>(hn d h).2.1) (fun d h _=>⟨intV (nf d).1,rfl,(hnm d h _).2⟩) (m+7) 0 [] (Nat.zero_le _) (by omega) (by simp;omega)
        rw[List.drop_zero,List.nil_append] at k1
        exact k1
 ·have n2:(Dt.I s 0 !=2)=true:=by simp only[bne,Bool.not_eq_true',beq_eq_false_iff_ne];exact h2
  exact⟨[],by simp,by simp,by rw[reshape_Near,n2];rfl,by rw[ref36_Near,n2];rfl⟩
end Go.Proofs.YtameompfdamfpaaGreatDoor
