/- The law: pipelines are split as specified. -/
import Derived.Test.YtjnkagkoolbodaaGreatDoorMG
import Derived.Test.YtjnkagkoolbodaaGreatDoorMI
import Derived.Test.YtjnkagkoolbodaaGreatDoorFx
set_option linter.unusedVariables false
set_option linter.unusedSimpArgs false
namespace Go.Proofs.YtjnkagkoolbodaaGreatDoor
open Go.Am
theorem Eb (k:List Dt) (l:List Dt) (hb:Dt.bulkL l≤1048576) (ht:∀e∈l,HasTy Tryz.prog 71 e) (hk:∀e∈k,e∈l) (hl:k.length≤l.length):zN 500000000000 k k=some true:=by
 have:=bf l
 exact wC 499999999999 k (by omega) (by omega) fun e he=>Qm 1048576 e (by have:=bM (hk e he);omega) (by omega) (ht e (hk e he)) 499999999998 (by omega)
theorem Qb (l:List Dt) (hb:Dt.bulkL l≤1048576) (ht:∀e∈l,HasTy Tryz.prog 71 e):yN (500000000000+1) l=some true:=by
 obtain⟨r,hr⟩:=Xc l hb ht 499999999999 (by omega) (by omega)
 have hr':y9 500000000000 l=some r:=hr
 have hl:=bf l
 have hn:=vN l
 have k1:zV 500000000000 l=some (oo l (gI l)):=aaL 499999999999 1048576 (by omega) l hb ht (by omega)
 have k2:z8 500000000000 l=some (oo l (gI l)):=Xo 499999999998 l (by omega) (by omega)
 have k3:zN 500000000000 (oo l (gI l)).1 (oo l (gI l)).1=some true:=Eb _ l hb ht (fun e he=>List.mem_of_mem_take he) (by show (l.take _).length≤_;simp;omega)
 have k4:zN 500000000000 (oo l (gI l)).2.1 (oo l (gI l)).2.1=some true:=Eb _ l hb ht (fun e he=>List.mem_of_mem_drop he) (by show (l.drop _).length≤_;simp)
 have k5:qP 500000000000 (oo l (gI l)).2.2 (oo l (gI l)).2.2=some true:=by
  have key:∀o:List Dt,(∀e∈o,e.bulk≤1048576)→o.length≤1048576→qP 500000000000 o o=some true:=fun o h1 h2=>aFI 499999999999 1048576 (by omega) o h1 h2 (by omega)
  unfold oo
  cases hx:l[gI l]? with
  |none=>exact key [] (by simp) (by simp)
  |some d=>
   have hd:=bM (List.mem_of_getElem? hx)
   have l4:=aD d 4
   show qP 500000000000 (bif Dt.I d 0==4 then Dt.L d 4 else[]) (bif Dt.I d 0==4 then Dt.L d 4 else[])=some true
   cases (Dt.I d 0==4)
   ·exact key [] (by simp) (by simp)
   ·exact key (Dt.L d 4) (fun e he=>by have:=aL he;omega) (by omega)
 rw[yN,hr',Option.bind_some]
 cases (r !=0)
 ·rw[cond_false,akm,k1,Option.bind_some,k2,Option.bind_some,k3,Option.bind_some,cond_true,k4,Option.bind_some,cond_true,k5,Option.bind_some,cond_true]
  rfl
 ·rw[cond_true]
  rfl
theorem W9 {ds:List Dt} (h:HasTys Tryz.prog Tryz.f4.params.toList ds) (hb:Dt.bulkL ds≤1048576):FX Tryz.prog 4 (aqX Tryz.f4.params.toList ds) [] (.dat 4 (.bool true)) []:=by
 have h':HasTys Tryz.prog [22] ds:=h
 match ds,h',hb with
 | [x],.cons h1 .nil,hb=>
   obtain⟨e0,_,w1⟩:=aM Tryz.underlying22 h1
   rw[e0] at hb ⊢
   simp only[Dt.bulkL,Dt.bulk] at hb
   exact awV 500000000000 (aEL 500000000000) _ (Qb x.toLst (by omega) w1)
end Go.Proofs.YtjnkagkoolbodaaGreatDoor
