/- Valid paths: the program's test and the reference's. -/
import Derived.Test.YtpifchdngodgjaaGreatDoorMB
import Derived.Test.YtpifchdngodgjaaGreatDoorMPfx
set_option linter.unusedVariables false
set_option linter.unusedSimpArgs false
namespace Go.Proofs.YtpifchdngodgjaaGreatDoor
open Go.Am
def vld (l:List Dt):Bool:=decide (1≤l.length)&&decide (l.length≤16)&&l.all fun e=>nm e.toStr
theorem refvalid_l (m:Nat) (hm:34≤m) (l:List Dt) (hl:l.length<9223372036854775807):∀(M i:Nat),i≤l.length→l.length-i<M→zC_l3 m M l (i:Int)=some ((l.drop i).all fun e=>nm e.toStr)
 |0,i,_,h=>by omega
 |M+1,i,hi,h=>by
  obtain⟨m,rfl⟩:∃k,m=k+1:=⟨m-1,by omega⟩
  simp only[zC_l3,dlt]
  by_cases hlt:i<l.length
  ·rw[List.drop_eq_getElem_cons hlt]
   simp only[hlt,decide_true,cond_true,zC_j5,zC_j4,zC_j6,zC_j2,zC_j1,zC_j0,idx_lt hlt,Option.bind_some,wrapS (show i<9223372036854775807 by omega),name_eq m (by omega),refvalid_l (m+1) hm l hl M (i+1) (by omega) (by omega),List.all_cons]
   cases nm (l[i]).toStr<;>rfl
  ·have:i=l.length:=by omega
   subst this
   simp[zC_j5,zC_j4,zC_j6,zC_j2,zC_j1,zC_j0]
theorem refvalid_eq (m:Nat) (hm:40≤m) (l:List Dt):zC (m+1) l=some (vld l):=by
 rw[zC,vld]
 by_cases h1:l.length<1
 ·rw[decide_eq_true (show ((l.length:Nat):Int)<(1:Int) by omega),cond_true,decide_eq_false (show ¬1≤l.length by omega),Bool.false_and,Bool.false_and]
  rfl
 rw[decide_eq_false (show ¬((l.length:Nat):Int)<(1:Int) by omega),cond_false,decide_eq_true (show 1≤l.length by omega),Bool.true_and]
 by_cases h2:16<l.length
 ·rw[decide_eq_true (show (16:Int)<((l.length:Nat):Int) by omega),decide_eq_false (show ¬l.length≤16 by omega),Bool.false_and]
  rfl
 rw[decide_eq_false (show ¬(16:Int)<((l.length:Nat):Int) by omega),decide_eq_true (show l.length≤16 by omega),Bool.true_and]
 have h3:=refvalid_l m (by omega) l (by omega) (m+1) 0 (by omega) (by omega)
 have h3':zC_l3 m (Nat.succ m) l 0=_:=h3
 simp only[cond_false,zC_j5,zC_j4,zC_j6,zC_j2,zC_j1,zC_j0,h3',List.drop_zero]
end Go.Proofs.YtpifchdngodgjaaGreatDoor
