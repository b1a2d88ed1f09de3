/- Windows: the first error; the check of the program and the reference. -/
import Derived.Test.YtbailjcjlapenaaGreatDoorWXp
import Derived.Test.YtbailjcjlapenaaGreatDoorMOVal
set_option linter.unusedVariables false
set_option linter.unusedSimpArgs false
namespace Go.Proofs.YtbailjcjlapenaaGreatDoor
open Go.Am
theorem pipeline_isName_nml (m:Nat) (s:ByteArray) (hs:s.size<9223372036854775807):∀(M i:Nat),i≤s.size→s.size-i<M→pipeline_isName_l3 m M s (s.size:Int) (i:Int)=some ((s.data.toList.drop i).all okB)
 |0,i,_,h=>by omega
 |M+1,i,hi,h=>by
  simp only[pipeline_isName_l3,dlt]
  by_cases hlt:i<s.size
  ·rw[getB s i hlt]
   simp only[hlt,decide_true,cond_true,pipeline_isName_j6,pipeline_isName_j5,pipeline_isName_j4,pipeline_isName_j7,pipeline_isName_j2,pipeline_isName_j1,pipeline_isName_j0,idxS_lt hlt,Option.bind_some,wrapS (show i<9223372036854775807 by omega),pipeline_isName_nml m s hs M (i+1) (by omega) (by omega),List.all_cons,okB]
   cases decide (((s[i]).toNat:Int)<33)<;>cases decide ((126:Int)<((s[i]).toNat:Int))<;>cases (((s[i]).toNat:Int)==46)<;>rfl
  ·have:i=s.size:=by omega
   subst this
   rw[List.drop_eq_nil_of_le (by rw[lenB];omega)]
   simp[pipeline_isName_j6,pipeline_isName_j5,pipeline_isName_j4,pipeline_isName_j7,pipeline_isName_j2,pipeline_isName_j1,pipeline_isName_j0]
theorem pipeline_isName_nm (m:Nat) (hm:33≤m) (s:ByteArray):pipeline_isName (m+1) s=some (nm s):=by
 simp only[pipeline_isName]
 by_cases h1:s.size<1
 ·have:decide ((s.size:Int)<1)=true:=by simp;omega
  simp only[this,cond_true,pipeline_isName_j6,pipeline_isName_j5,pipeline_isName_j4,pipeline_isName_j7,pipeline_isName_j2,pipeline_isName_j1,pipeline_isName_j0,nm_short s h1]
 have e1:decide ((s.size:Int)<1)=false:=by simp;omega
 by_cases h2:32<s.size
 ·have:decide ((32:Int)<(s.size:Int))=true:=by simp;omega
  simp only[e1,this,cond_true,cond_false,pipeline_isName_j6,pipeline_isName_j5,pipeline_isName_j4,pipeline_isName_j7,pipeline_isName_j2,pipeline_isName_j1,pipeline_isName_j0,nm_long s h2]
 have e2:decide ((32:Int)<(s.size:Int))=false:=by simp;omega
 have hx:=idxS_lt (s:=s) (i:=0) (by omega)
 have hl:=pipeline_isName_nml m s (by omega) (m+1) 0 (by omega) (by omega)
 rw[List.drop_zero] at hl
 have hl':pipeline_isName_l3 m (Nat.succ m) s (s.size:Int) 0=some (s.data.toList.all okB):=hl
 simp only[e1,e2,cond_false,show idxS s 0=_ from hx,Option.bind_some,pipeline_isName_j6,pipeline_isName_j5,pipeline_isName_j4,pipeline_isName_j7,pipeline_isName_j2,pipeline_isName_j1,pipeline_isName_j0,hl',nm_parts s (by omega) (by omega)]
 cases (((s[0]).toNat:Int)==36)<;>rfl
def oA (d:Dt):Int:=bif (decide (Dt.I d 3<(-4096))||(decide (4096<Dt.I d 3)||(decide (Dt.I d 4<(-4096))||decide (4096<Dt.I d 4))))||(!(Dt.I d 1==24)&&decide (Dt.I d 4<Dt.I d 3)) then 1 else 0
def oB (bare:Bool) (d:Dt):Int:=bif !bare&&((ckE 16 (Dt.fld d 2) 0).2 !=0) then(ckE 16 (Dt.fld d 2) 0).2 else oA d
def oC (rank bare:Bool) (d:Dt):Int:=bif (bare&&!(zex (Dt.fld d 2)))||((rank&&(!(Dt.I d 3==0)||(!(Dt.I d 4==0)||Dt.B d 5)))||(((Dt.I d 1==24)&&(!(Dt.I d 4==0)||Dt.B d 5))||(Dt.B d 5&&(!(Dt.I d 3==0)||!(Dt.I d 4==0))))) then 21 else oB bare d
def outS (d:Dt):Int:=bif !(decide (1≤Dt.I d 1)&&decide (Dt.I d 1≤8))&&(!(Dt.I d 1==21||(Dt.I d 1==22||Dt.I d 1==23))&&!(Dt.I d 1==24)) then 11 else
 oC (Dt.I d 1==21||(Dt.I d 1==22||Dt.I d 1==23)) ((Dt.I d 1==21||(Dt.I d 1==22||Dt.I d 1==23))||Dt.I d 1==2) d
theorem unless_eq (m:Nat) (b:Bool) (e:Int):pipeline_unless (m+1) b e=some (bif b then 0 else e):=by
 rw[pipeline_unless]
 cases b<;>rfl
theorem le_lt (a b:Int):decide (a≤b)=!(decide (b<a)):=by
 by_cases h:a≤b
 ·rw[decide_eq_true h,decide_eq_false (by omega)];rfl
 ·rw[decide_eq_false h,decide_eq_true (by omega)];rfl
section
variable (m:Nat) (d:Dt)
theorem qA:pipeline_validOut_j13 (m+1) d=some (oA d):=by
 rw[pipeline_validOut_j13,oA]
 simp only[pipeline_validOut_j14,pipeline_validOut_j15,unless_eq,le_lt,Option.bind_some]
 cases decide (Dt.I d 3<(-4096))<;>cases decide (4096<Dt.I d 3)<;>cases decide (Dt.I d 4<(-4096))<;>cases decide (4096<Dt.I d 4)<;>cases (Dt.I d 1==24)<;>cases decide (Dt.I d 4<Dt.I d 3)<;>rfl
theorem qB (x0:Bool) (hV:expr_Valid (m+1) (Dt.fld d 2)=some (ckE 16 (Dt.fld d 2) 0).2):pipeline_validOut_j12 (m+1) x0 d=some (oB x0 d):=by
 rw[pipeline_validOut_j12,hV,Option.bind_some,oB,qA]
 cases x0<;>cases ((ckE 16 (Dt.fld d 2) 0).2 !=0)<;>rfl
theorem qC (x0 x1:Bool) (hV:expr_Valid (m+2) (Dt.fld d 2)=some (ckE 16 (Dt.fld d 2) 0).2):pipeline_validOut_j4 (m+2) x0 x1 d=some (oC x0 x1 d):=by
 rw[pipeline_validOut_j4,zex_prog,Option.bind_some,oC]
 have h:=fun x0=>qB (m+1) d x0 hV
 simp only[pipeline_validOut_j5,pipeline_validOut_j6,pipeline_validOut_j7,pipeline_validOut_j8,pipeline_validOut_j9,pipeline_validOut_j10,pipeline_validOut_j11,h,bneq]
 cases x0<;>cases x1<;>cases zex (Dt.fld d 2)<;>cases (Dt.I d 3==0)<;>cases (Dt.I d 4==0)<;>cases Dt.B d 5<;>cases (Dt.I d 1==24)<;>rfl
theorem out_prog (hV:expr_Valid (m+2) (Dt.fld d 2)=some (ckE 16 (Dt.fld d 2) 0).2):pipeline_validOut (m+3) d=some (outS d):=by
 rw[pipeline_validOut,outS]
 have h:=fun x0 x1=>qC m d x0 x1 hV
 simp only[pipeline_validOut_j0,pipeline_validOut_j1,pipeline_validOut_j2,pipeline_validOut_j3,h,bneq]
 cases (Dt.I d 1==21)<;>cases (Dt.I d 1==22)<;>cases (Dt.I d 1==23)<;>cases decide (1≤Dt.I d 1)<;>cases decide (Dt.I d 1≤8)<;>cases (Dt.I d 1==24)<;>rfl
theorem rrA:ref31_out_j6 (m+1) d=some (oA d):=by
 rw[ref31_out_j6,oA]
 simp only[ref31_out_j7,ref31_out_j8,bneq]
 cases decide (Dt.I d 3<(-4096))<;>cases decide (4096<Dt.I d 3)<;>cases decide (Dt.I d 4<(-4096))<;>cases decide (4096<Dt.I d 4)<;>cases (Dt.I d 1==24)<;>cases decide (Dt.I d 4<Dt.I d 3)<;>rfl
theorem rrB (x0:Bool) (hV:ref08_Valid (m+1) (Dt.fld d 2)=some (ckE 16 (Dt.fld d 2) 0).2):ref31_out_j5 (m+1) x0 d=some (oB x0 d):=by
 rw[ref31_out_j5,hV,Option.bind_some,oB,rrA]
 cases x0<;>cases ((ckE 16 (Dt.fld d 2) 0).2 !=0)<;>rfl
theorem rrC (x0 x1:Bool) (hV:ref08_Valid (m+4) (Dt.fld d 2)=some (ckE 16 (Dt.fld d 2) 0).2):ref31_out_j3 (m+4) x0 x1 d=some (oC x0 x1 d):=by
 rw[ref31_out_j3,zex_ref,Option.bind_some,oC]
 have h:=fun x0=>rrB (m+3) d x0 hV
 simp only[ref31_out_j4,h,bneq]
 cases x0<;>cases x1<;>cases zex (Dt.fld d 2)<;>cases (Dt.I d 3==0)<;>cases (Dt.I d 4==0)<;>cases Dt.B d 5<;>cases (Dt.I d 1==24)<;>rfl
theorem lt1 (a:Int):decide (a<1)=!(decide (1≤a)):=by
 by_cases h:a<1
 ·rw[decide_eq_true h,decide_eq_false (by omega)];rfl
 ·rw[decide_eq_false h,decide_eq_true (by omega)];rfl
theorem lt8 (a:Int):decide (8<a)=!(decide (a≤8)):=by
 by_cases h:8<a
 ·rw[decide_eq_true h,decide_eq_false (by omega)];rfl
 ·rw[decide_eq_false h,decide_eq_true (by omega)];rfl
theorem out_ref (hV:ref08_Valid (m+4) (Dt.fld d 2)=some (ckE 16 (Dt.fld d 2) 0).2):ref31_out (m+5) d=some (outS d):=by
 rw[ref31_out,outS]
 have h:=fun x0 x1=>rrC m d x0 x1 hV
 simp only[ref31_out_j0,ref31_out_j1,ref31_out_j2,h,bneq,lt1,lt8]
 cases (Dt.I d 1==21)<;>cases (Dt.I d 1==22)<;>cases (Dt.I d 1==23)<;>cases decide (1≤Dt.I d 1)<;>cases decide (Dt.I d 1≤8)<;>cases (Dt.I d 1==24)<;>rfl
end
def outN (s:ByteArray):Bool:=nm s&&!(ByteArray.toList s==[95,105,100])
theorem pout_eq (m:Nat) (hm:33≤m) (s:ByteArray):pipeline_isOutput (m+2) s=some (outN s):=by
 rw[pipeline_isOutput,pipeline_isName_nm m hm,Option.bind_some,outN]
 cases nm s<;>rfl
theorem rout_eq (m:Nat) (hm:33≤m) (s:ByteArray):ref31_output (m+2) s=some (outN s):=by
 rw[ref31_output,name_eq m hm,Option.bind_some,outN]
 cases nm s<;>rfl
def owS:List Dt→List Dt→Int
 |_,[]=>0
 |seen,o::r=>bif !(outN (Dt.S o 0))||seen.any (fun p=>ByteArray.toList (Dt.S p 0)==ByteArray.toList (Dt.S o 0)) then 9 else bif outS o !=0 then outS o else owS (seen++[o]) r
def winS (w:Dt):Int:=bif (ckE 16 (Dt.fld w 0) 0).2 !=0 then(ckE 16 (Dt.fld w 0) 0).2 else bif errO (Dt.L w 1) !=0 then errO (Dt.L w 1) else
 bif decide (((Dt.L w 2).length:Int)<1)||decide ((32:Int)<((Dt.L w 2).length:Int)) then 21 else owS [] (Dt.L w 2)
theorem win_in (m:Nat) (rec5:List Dt→Int→Int→Dt→Option Int) (x0:List Dt) (x1 x2:Int) (w o:Dt) (E:List Dt) (hE:E.length<9223372036854775807):∀(M k:Nat),k≤E.length→E.length-k<M→
  pipeline_validWindow_l9 m rec5 M x0 x1 x2 E (E.length:Int) (k:Int) w o=bif (E.drop k).any (fun p=>ByteArray.toList (Dt.S p 0)==ByteArray.toList (Dt.S o 0)) then some 9 else pipeline_validWindow_j12 m rec5 x0 x1 x2 w o
 |0,k,_,h=>by omega
 |M+1,k,hk,h=>by
  rw[pipeline_validWindow_l9,dlt]
  by_cases hlt:k<E.length
  ·rw[decide_eq_true hlt,cond_true,pipeline_validWindow_j10,idx_lt hlt,Option.bind_some,pipeline_validWindow_j11,wrapS (by omega),win_in m rec5 x0 x1 x2 w o E hE M (k+1) (by omega) (by omega),List.drop_eq_getElem_cons hlt,List.any_cons]
   cases (ByteArray.toList (Dt.S E[k] 0)==ByteArray.toList (Dt.S o 0))<;>rfl
  ·have:k=E.length:=by omega
   subst this
   rw[decide_eq_false hlt,cond_false,List.drop_length,List.any_nil,cond_false]
theorem win_loop (m:Nat) (hm:40≤m) (w:Dt) (L:List Dt) (hl:L.length≤32) (h:∀o∈L,pipeline_validOut m o=some (outS o)) (hm2:Dt.L w 2=L):∀(M i:Nat),i≤L.length→L.length-i<M→
  pipeline_validWindow_l5 m M L (L.length:Int) (i:Int) w=some (owS (L.take i) (L.drop i))
 |0,i,_,h=>by omega
 |M+    1,i,hi,hM=>by
  rw[pipeline_validWindow_l5,dlt]
  by_cases hlt:i<L.length
  ·obtain⟨q,rfl⟩:∃q,m=q+2:=⟨m-2,by omega⟩
   have hin:=win_in (q+2) (pipeline_validWindow_l5 (q+2) M) L (L.length:Int) (i:Int) w L[i] (L.take i) (by simp;omega) (q+3) 0 (Nat.zero_le _) (by simp;omega)
   rw[List.drop_zero] at hin
   rw[decide_eq_true hlt,cond_true,pipeline_validWindow_j6,idx_lt hlt,Option.bind_some,pout_eq q (by omega),Option.bind_some,List.drop_eq_getElem_cons hlt,owS]
   cases outN (Dt.S L[i] 0) with
   |false=>rfl
   |    true=>
        rw[Bool.not_true,cond_false,Bool.false_or,pipeline_validWindow_j7,hm2,cutL_zero (by omega),Option.bind_some,pipeline_validWindow_j8]
        rw[show Nat.succ (q+2)=q+3 from rfl,show (0:Int)=((0:Nat):Int) from rfl,hin]
        cases (L.take i).any (fun p=>ByteArray.toList (Dt.S p 0)==ByteArray.toList (Dt.S L[i] 0)) with
        |true=>rfl
        |false=>
         rw[cond_false,cond_false,pipeline_validWindow_j12,h _ (List.getElem_mem hlt),Option.bind_some]
         cases (outS L[i] !=0) with
         |true=>rfl
         |false=>rw[cond_false,cond_false,pipeline_validWindow_j13,wrapS (by omega),win_loop (q+2) hm w L hl h hm2 M (i+1) (by omega) (by omega),take_next hlt]
  ·have:i=L.length:=by omega
   subst this
   rw[decide_eq_false hlt,cond_false,List.drop_length,owS]
   rfl
theorem rwin_in (m:Nat) (rec5:Int→Dt→Option Int) (w:Dt) (i:Nat) (hi:i<(Dt.L w 2).length) (hl:(Dt.L w 2).length<9223372036854775807):∀(M k:Nat) (fr:Bool),k≤i→i-k<M→
  ref31_Window_l8 m rec5 M (i:Int) fr (k:Int) w=ref31_Window_j11 m rec5 (i:Int) (fr&&!((((Dt.L w 2).take i).drop k).any (fun p=>ByteArray.toList (Dt.S p 0)==ByteArray.toList (Dt.S (Dt.L w 2)[i] 0)))) w
 |0,k,_,_,h=>by omega
 |M+    1,k,fr,hk,h=>by
  rw[ref31_Window_l8,dlt]
  by_cases hlt:k<i
  ·have hk2:k<((Dt.L w 2).take i).length:=by simp;omega
   rw[decide_eq_true hlt,cond_true,ref31_Window_j9,List.drop_eq_getElem_cons hk2,List.getElem_take,List.any_cons]
   have ih:=fun fr=>rwin_in m rec5 w i hi hl M (k+1) fr (by omega) (by omega)
   cases fr with
   |false=>rw[cond_false,ref31_Window_j10,wrapS (by omega),ih,Bool.false_and,Bool.false_and]
   |    true=>
        rw[cond_true,idx_lt (show k<(Dt.L w 2).length by omega),Option.bind_some,idx_lt hi,Option.bind_some,ref31_Window_j10,wrapS (by omega),ih,Bool.true_and,Bool.not_or]
  ·have:k=i:=by omega
   subst this
   rw[decide_eq_false hlt,cond_false,List.drop_eq_nil_of_le (by simp;omega),List.any_nil,Bool.not_false,Bool.and_true]
theorem rwin_loop (m:Nat) (hm:40≤m) (w:Dt) (hl:(Dt.L w 2).length≤32) (h:∀o∈Dt.L w 2,ref31_out m o=some (outS o)):∀(M i:Nat),i≤(Dt.L w 2).length→(Dt.L w 2).length-i<M→
  ref31_Window_l5 m M (i:Int) w=some (owS ((Dt.L w 2).take i) ((Dt.L w 2).drop i))
 |0,i,_,h=>by omega
 |M+    1,i,hi,hM=>by
  rw[ref31_Window_l5,dlt]
  by_cases hlt:i<(Dt.L w 2).length
  ·obtain⟨q,rfl⟩:∃q,m=q+2:=⟨m-2,by omega⟩
   have hin:=rwin_in (q+2) (ref31_Window_l5 (q+2) M) w i hlt (by omega) (q+3) 0 (outN (Dt.S (Dt.L w 2)[i] 0)) (Nat.zero_le _) (by omega)
   rw[List.drop_zero] at hin
   rw[decide_eq_true hlt,cond_true,ref31_Window_j6,idx_lt hlt,Option.bind_some,rout_eq q (by omega),Option.bind_some,List.drop_eq_getElem_cons hlt,owS,ref31_Window_j7]
   rw[show Nat.succ (q+2)=q+3 from rfl,show (0:Int)=((0:Nat):Int) from rfl,hin,ref31_Window_j11,Bool.not_and,Bool.not_not]
   cases (!(outN (Dt.S (Dt.L w 2)[i] 0))||((Dt.L w 2).take i).any (fun p=>ByteArray.toList (Dt.S p 0)==ByteArray.toList (Dt.S (Dt.L w 2)[i] 0))) with
   |true=>rfl
   |    false=>
        rw[cond_false,cond_false,ref31_Window_j12,idx_lt hlt,Option.bind_some,h _ (List.getElem_mem hlt),Option.bind_some]
        cases (outS (Dt.L w 2)[i] !=0) with
        |true=>rfl
        |false=>rw[cond_false,cond_false,ref31_Window_j13,wrapS (by omega),rwin_loop (q+2) hm w hl h M (i+1) (by omega) (by omega),take_next hlt]
  ·have:i=(Dt.L w 2).length:=by omega
   subst this
   rw[decide_eq_false hlt,cond_false,List.drop_length,owS]
   rfl
inductive WW:Dt→Prop where
 |mk {d:Dt} (h0:WE (Dt.fld d 0)) (h2:∀o∈Dt.L d 2,WE (Dt.fld o 2)):WW d
section
variable {B:Nat} (hB:B≤100000000) {w:Dt} (hw:WW w) (hb:w.bulk≤B) (k:Nat) (hk:3*B+400≤k) (hk2:k<9223372036854750000)
include hB hw hb hk hk2
theorem win_prog:pipeline_validWindow (k+30) w=some (winS w):=by
 cases hw with
 |mk h0  h2=>
  have hf0:=fld_bulk w 0
  have hV:expr_Valid (k+29) (Dt.fld w 0)=some (ckE 16 (Dt.fld w 0) 0).2:=eval_prog B hB (k+6) (by omega) (by omega) _ h0 (by omega)
  have hO:order_Valid (k+29) (Dt.L w 1)=some (errO (Dt.L w 1)):=oval_eq (k+25) (by omega) (by omega) _
  rw[pipeline_validWindow,hV,Option.bind_some,winS]
  cases ((ckE 16 (Dt.fld w 0) 0).2 !=0) with
  |true=>rfl
  |false  =>
   rw[cond_false,cond_false,pipeline_validWindow_j0,hO,Option.bind_some]
   cases (errO (Dt.L w 1) !=0) with
   |true=>rfl
   |    false=>
        rw[cond_false,cond_false,pipeline_validWindow_j1]
        cases h1:decide (((Dt.L w 2).length:Int)<1) with
        |true=>rfl
        |false=>
         rw[cond_false,Bool.false_or,pipeline_validWindow_j2]
         cases h32:decide ((32:Int)<((Dt.L w 2).length:Int)) with
         |true=>rfl
         |false=>
          have hl:(Dt.L w 2).length≤32:=by have:=of_decide_eq_false h32;omega
          rw[cond_false,cond_false,pipeline_validWindow_j3,pipeline_validWindow_j4]
          have key:=win_loop (k+29) (by omega) w (Dt.L w 2) hl (fun o ho=>by
             have hm:=L_mem ho
             have hf:=fld_bulk o 2
             exact out_prog (k+26) o (eval_prog B hB (k+5) (by omega) (by omega) _ (h2 o ho) (by omega))) rfl (k+30) 0 (Nat.zero_le _) (by omega)
          rw[List.drop_zero] at key
          exact key
theorem win_ref:ref31_Window (k+30) w=some (winS w):=by
 cases hw with
 |mk h0  h2=>
  have hf0:=fld_bulk w 0
  have hV:ref08_Valid (k+29) (Dt.fld w 0)=some (ckE 16 (Dt.fld w 0) 0).2:=eval_ref B hB (k+6) (by omega) (by omega) _ h0 (by omega)
  have hO:ref12_Valid (k+29) (Dt.L w 1)=some (errO (Dt.L w 1)):=rval_eq (k+27) (by omega) (by omega) _
  rw[ref31_Window,hV,Option.bind_some,winS,bneq]
  cases h0':((ckE 16 (Dt.fld w 0) 0).2==0) with
  |false=>
   rw[cond_false,ref31_Window_j0,bneq,h0']
   rfl
  |true=>
   rw[cond_true,hO,Option.bind_some,ref31_Window_j0,Bool.not_true,cond_false]
   cases (errO (Dt.L w 1) !=0) with
   |true=>rfl
   |    false=>
        rw[cond_false,cond_false,ref31_Window_j1]
        cases h1:decide (((Dt.L w 2).length:Int)<1) with
        |true=>rfl
        |false=>
         rw[cond_false,Bool.false_or,ref31_Window_j2]
         cases h32:decide ((32:Int)<((Dt.L w 2).length:Int)) with
         |true=>rfl
         |false=>
          have hl:(Dt.L w 2).length≤32:=by have:=of_decide_eq_false h32;omega
          rw[cond_false,cond_false,ref31_Window_j3,ref31_Window_j4]
          have key:=rwin_loop (k+29) (by omega) w hl (fun o ho=>by
             have hm:=L_mem ho
             have hf:=fld_bulk o 2
             exact out_ref (k+24) o (eval_ref B hB (k+5) (by omega) (by omega) _ (h2 o ho) (by omega))) (k+30) 0 (Nat.zero_le _) (by omega)
          rw[List.drop_zero] at key
          exact key
end
end Go.Proofs.YtbailjcjlapenaaGreatDoor
