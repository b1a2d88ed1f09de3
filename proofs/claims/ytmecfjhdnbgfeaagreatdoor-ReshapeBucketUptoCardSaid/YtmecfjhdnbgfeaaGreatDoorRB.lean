/- Buckets: which interval a value falls into, how many fall into each, and how many into none.
Buckets:the program's and the reference's loops.
Buckets:the reference's loops. -/
import Derived.Test.YtmecfjhdnbgfeaaGreatDoorMD
import Derived.Test.YtmecfjhdnbgfeaaGreatDoorRA
set_option linter.unusedVariables false
set_option linter.unusedSimpArgs false
namespace Go.Proofs.YtmecfjhdnbgfeaaGreatDoor
open Go.Am
section
variable (bs:List Dt)
def bAt (i:Nat):Dt:=bs.getD i kza2373
def inB (i:Nat) (v:Dt):Bool:=decide (i+1<bs.length)&&(decide (0≤cmpD v (bAt bs i))&&decide (cmpD v (bAt bs (i+1))<0))
def cnB (vs:List Dt) (i:Nat):Nat:=vs.countP (inB bs i)
def ouB (v:Dt):Bool:=(List.range bs.length).all fun i=>!(inB bs i v)
def EG:Nat→Nat→Bool
 |0,_=>true
 |k+1,i=>decide (cmpD (bAt bs i) (bAt bs (i+1))<0)&&EG k (i+1)
def aaf (b:Dt) (n:Int):Dt:=Dt.agg [(Dt.int 5),(Dt.int 0),(Dt.str (ByteArray.mk (List.toArray []))),(Dt.lst []),(Dt.lst [(Dt.agg [(Dt.str (ByteArray.mk (List.toArray [95,105,100]))),b]),(Dt.agg [(Dt.str (ByteArray.mk (List.toArray [99,111,117,110,116]))),Dt.agg [(Dt.int 3),(Dt.int n),(Dt.str (ByteArray.mk (List.toArray []))),(Dt.lst []),(Dt.lst [])]])])]
def ouT (vs:List Dt) (i:Nat):List Dt:=bif decide ((0:Int)<(cnB bs vs i:Int)) then[aaf (bAt bs i) (cnB bs vs i:Int)] else[]
def ouL (vs:List Dt):Nat→Nat→List Dt
 |0,_=>[]
 |k+1,i=>ouT bs vs i++ouL vs k (i+1)
def suB (vs:List Dt):Nat→Nat→Nat
 |0,_=>0
 |k+1,i=>cnB bs vs i+suB vs k (i+1)
theorem yt {i:Nat} (h:i<bs.length):bAt bs i=bs[i]:=by
 unfold bAt
 rw[List.getD,List.getElem?_eq_getElem h]
 rfl
def Ac:Prop:=∀i,i+1<bs.length→cmpD (bAt bs i) (bAt bs (i+1))<0
theorem Om:∀(k i:Nat),EG bs k i=true→∀j,i≤j→j<i+k→cmpD (bAt bs j) (bAt bs (j+1))<0
 |0,i,_,j,h1,h2=>by omega
 |k+1,i,h,j,h1,h2=>by
  rw[EG,Bool.and_eq_true,decide_eq_true_eq] at h
  by_cases hj:j=i
  ·subst hj;exact h.1
  ·exact Om k (i+1) h.2 j (by omega) (by omega)
variable {bs}
theorem Ac.lt (h:Ac bs) {i:Nat}:∀(d:Nat),i+d+1<bs.length→cmpD (bAt bs i) (bAt bs (i+d+1))<0
 |0,hj=>h i hj
 |d+1,hj=>Vm.ltl (h.lt d (by omega)) (Int.le_of_lt (h (i+d+1) (by omega)))
theorem Ac.lt' (h:Ac bs) {i j:Nat} (hij:i<j) (hj:j<bs.length):cmpD (bAt bs i) (bAt bs j)<0:=by
 have:=h.lt (i:=i) (j-i-1) (by omega)
 rw[show i+(j-i-1)+1=j by omega] at this
 exact this
structure Cut (bs:List Dt) (v:Dt) (p:Nat):Prop where
 le:p≤bs.length
 lo:∀k,k<p→cmpD (bAt bs k) v<0
 hi:∀k,p≤k→k<bs.length→0≤cmpD (bAt bs k) v
def fnB (bs:List Dt) (v:Dt) (p:Nat):Bool:=decide (p<bs.length)&&(cmpD (bAt bs p) v==0)
def aB (bs:List Dt) (v:Dt) (p:Nat):Int:=bif fnB bs v p then(p:Int) else(p:Int)-1
theorem Cut.gt {v:Dt} {p:Nat} (h:Cut bs v p) (ha:Ac bs) {k:Nat} (h1:p<k) (h2:k<bs.length):0<cmpD (bAt bs k) v:=by
 have a1:=h.hi p (Nat.le_refl _) (by omega)
 have a2:=ha.lt' h1 h2
 have a3:=Vm.anti (bAt bs p) v
 have a4:=Vm.anti (bAt bs k) v
 have:=Vm.ltr (a:=v) (b:=bAt bs p) (d:=bAt bs k) (by omega) a2
 omega
theorem KQ {v:Dt} {p:Nat} (h:Cut bs v p) (ha:Ac bs) (k:Nat):inB bs k v=true↔k+1<bs.length∧(k:Int)=aB bs v p:=by
 unfold inB
 simp only[Bool.and_eq_true,decide_eq_true_eq]
 refine and_congr_right fun hk=>?_
 have a1:=Vm.anti (bAt bs k) v
 have a2:=Vm.anti (bAt bs (k+1)) v
 rcases Nat.lt_trichotomy k p with hp|hp|hp
 ·have b1:=h.lo k hp
  by_cases hq:k+1=p
  ·have b2:=h.hi (k+1) (by omega) hk
   cases hf:fnB bs v p
   ·    have e:cmpD (bAt bs (k+1)) v≠0:=by
         intro e
         rw[hq] at e
         rw[fnB,decide_eq_true (by omega),e] at hf
         cases hf
        have:aB bs v p=(p:Int)-1:=by rw[aB,hf];rfl
        rw[this]
        omega
   ·    have:aB bs v p=(p:Int):=by rw[aB,hf];rfl
        rw[fnB,Bool.and_eq_true] at hf
        have e:cmpD (bAt bs p) v=0:=by simpa using hf.2
        rw[←hq] at e
        rw[this]
        omega
  ·have b2:=h.lo (k+1) (by omega)
   have:aB bs v p=(p:Int)∨aB bs v p=(p:Int)-1:=by
        unfold aB
        cases fnB bs v p
        ·exact .inr rfl
        ·exact .inl rfl
   omega
 ·have b2:=h.gt ha (k:=k+1) (by omega) hk
  have b1:=h.hi k (by omega) (by omega)
  subst hp
  cases hf:fnB bs v k
  ·have e:cmpD (bAt bs k) v≠0:=by
        intro e
        rw[fnB,decide_eq_true (by omega),e] at hf
        cases hf
   have:aB bs v k=(k:Int)-1:=by rw[aB,hf];rfl
   omega
  ·have:aB bs v k=(k:Int):=by rw[aB,hf];rfl
   rw[fnB,Bool.and_eq_true] at hf
   have e:cmpD (bAt bs k) v=0:=by simpa using hf.2
   omega
 ·have b1:=h.gt ha hp (by omega)
  have:aB bs v p=(p:Int)∨aB bs v p=(p:Int)-1:=by
   unfold aB
   cases fnB bs v p
   ·exact .inr rfl
   ·exact .inl rfl
  omega
theorem acy {v:Dt} {p:Nat} (h:Cut bs v p) (ha:Ac bs) (ho:aB bs v p<0∨(bs.length:Int)-1≤aB bs v p) (k:Nat):inB bs k v=false:=by
 cases hk:inB bs k v
 ·rfl
 ·have:=(KQ h ha k).1 hk
  omega
theorem aiF {v:Dt} {p:Nat} (h:Cut bs v p) (ha:Ac bs) (ho:¬(aB bs v p<0∨(bs.length:Int)-1≤aB bs v p)) (k:Nat):inB bs k v=decide (k=(aB bs v p).toNat):=by
 rw[Bool.eq_iff_iff,KQ h ha k,decide_eq_true_eq]
 omega
theorem acz {v:Dt} {p:Nat} (h:Cut bs v p) (ha:Ac bs):ouB bs v=decide (aB bs v p<0∨(bs.length:Int)-1≤aB bs v p):=by
 by_cases ho:aB bs v p<0∨(bs.length:Int)-1≤aB bs v p
 ·rw[decide_eq_true ho,ouB,List.all_eq_true]
  intro i _
  rw[acy h ha ho]
  rfl
 ·rw[decide_eq_false ho]
  cases hc:ouB bs v
  ·rfl
  ·rw[ouB,List.all_eq_true] at hc
   have:=hc (aB bs v p).toNat (List.mem_range.2 (by omega))
   rw[aiF h ha ho,decide_eq_true rfl] at this
   cases this
theorem XR (vs:List Dt) (v:Dt) (i:Nat):cnB bs (vs++[v]) i=cnB bs vs i+(bif inB bs i v then 1 else 0):=by
 unfold cnB
 rw[List.countP_append,List.countP_cons,List.countP_nil]
 cases inB bs i v<;>simp
theorem XT (vs:List Dt) (v:Dt) (i:Nat):cnB bs (v::vs) i=cnB bs vs i+(bif inB bs i v then 1 else 0):=by
 unfold cnB
 rw[List.countP_cons]
 cases inB bs i v<;>simp
theorem aiG (vs:List Dt) (i:Nat):cnB bs vs i≤vs.length:=List.countP_le_length
theorem acA {v:Dt} {p:Nat} (h:Cut bs v p) (ha:Ac bs) (vs:List Dt):∀(k i:Nat),i+k+1≤bs.length→suB bs (v::vs) k i=suB bs vs k i+(if(i:Int)≤aB bs v p∧aB bs v p<((i+k:Nat):Int) then 1 else 0)
 |0,i,_=>by
  rw[suB,suB,if_neg (by omega)]
 |k+    1,i,hk=>by
  rw[suB,suB,acA h ha vs k (i+1) (by omega),XT]
  cases hc:inB bs i v
  ·have hn:¬((i:Int)=aB bs v p):=fun e=>by
        have:=(KQ h ha i).2 ⟨by omega,e⟩
        rw[hc] at this;cases this
   rw[cond_false]
   by_cases hq:((i+1:Nat):Int)≤aB bs v p∧aB bs v p<((i+1+k:Nat):Int)
   ·rw[if_pos hq,if_pos (by omega)];omega
   ·rw[if_neg hq,if_neg (by omega)];omega
  ·have:=(KQ h ha i).1 hc
   rw[cond_true,if_neg (by omega),if_pos (by omega)]
   omega
theorem acB (ha:Ac bs):∀(vs:List Dt),(∀v∈vs,∃p,Cut bs v p)→suB bs vs (bs.length-1) 0+vs.countP (ouB bs)=vs.length
 | [],_=>by
   have:∀k i,suB bs [] k i=0:=by
    intro k
    induction k with
    |zero=>intro i;rfl
    |succ k ih=>intro i;rw[suB,ih];rfl
   rw[this]
   rfl
 | v::vs,h=>by
   obtain⟨p,hp⟩:=h v (List.mem_cons_self ..)
   have ih:=acB ha vs fun x hx=>h x (List.mem_cons_of_mem _ hx)
   have hl:=hp.le
   rw[List.countP_cons,acz hp ha,List.length_cons]
   by_cases h0:bs.length=0
   ·have e:bs.length-1=0:=by omega
    rw[e,suB] at ih ⊢
    rw[  if_pos (by
        rw[decide_eq_true_eq]
        have:aB bs v p=(p:Int)∨aB bs v p=(p:Int)-1:=by
         unfold aB
         cases fnB bs v p
         ·exact .inr rfl
         ·exact .inl rfl
        omega)]
    omega
   ·rw[acA hp ha vs (bs.length-1) 0 (by omega)]
    by_cases ho:aB bs v p<0∨(bs.length:Int)-1≤aB bs v p
    ·   rw[if_neg (by omega),if_pos (by rw[decide_eq_true ho])]
        omega
    ·   rw[if_pos (by omega),if_neg (by rw[decide_eq_false ho];intro h;cases h)]
        omega
theorem XU (vs:List Dt):∀(k i:Nat),ouL bs vs (k+1) i=ouL bs vs k i++ouT bs vs (i+k)
 |0,i=>by rw[ouL,ouL,ouL,List.append_nil,List.nil_append,Nat.add_zero]
 |k+1,i=>by
  rw[ouL,XU vs k (i+1),ouL,List.append_assoc,show i+1+k=i+(k+1) by omega]
theorem aiH (vs:List Dt):ouL bs vs bs.length 0=ouL bs vs (bs.length-1) 0:=by
 by_cases h0:bs.length=0
 ·rw[h0]
 ·obtain⟨n,hn⟩:∃n,bs.length=n+1:=⟨bs.length-1,by omega⟩
  rw[hn,XU,Nat.add_sub_cancel]
  have:cnB bs vs (0+n)=0:=by
   unfold cnB
   rw[List.countP_eq_zero]
   intro v _ h
   unfold inB at h
   rw[decide_eq_false (by omega),Bool.false_and] at h
   cases h
  rw[ouT,this]
  simp
end
end Go.Proofs.YtmecfjhdnbgfeaaGreatDoor
namespace Go.Proofs.YtmecfjhdnbgfeaaGreatDoor
open Go.Am
theorem wrN {z:Int} {n:Nat} (h:z=(n:Int)) (hn:n<9223372036854775807):IntKind.wrap IntKind.i64 z=(n:Int):=by rw[h,wrap64 (by omega) (by omega)]
theorem half {i j:Nat} (h:i+j<4611686018427387904):IntKind.wrap IntKind.i64 (shrI IntKind.u64 (IntKind.wrap IntKind.u64 (IntKind.wrap IntKind.i64 ((i:Int)+(j:Int)))) 1)=(((i+j)/2:Nat):Int):=by
 have e1:IntKind.wrap IntKind.i64 ((i:Int)+(j:Int))=((i+j:Nat):Int):=wrN (by omega) (by omega)
 have e2:IntKind.wrap IntKind.u64 ((i+j:Nat):Int)=((i+j:Nat):Int):=by
  unfold IntKind.wrap
  simp only[IntKind.bits,IntKind.signed,Bool.false_and,Bool.false_eq_true,if_false]
  omega
 have e3:shrI IntKind.u64 ((i+j:Nat):Int) 1=(((i+j)/2:Nat):Int):=by
  show Int.fdiv ((i+j:Nat):Int) 2=_
  rw[Int.fdiv_eq_ediv_of_nonneg _ (by omega)]
  omega
 rw[e1,e2,e3]
 exact wrN rfl (by omega)
theorem UA (m:Nat) (bs:List Dt) (v:Dt) (ha:Ac bs) (hl:bs.length<1000000000) (hc:∀b∈bs,ay m b v=some (cmpD b v)):∀(M i j:Nat),i≤j→j≤bs.length→j-i<M→(∀k,k<i→cmpD (bAt bs k) v<0)→(∀k,j≤k→k<bs.length→0≤cmpD (bAt bs k) v)→
  ∃p,Cut bs v p∧KZ m M bs (bs.length:Int) (i:Int) (j:Int) v=some ((p:Int),fnB bs v p)
 |0,i,j,_,_,h,_,_=>by omega
 |M+    1,i,j,hij,hj,h,h1,h2=>by
  simp only[KZ,dlt]
  by_cases hlt:i<j
  ·have hm:(i+j)/2<bs.length:=by omega
   have e1:cmpD bs[(i+j)/2] v=cmpD (bAt bs ((i+j)/2)) v:=by rw[yt bs hm]
   simp only[hlt,decide_true,cond_true,aep,half (show i+j<4611686018427387904 by omega),aC hm,hc _ (List.getElem_mem hm),Option.bind_some,e1]
   by_cases hs:cmpD (bAt bs ((i+j)/2)) v<0
   ·    rw[decide_eq_true hs,cond_true,wrN (n:=(i+j)/2+1) (by omega) (by omega)]
        refine UA m bs v ha hl hc M _ j (by omega) hj (by omega) (fun k hk=>?_) h2
        by_cases hk2:k=(i+j)/2
        ·rw[hk2];exact hs
        ·exact Vm.ltl (ha.lt' (show k<(i+j)/2 by omega) hm) (Int.le_of_lt hs)
   ·    rw[decide_eq_false hs,cond_false]
        refine UA m bs v ha hl hc M i _ (by omega) (by omega) (by omega) h1 (fun k hk hk3=>?_)
        by_cases hk2:k=(i+j)/2
        ·rw[hk2];omega
        ·refine Int.not_lt.1 fun hn=>hs ?_
         exact Vm.ltl (ha.lt' (show (i+j)/2<k by omega) hk3) (Int.le_of_lt hn)
  ·have hij2:i=j:=by omega
   subst hij2
   refine⟨i,⟨hj,h1,h2⟩,?_⟩
   simp only[hlt,decide_false,cond_false,aer,fnB]
   by_cases hn:i<bs.length
   ·rw[decide_eq_true (show ((i:Nat):Int)<((bs.length:Nat):Int) by omega),cond_true,aC hn,Option.bind_some,hc _ (List.getElem_mem hn),Option.bind_some,decide_eq_true hn,Bool.true_and,yt bs hn]
   ·rw[decide_eq_false (show ¬((i:Nat):Int)<((bs.length:Nat):Int) by omega),cond_false,decide_eq_false hn,Bool.false_and]
theorem ali (m:Nat) (bs:List Dt) (v:Dt) (ha:Ac bs) (hl:bs.length<1000000000) (hm:bs.length≤m) (hc:∀b∈bs,ay m b v=some (cmpD b v)):∃p,Cut bs v p∧i15 (m+1) bs v=some ((p:Int),fnB bs v p):=
 UA m bs v ha hl hc (Nat.succ m) 0 bs.length (Nat.zero_le _) (Nat.le_refl _) (by omega) (fun k h=>by omega) (fun k h1 h2=>by omega)
theorem Oo (m:Nat) (b:Dt) (n:Int):fB (m+2) b n=some (aaf b n):=rfl
theorem JJ (m:Nat) (b:Dt) (n:Int):iw (m+2) b n=some (aaf b n):=rfl
section
variable (bs:List Dt)
theorem XV (m:Nat) (docs:List Dt) (e:Dt) (hl:bs.length<1000000000) (hc:∀a∈bs,∀b∈bs,ay m a b=some (cmpD a b)):∀(M i:Nat),i+1≤bs.length→bs.length-i≤M→
  jR m M bs docs ((i+1:Nat):Int) e=bif EG bs (bs.length-1-i) i then nH m bs docs e else some []
 |0,i,_,h=>by omega
 |M+    1,i,hi,h=>by
  simp only[jR,dlt]
  by_cases hlt:i+1<bs.length
  ·have hi':i<bs.length:=by omega
   simp only[hlt,decide_true,cond_true,wC,wB,wrN (show ((i+1:Nat):Int)-1=(i:Int) by omega) (by omega),aC hi',aC hlt,hc _ (List.getElem_mem hi') _ (List.getElem_mem hlt),Option.bind_some,aM (show i+1<9223372036854775807 by omega)]
   rw[show bs.length-1-i=(bs.length-1-(i+1))+1 by omega,EG,yt bs hi',yt bs hlt]
   by_cases hs:cmpD bs[i] bs[i+1]<0
   ·    rw[decide_eq_false (by omega),decide_eq_true hs,cond_false,Bool.true_and]
        exact XV m docs e hl hc M (i+1) (by omega) (by omega)
   ·rw[decide_eq_true (by omega),decide_eq_false hs,cond_true,Bool.false_and,cond_false]
  ·have e1:bs.length-1-i=0:=by omega
   simp only[hlt,decide_false,cond_false,e1,EG,cond_true]
def roB (vs:List Dt):List Dt:=(List.range bs.length).map fun i=>Dt.int (cnB bs vs i:Int)
theorem zF (vs:List Dt):(roB bs vs).length=bs.length:=by rw[roB,List.length_map,List.length_range]
theorem UC (vs:List Dt) {i:Nat} (h:i<bs.length):(roB bs vs)[i]? =some (Dt.int (cnB bs vs i:Int)):=by
 rw[roB,List.getElem?_map,List.getElem?_range h]
 rfl
theorem akG {vs:List Dt} {v:Dt} (h:∀i,inB bs i v=false):roB bs (vs++[v])=roB bs vs:=by
 unfold roB
 refine List.map_congr_left fun i _=>?_
 rw[XR,h]
 rfl
theorem akH {vs:List Dt} {v:Dt} {a:Nat} (h:∀i,inB bs i v=decide (i=a)):(roB bs vs).set a (Dt.int ((cnB bs vs a+1:Nat):Int))=roB bs (vs++[v]):=by
 refine List.ext_getElem? fun i=>?_
 rw[List.getElem?_set]
 by_cases hi:i<bs.length
 ·rw[UC bs (vs++[v]) hi,XR,h]
  by_cases hia:a=i
  ·subst hia
   rw[if_pos rfl,if_pos (by rw[zF];exact hi),decide_eq_true rfl]
   rfl
  ·rw[if_neg hia,UC bs vs hi,decide_eq_false (fun e=>hia e.symm)]
   rfl
 ·have n1:(roB bs vs)[i]? =none:=List.getElem?_eq_none (by rw[zF];omega)
  have n2:(roB bs (vs++[v]))[i]? =none:=List.getElem?_eq_none (by rw[zF];omega)
  rw[n1,n2,zF]
  by_cases hia:a=i
  ·rw[if_pos hia,if_neg (by omega)]
  ·rw[if_neg hia]
theorem XW (m:Nat) (docs:List Dt) (e:Dt) (g:Dt→Dt) (ha:Ac bs) (hl:bs.length<1000000000) (hd:docs.length<1000000000) (hE:∀d∈docs,expr_Eval m e d=some (g d)) (hS:∀d∈docs,∃p,Cut bs (g d) p∧i15 m bs (g d)=some ((p:Int),fnB bs (g d) p)):∀(M j:Nat),j≤docs.length→docs.length-j<M→
  bB m M bs ((((docs.map g).take j).countP (ouB bs):Nat):Int) docs (docs.length:Int) (j:Int) e (roB bs ((docs.map g).take j))=qd m bs (((docs.map g).countP (ouB bs):Nat):Int) (roB bs (docs.map g))
 |0,j,_,h=>by omega
 |M+    1,j,hj,h=>by
  simp only[bB,dlt]
  by_cases hlt:j<docs.length
  ·obtain⟨p,hp,hs⟩:=hS _ (List.getElem_mem hlt)
   have ih:=XW m docs e g ha hl hd hE hS M (j+1) (by omega) (by omega)
   have hlm:j<(docs.map g).length:=by rw[List.length_map];exact hlt
   have et:(docs.map g).take (j+1)=(docs.map g).take j++[g docs[j]]:=by
        rw[List.take_succ_eq_append_getElem hlm,List.getElem_map]
   have hle:=hp.le
   have ho:((docs.map g).take j).countP (ouB bs)≤j:=Nat.le_trans List.countP_le_length (by rw[List.length_take];omega)
   have hcn:=aiG (bs:=bs) ((docs.map g).take j)
   have hlt2:((docs.map g).take j).length≤j:=by rw[List.length_take];omega
   rw[et,List.countP_append,List.countP_cons,List.countP_nil,acz hp ha] at ih
   simp only[hlt,decide_true,cond_true,wD,aC hlt,hE _ (List.getElem_mem hlt),hs,Option.bind_some]
   have hj9:∀rw1:List Dt,(bif (Bool.not (fnB bs (g docs[j]) p)) then fA m (bB m M) bs ((((docs.map g).take j).countP (ouB bs):Nat):Int) (IntKind.wrap .i64 ((p:Int)-1)) docs (docs.length:Int) (j:Int) e rw1 else fA m (bB m M) bs ((((docs.map g).take j).countP (ouB bs):Nat):Int) (p:Int) docs (docs.length:Int) (j:Int) e rw1)=fA m (bB m M) bs ((((docs.map g).take j).countP (ouB bs):Nat):Int) (aB bs (g docs[j]) p) docs (docs.length:Int) (j:Int) e rw1:=fun rw1=>by
        rw[aB]
        cases fnB bs (g docs[j]) p
        ·rw[wrap64 (by omega) (by omega)];rfl
        ·rfl
   rw[hj9]
   have e10:∀(b:Bool) (rw1:List Dt),je m (bB m M) bs ((((docs.map g).take j).countP (ouB bs):Nat):Int) (aB bs (g docs[j]) p) docs (docs.length:Int) (j:Int) b e rw1=bif b then bB m M bs ((((docs.map g).take j).countP (ouB bs)+1:Nat):Int) docs (docs.length:Int) ((j+1:Nat):Int) e rw1 else p9 m (bB m M) bs ((((docs.map g).take j).countP (ouB bs):Nat):Int) (aB bs (g docs[j]) p) docs (docs.length:Int) (j:Int) e rw1:=fun b rw1=>by
        rw[je,l7,wrN (n:=((docs.map g).take j).countP (ouB bs)+1) (by omega) (by omega),aM (by omega)]
   rw[fA,e10,e10,wrap64 (n:=(bs.length:Int)-1) (by omega) (by omega)]
   by_cases hout:aB bs (g docs[j]) p<0∨(bs.length:Int)-1≤aB bs (g docs[j]) p
   ·    have hro:=akG bs (vs:=(docs.map g).take j) (acy hp ha hout)
        rw[decide_eq_true hout,hro] at ih
        have:(bif decide (aB bs (g docs[j]) p<0) then true else decide ((bs.length:Int)-1≤aB bs (g docs[j]) p))=true:=by
         rcases hout with h|h
         ·rw[decide_eq_true h];rfl
         ·rw[decide_eq_true h];cases decide (aB bs (g docs[j]) p<0)<;>rfl
        have ih':=ih
        simp only[if_true,Nat.zero_add] at ih'
        by_cases h0:aB bs (g docs[j]) p<0
        ·rw[decide_eq_true h0,cond_true,cond_true]
         exact ih'
        ·rw[decide_eq_false h0,cond_false,decide_eq_true (show (bs.length:Int)-1≤aB bs (g docs[j]) p by omega),cond_true]
         exact ih'
   ·    have hat:=aiF hp ha hout
        have hro:=akH bs (vs:=(docs.map g).take j) hat
        have ha1:(aB bs (g docs[j]) p).toNat<bs.length:=by omega
        have ei:aB bs (g docs[j]) p=(((aB bs (g docs[j]) p).toNat:Nat):Int):=by omega
        rw[decide_eq_false hout,←hro] at ih
        have ih':=ih
        simp only[Bool.false_eq_true,if_false,Nat.add_zero] at ih'
        rw[decide_eq_false (by omega),cond_false,decide_eq_false (by omega),cond_false,p9]
        generalize (aB bs (g docs[j]) p).toNat=a at*
        rw[ei,tY (show a<(roB bs ((docs.map g).take j)).length by rw[zF];exact ha1),Option.bind_some,UC bs _ ha1,Option.bind_some,Option.bind_some,Option.bind_some,show Dt.toInt (Dt.int (cnB bs ((docs.map g).take j) a:Int))=(cnB bs ((docs.map g).take j) a:Int) from rfl,wrN (n:=cnB bs ((docs.map g).take j) a+1) (by omega) (by have:=hcn a;omega),l7,aM (by omega)]
        exact ih'
  ·have e1:j=docs.length:=by omega
   have et:(docs.map g).take j=docs.map g:=List.take_of_length_le (by rw[List.length_map];omega)
   simp only[hlt,decide_false,cond_false,et]
def fiB (n:Nat) (out:List Dt):List Dt:=out++bif decide ((0:Int)<(n:Int)) then[aaf nC (n:Int)] else[]
theorem acC (vs:List Dt) (i:Nat):(ouT bs vs i).length≤1:=by
 unfold ouT
 cases decide ((0:Int)<(cnB bs vs i:Int))<;>simp
theorem XY (m:Nat) (vs:List Dt) (n:Nat) (hl:bs.length<1000000000) (hc:∀b∈bs,aL (m+2) b=some b):∀(M i:Nat) (out:List Dt),i≤bs.length→bs.length-i<M→out.length≤i→
  jf (m+2) M bs (n:Int) (roB bs vs) (bs.length:Int) (i:Int) out=some (fiB n (out++ouL bs vs (bs.length-i) i))
 |0,i,_,_,h,_=>by omega
 |M+    1,i,out,hi,h,ho=>by
  simp only[jf,dlt]
  by_cases hlt:i<bs.length
  ·have hr:i<(roB bs vs).length:=by rw[zF];exact hlt
   have er:(roB bs vs)[i]=Dt.int (cnB bs vs i:Int):=by
        have:=UC bs vs hlt
        rw[List.getElem?_eq_getElem hr] at this
        exact Option.some.inj this
   have ih:=fun out ho=>XY m vs n hl hc M (i+1) out (by omega) (by omega) ho
   have ap:∀y:Dt,app out [y]=some (out++[y]):=fun y=>jg (by simp;omega)
   rw[show bs.length-i=(bs.length-(i+1))+1 by omega,ouL,ouT,yt bs hlt]
   simp only[hlt,decide_true,cond_true,uR,qb,aC hr,er,Option.bind_some,aC hlt,hc _ (List.getElem_mem hlt),Oo,ap,aM (show i<9223372036854775807 by omega)]
   show (bif decide ((0:Int)<(cnB bs vs i:Int)) then _ else _)=_
   cases decide ((0:Int)<(cnB bs vs i:Int))
   ·    rw[cond_false,cond_false,List.nil_append]
        exact ih out (by omega)
   ·    rw[cond_true,cond_true,←List.append_assoc]
        exact ih _ (by simp;omega)
  ·have e1:bs.length-i=0:=by omega
   rw[e1,ouL,List.append_nil]
   have ap:∀y:Dt,app out [y]=some (out++[y]):=fun y=>jg (by simp;omega)
   simp only[hlt,decide_false,cond_false,uS,qc,Oo,ap,Option.bind_some,fiB]
   cases decide ((0:Int)<(n:Int))
   ·rw[cond_false,cond_false,List.append_nil]
   ·rfl
def buS (vs:List Dt):List Dt:=bif decide ((bs.length:Int)<2) then[] else bif EG bs (bs.length-1) 0 then fiB (vs.countP (ouB bs)) (ouL bs vs (bs.length-1) 0) else[]
theorem buP (m:Nat) (docs:List Dt) (e:Dt) (g:Dt→Dt) (hl:bs.length<1000000000) (hd:docs.length<1000000000) (hm:1000000000≤m) (hE:∀d∈docs,expr_Eval (m+2) e d=some (g d)) (hcd:∀d∈docs,∀b∈bs,ay (m+1) b (g d)=some (cmpD b (g d))) (hcb:∀a∈bs,∀b∈bs,ay (m+2) a b=some (cmpD a b)) (hcp:∀b∈bs,aL (m+2) b=some b):
  gI (m+3) e bs docs=some (buS bs (docs.map g)):=by
 rw[gI,buS]
 by_cases h2:(bs.length:Int)<2
 ·rw[decide_eq_true h2];rfl
 ·rw[   decide_eq_false h2,cond_false,cond_false]
  have h1:=XV bs (m+2) docs e hl hcb (Nat.succ (m+2)) 0 (by omega) (by omega)
  refine Eq.trans (b:=bif EG bs (bs.length-1-0) 0 then nH (m+2) bs docs e else some []) h1 ?_
  rw[Nat.sub_zero]
  cases hasc:EG bs (bs.length-1) 0
  ·rfl
  ·rw[cond_true,cond_true]
   have ha:Ac bs:=fun i hi=>Om bs _ _ hasc i (Nat.zero_le _) (by omega)
   have hS:∀d∈docs,∃p,Cut bs (g d) p∧i15 (m+2) bs (g d)=some ((p:Int),fnB bs (g d) p):=fun d hd'=>ali (m+1) bs (g d) ha hl (by omega) (hcd d hd')
   have k1:=XW bs (m+2) docs e g ha hl hd hE hS (Nat.succ (m+2)) 0 (Nat.zero_le _) (by omega)
   have k2:=XY bs m (docs.map g) ((docs.map g).countP (ouB bs)) hl hcp (Nat.succ (m+2)) 0 [] (Nat.zero_le _) (by omega) (Nat.le_refl _)
   have er:roB bs []=List.replicate bs.length (Dt.int 0):=by
        rw[roB,List.eq_replicate_iff]
        refine⟨by simp,fun b hb=>?_⟩
        obtain⟨i,_,rfl⟩:=List.mem_map.1 hb
        rfl
   rw[List.take_zero,List.countP_nil,er] at k1
   rw[nH,wI (by omega),Option.bind_some]
   refine Eq.trans k1 ?_
   rw[Nat.sub_zero,List.nil_append,aiH] at k2
   have k3:(((roB bs (docs.map g)).length:Nat):Int)=(bs.length:Int):=by rw[zF]
   rw[qd,k3]
   exact k2
end
end Go.Proofs.YtmecfjhdnbgfeaaGreatDoor
namespace Go.Proofs.YtmecfjhdnbgfeaaGreatDoor
open Go.Am
section
variable (bs:List Dt)
theorem aiI (m:Nat) (rec2:List Dt→List Dt→Int→Int→Dt→List Dt→Option (List Dt)) (docs:List Dt) (e:Dt) (out:List Dt) (rest:Int) (g:Dt→Dt) (i:Nat) (hi:i+1<bs.length) (hl:bs.length<1000000000) (hd:docs.length≤1000000) (hE:∀d∈docs,ref08_Eval m e d=some (g d)) (hC:∀d∈docs,∀b∈bs,aA m (g d) b=some (cmpD (g d) b)):∀(M j n:Nat),j≤docs.length→docs.length-j<M→n≤j→
  dS m rec2 M bs docs rest (i:Int) (n:Int) (j:Int) e out=oJ m rec2 bs docs rest (i:Int) ((n+cnB bs ((docs.map g).drop j) i:Nat):Int) e out
 |0,j,n,_,h,_=>by omega
 |M+    1,j,n,hj,h,hn=>by
  simp only[dS,dlt]
  by_cases hlt:j<docs.length
  ·have ih:=fun n hn=>aiI m rec2 docs e out rest g i hi hl hd hE hC M (j+1) n (by omega) (by omega) hn
   have hi':i<bs.length:=by omega
   have hlm:j<(docs.map g).length:=by rw[List.length_map];exact hlt
   have e8:∀b,mJ m rec2 (dS m rec2 M) bs docs rest (i:Int) (n:Int) (j:Int) b e out=dS m rec2 M bs docs rest (i:Int) ((n+(bif b then 1 else 0):Nat):Int) ((j+1:Nat):Int) e out:=fun b=>by
        rw[mJ,aM (by omega),aM (by omega)]
        cases b<;>rfl
   rw[List.drop_eq_getElem_cons hlm,List.getElem_map,XT]
   simp only[hlt,decide_true,cond_true,aC hlt,hE _ (List.getElem_mem hlt),Option.bind_some,aC hi',hC _ (List.getElem_mem hlt) _ (List.getElem_mem hi'),aM (show i<9223372036854775807 by omega),aC hi,hC _ (List.getElem_mem hlt) _ (List.getElem_mem hi),e8]
   have eb:inB bs i (g docs[j])=(decide (0≤cmpD (g docs[j]) bs[i])&&decide (cmpD (g docs[j]) bs[i+1]<0)):=by
        rw[inB,decide_eq_true hi,Bool.true_and,yt bs hi',yt bs hi]
   rw[eb]
   cases decide (0≤cmpD (g docs[j]) bs[i])
   ·    rw[cond_false,ih _ (by simp;omega)]
        simp only[Bool.false_and,cond_false,Nat.add_zero]
   ·    rw[cond_true,ih _ (by cases decide (cmpD (g docs[j]) bs[i+1]<0)<;>simp<;>omega)]
        rw[Bool.true_and]
        congr 1
        omega
  ·have:(docs.map g).drop j=[]:=List.drop_eq_nil_of_le (by rw[List.length_map];omega)
   simp only[hlt,decide_false,cond_false,this,cnB,List.countP_nil,Nat.add_zero]
theorem acD (m:Nat) (docs:List Dt) (e:Dt) (g:Dt→Dt) (hl:bs.length<1000000000) (hd:docs.length≤1000000) (hdm:docs.length≤m) (hE:∀d∈docs,ref08_Eval (m+2) e d=some (g d)) (hC:∀d∈docs,∀b∈bs,aA (m+2) (g d) b=some (cmpD (g d) b)) (hB:∀a∈bs,∀b∈bs,aA (m+2) a b=some (cmpD a b)):∀(M i:Nat) (out:List Dt) (rest:Int),i+1≤bs.length→bs.length-i≤M→out.length≤i→rest≤1000000→ -(1000000:Int)*(i:Int)≤rest→
  dF (m+2) M bs docs rest (i:Int) e out=bif EG bs (bs.length-1-i) i then rO (m+2) (rest-(suB bs (docs.map g) (bs.length-1-i) i:Int)) (out++ouL bs (docs.map g) (bs.length-1-i) i) else some []
 |0,i,_,_,_,h,_,_,_=>by omega
 |M+    1,i,out,rest,hi,h,ho,hr1,hr2=>by
  simp only[dF,aM (show i<9223372036854775807 by omega),dlt]
  by_cases hlt:i+1<bs.length
  ·have hi':i<bs.length:=by omega
   have hcn:=aiG (bs:=bs) (docs.map g) i
   rw[List.length_map] at hcn
   have hin:=aiI bs (m+2) (dF (m+2) M) docs e out rest g i hlt hl hd hE hC (Nat.succ (m+2)) 0 0 (Nat.zero_le _) (by omega) (Nat.le_refl _)
   rw[List.drop_zero,Nat.zero_add] at hin
   have ih:=fun out ho=>acD m docs e g hl hd hdm hE hC hB M (i+1) out (rest-(cnB bs (docs.map g) i:Int)) (by omega) (by omega) ho (by omega) (by omega)
   have ap:∀y:Dt,app out [y]=some (out++[y]):=fun y=>jg (by simp;omega)
   have e11:∀o,oH (m+2) (dF (m+2) M) bs docs rest (i:Int) (cnB bs (docs.map g) i:Int) e o=dF (m+2) M bs docs (rest-(cnB bs (docs.map g) i:Int)) ((i+1:Nat):Int) e o:=fun o=>by
        rw[oH,wrap64 (by omega) (by omega),aM (by omega)]
   simp only[hlt,decide_true,cond_true,aM (show i<9223372036854775807 by omega),aC hi',aC hlt,hB _ (List.getElem_mem hi') _ (List.getElem_mem hlt),Option.bind_some]
   rw[show bs.length-1-i=(bs.length-1-(i+1))+1 by omega,EG,suB,ouL,ouT,yt bs hi',yt bs hlt]
   by_cases hs:cmpD bs[i] bs[i+1]<0
   ·    rw[decide_eq_false (by omega),decide_eq_true hs,cond_false,Bool.true_and]
        refine Eq.trans (b:=oJ (m+2) (dF (m+2) M) bs docs rest (i:Int) (cnB bs (docs.map g) i:Int) e out) hin ?_
        rw[oJ,aC hi',Option.bind_some,JJ,Option.bind_some,ap,Option.bind_some,e11,e11]
        rw[show rest-((cnB bs (docs.map g) i+suB bs (docs.map g) (bs.length-1-(i+1)) (i+1):Nat):Int)=rest-(cnB bs (docs.map g) i:Int)-(suB bs (docs.map g) (bs.length-1-(i+1)) (i+1):Int) by omega]
        cases decide ((0:Int)<(cnB bs (docs.map g) i:Int))
        ·rw[cond_false,cond_false,List.nil_append]
         exact ih out (by omega)
        ·rw[cond_true,cond_true,←List.append_assoc]
         exact ih _ (by simp;omega)
   ·rw[decide_eq_true (by omega),decide_eq_false hs,cond_true,Bool.false_and,cond_false]
  ·have e1:bs.length-1-i=0:=by omega
   simp only[hlt,decide_false,cond_false,e1,EG,cond_true,suB,ouL,List.append_nil]
   congr 1
   omega
theorem buR (m:Nat) (docs:List Dt) (e:Dt) (g:Dt→Dt) (hl:bs.length<1000000) (hd:docs.length≤1000000) (hm:1000000000≤m) (hE:∀d∈docs,ref08_Eval (m+2) e d=some (g d)) (hC:∀d∈docs,∀b∈bs,aA (m+2) (g d) b=some (cmpD (g d) b)) (hB:∀a∈bs,∀b∈bs,aA (m+2) a b=some (cmpD a b)) (hcut:Ac bs→∀v∈docs.map g,∃p,Cut bs v p):
  jM (m+3) e bs docs=some (buS bs (docs.map g)):=by
 rw[jM,buS]
 by_cases h2:(bs.length:Int)<2
 ·rw[decide_eq_true h2];rfl
 ·rw[   decide_eq_false h2,cond_false,cond_false]
  have k:=acD bs m docs e g (by omega) hd (by omega) hE hC hB (Nat.succ (m+2)) 0 [] (docs.length:Int) (by omega) (by omega) (Nat.le_refl _) (by omega) (by omega)
  refine Eq.trans k ?_
  rw[Nat.sub_zero]
  cases hasc:EG bs (bs.length-1) 0
  ·rfl
  ·have ha:Ac bs:=fun i hi=>Om bs _ _ hasc i (Nat.zero_le _) (by omega)
   have hs:=acB ha (docs.map g) (hcut ha)
   rw[List.length_map] at hs
   have ap:∀(l:List Dt) (y:Dt),l.length≤1000000→app l [y]=some (l++[y]):=fun l y h=>jg (by simp;omega)
   have hol:∀k i,(ouL bs (docs.map g) k i).length≤k:=by
        intro k
        induction k with
        |zero=>intro i;exact Nat.le_refl _
        |succ k ih=>intro i;have:=ih (i+1);have:=acC bs (docs.map g) i;rw[ouL,List.length_append];omega
   rw[cond_true,cond_true,List.nil_append,show (docs.length:Int)-(suB bs (docs.map g) (bs.length-1) 0:Int)=(((docs.map g).countP (ouB bs):Nat):Int) by omega,rO,fiB]
   have hnull:rz (m+2)=some nC:=rfl
   rw[hnull,Option.bind_some,JJ,Option.bind_some,ap _ _ (by have:=hol (bs.length-1) 0;omega),Option.bind_some]
   cases decide ((0:Int)<(((docs.map g).countP (ouB bs):Nat):Int))
   ·rw[cond_false,cond_false,List.append_nil]
   ·rfl
theorem aiJ (vs:List Dt) (hb:∀b∈bs,b.bulk≤2000000):∀x∈buS bs vs,x.bulk≤2000100:=by
 have hcv:∀b n,b.bulk≤2000000→(aaf b n).bulk≤2000100:=fun b n h=>by
  have:(aaf b n).bulk=24+b.bulk:=by
   unfold aaf
   simp only[Dt.bulk,Dt.bulkL]
   have e1:(ByteArray.mk (List.toArray [95,105,100])).size=3:=rfl
   have e2:(ByteArray.mk (List.toArray [99,111,117,110,116])).size=5:=rfl
   have e3:(ByteArray.mk (List.toArray [])).size=0:=rfl
   rw[e1,e2,e3]
   omega
  omega
 have hat:∀i,(bAt bs i).bulk≤2000000:=fun i=>by
  by_cases hi:i<bs.length
  ·rw[yt bs hi];exact hb _ (List.getElem_mem hi)
  ·rw[bAt,List.getD,List.getElem?_eq_none (by omega)]
   show kza2373.bulk≤_
   decide
 have hol:∀k i,∀x∈ouL bs vs k i,x.bulk≤2000100:=by
  intro k
  induction k with
  |zero=>intro i x hx;cases hx
  |succ k ih=>
   intro i x hx
   rw[ouL] at hx
   rcases List.mem_append.1 hx with h|h
   ·    unfold ouT at h
        cases hc:decide ((0:Int)<(cnB bs vs i:Int))
        ·rw[hc] at h;cases h
        ·rw[hc] at h
         rw[List.mem_singleton.1 h]
         exact hcv _ _ (hat i)
   ·exact ih _ x h
 intro x hx
 unfold buS at hx
 cases h2:decide ((bs.length:Int)<2)
 ·rw[   h2,cond_false] at hx
  cases ha:EG bs (bs.length-1) 0
  ·rw[ha] at hx;cases hx
  ·rw[   ha,cond_true,fiB] at hx
   rcases List.mem_append.1 hx with h|h
   ·exact hol _ _ x h
   ·    cases hc:decide ((0:Int)<((vs.countP (ouB bs):Nat):Int))
        ·rw[hc] at h;cases h
        ·rw[hc] at h
         rw[List.mem_singleton.1 h]
         exact hcv _ _ (by show nC.bulk≤_;decide)
 ·rw[h2] at hx;cases hx
theorem acE (vs:List Dt):(buS bs vs).length≤bs.length+1:=by
 have hol:∀k i,(ouL bs vs k i).length≤k:=by
  intro k
  induction k with
  |zero=>intro i;exact Nat.le_refl _
  |succ k ih=>intro i;have:=ih (i+1);have:=acC bs vs i;rw[ouL,List.length_append];omega
 unfold buS
 cases decide ((bs.length:Int)<2)
 ·rw[cond_false]
  cases EG bs (bs.length-1) 0
  ·exact Nat.zero_le _
  ·rw[cond_true,fiB,List.length_append]
   have:=hol (bs.length-1) 0
   cases decide ((0:Int)<((vs.countP (ouB bs):Nat):Int))<;>simp<;>omega
 ·exact Nat.zero_le _
end
end Go.Proofs.YtmecfjhdnbgfeaaGreatDoor
