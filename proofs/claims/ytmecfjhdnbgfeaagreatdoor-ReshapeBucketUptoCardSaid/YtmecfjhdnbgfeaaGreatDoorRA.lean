/- Copies of values: the functions hand the parts back.
Copies of documents by reshape's own function.
Fields by name,numbers,the reference's Set (out of layer 4's texts).
A field of a document is set:the program's function and the reference's.
Each value is the same as itself (layer 3's functions).
Copies of values,by layer 12's function. -/
import Derived.Test.YtmecfjhdnbgfeaaGreatDoorMA
import Derived.Test.YtmecfjhdnbgfeaaGreatDoorMC
set_option linter.unusedVariables false
set_option linter.unusedSimpArgs false
namespace Go.Proofs.YtmecfjhdnbgfeaaGreatDoor
open Go.Am
def Dv (d:Dt):Int×Int×ByteArray×List Dt×List Dt:=(Dt.I d 0,Dt.I d 1,Dt.S d 2,Dt.L d 3,Dt.L d 4)
def Ld (d:Dt):Prop:=∃k i t l ds,d= .agg [.int k,.int i,.str t,.lst l,.lst ds]
theorem BR {d:Dt} (h:Ld d):Dt.agg [.int (Dv d).1,.int (Dv d).2.1,.str (Dv d).2.2.1,.lst (Dv d).2.2.2.1,.lst (Dv d).2.2.2.2]=d:=by
 obtain⟨k,i,t,l,ds,rfl⟩:=h
 rfl
theorem WV.isVal {d:Dt} (h:WV d):Ld d:=by
 cases h with
 |mk hl hd=>exact⟨_,_,_,_,_,rfl⟩
theorem zJ (m:Nat) (self:Dt→Option (Int×Int×ByteArray×List Dt×List Dt)) (l:List Dt) (hl:l.length<9223372036854775807) (hs:∀e∈l,Ld e∧self e=some (Dv e)) (z x3 x4:Dt) (x5 x6:Int) (x7:ByteArray) (x9:List Dt):∀(M i:Nat),i≤l.length→l.length-i<M→
  kY m self M l (l.length:Int) (i:Int) x3 x4 x5 x6 x7 (l.take i++List.replicate (l.length-i) z) x9=iZ m self x3 x4 x5 x6 x7 l x9
 |0,i,_,h=>by omega
 |M+1,i,hi,h=>by
  simp only[kY,dlt]
  by_cases hlt:i<l.length
  ·have hx:i<(l.take i++List.replicate (l.length-i) z).length:=by rw[E9 l z i hi];exact hlt
   obtain⟨e1,e2⟩:=hs _ (List.getElem_mem hlt)
   simp only[hlt,decide_true,cond_true,aC hlt,Option.bind_some,e2,BR e1,tY hx,Int.toNat_natCast,List.getElem?_eq_getElem hx,AU l z i hlt,aM (show i<9223372036854775807 by omega)]
   exact zJ m self l hl hs z x3 x4 x5 x6 x7 x9 M (i+1) (by omega) (by omega)
  ·have e:i=l.length:=by omega
   subst e
   simp
theorem zK (m:Nat) (self:Dt→Option (Int×Int×ByteArray×List Dt×List Dt)) (l:List Dt) (hl:l.length<9223372036854775807) (hf:∀f∈l,∃s v,f= .agg [.str s,v]∧Ld v∧self v=some (Dv v)) (z x3:Dt) (x4 x5:Int) (x6:ByteArray) (x7:List Dt):∀(M i:Nat),i≤l.length→l.length-i<M→
  nY m self M l (l.length:Int) (i:Int) x3 x4 x5 x6 x7 (l.take i++List.replicate (l.length-i) z)=some (x4,x5,x6,x7,l)
 |0,i,_,h=>by omega
 |M+1,i,hi,h=>by
  simp only[nY,dlt]
  by_cases hlt:i<l.length
  ·have hx:i<(l.take i++List.replicate (l.length-i) z).length:=by rw[E9 l z i hi];exact hlt
   obtain⟨s,v,e1,e2,e3⟩:=hf _ (List.getElem_mem hlt)
   have e5:Dt.agg [.str (Dt.S l[i] 0),v]=l[i]:=by rw[e1];rfl
   have e4:Dt.fld l[i] 1=v:=by rw[e1];rfl
   simp only[hlt,decide_true,cond_true,aC hlt,Option.bind_some,e4,e3,BR e2,e5,tY hx,Int.toNat_natCast,List.getElem?_eq_getElem hx,AU l z i hlt,aM (show i<9223372036854775807 by omega)]
   exact zK m self l hl hf z x3 x4 x5 x6 x7 M (i+1) (by omega) (by omega)
  ·have e:i=l.length:=by omega
   subst e
   simp[]
theorem JN (m:Nat) (self:Dt→Option (Int×Int×ByteArray×List Dt×List Dt)) (d x4:Dt) (x5 x6:Int) (x7:ByteArray) (x8:List Dt) (hm:(Dt.L d 4).length≤m) (hl:(Dt.L d 4).length≤137438953472) (hf:∀f∈Dt.L d 4,∃s v,f= .agg [.str s,v]∧Ld v∧self v=some (Dv v)):
  iZ m self d x4 x5 x6 x7 x8 []=some (x5,x6,x7,x8,Dt.L d 4):=by
 unfold iZ
 by_cases h0:0<(Dt.L d 4).length
 ·have e0:decide ((0:Int)<(((Dt.L d 4).length:Nat):Int))=true:=by simp;omega
  rw[e0]
  simp only[cond_true]
  rw[wI hl,Option.bind_some]
  have key:=fun z=>zK m self (Dt.L d 4) (by omega) hf z x4 x5 x6 x7 x8 (Nat.succ m) 0 (by omega) (by omega)
  simp only[List.take_zero,List.nil_append,Nat.sub_zero] at key
  exact key _
 ·have e0:decide ((0:Int)<(((Dt.L d 4).length:Nat):Int))=false:=by rw[decide_eq_false_iff_not];omega
  have e1:Dt.L d 4=[]:=List.length_eq_zero_iff.1 (by omega)
  rw[e0,e1]
  rfl
theorem qK:∀(N:Nat) (d:Dt),d.bulk≤N→N≤137438953472→WV d→∀m,N≤m→bf (m+1) d=some (Dv d)
 |0,d,h,_,_,_,_=>by have:=fH d;omega
 |N +   1,d,h,hN,hw,m,hm=>by
  cases hw with
  | @mk   k i t l ds hl hd=>
    rw[mO] at h
    obtain⟨m,rfl⟩:∃q,m=q+1:=⟨m-1,by omega⟩
    have hself:∀e∈l,Ld e∧bf (m+1) e=some (Dv e):=fun e he=>⟨(hl e he).isVal,qK N e (by have:=lC he;omega) (by omega) (hl e he) m (by omega)⟩
    have hfld:∀f∈ds,∃s v,f= .agg [.str s,v]∧Ld v∧bf (m+1) v=some (Dv v):=fun f hf=>by
        have hb:=lC hf
        cases hd f hf with
        | @mk s v hv=>
          rw[vo] at hb
          exact⟨s,v,rfl,hv.isVal,qK N v (by omega) (by omega) hv m (by omega)⟩
    have hl1:=jh l
    have hd1:=jh ds
    have key4:=fun(x4:Dt) (x8:List Dt)=>JN (m+1) (bf (m+1)) (.agg [.int k,.int i,.str t,.lst l,.lst ds]) x4 k i t x8 (show ds.length≤m+1 by omega) (show ds.length≤137438953472 by omega) hfld
    show (bif (decide ((0:Int)<((l.length:Nat):Int))) then _ else _)=_
    by_cases h0:0<l.length
    ·   have e0:decide ((0:Int)<((l.length:Nat):Int))=true:=by simp;omega
        have key:=fun(x3 x4:Dt) (z:Dt)=>zJ (m+1) (bf (m+1)) l (by omega) hself z x3 x4 k i t [] (m+2) 0 (by omega) (by omega)
        simp only[List.take_zero,List.nil_append,Nat.sub_zero] at key
        rw[e0]
        simp only[cond_true]
        show Option.bind (mkL ((l.length:Nat):Int) ((l.length:Nat):Int) _) _=_
        rw[wI (by omega),Option.bind_some]
        show kY (m+1) (bf (m+1)) (m+2) l ((l.length:Nat):Int) ((0:Nat):Int) _ _ k i t _ _=_
        rw[key,key4]
        rfl
    ·   have e0:decide ((0:Int)<((l.length:Nat):Int))=false:=by rw[decide_eq_false_iff_not];omega
        have e3:l=[]:=List.length_eq_zero_iff.1 (by omega)
        rw[e0]
        simp only[cond_false]
        show iZ (m+1) (bf (m+1)) _ _ k i t [] []=_
        rw[key4,e3]
        rfl
end Go.Proofs.YtmecfjhdnbgfeaaGreatDoor
namespace Go.Proofs.YtmecfjhdnbgfeaaGreatDoor
open Go.Am
theorem R5 {l:List Dt} {x:Dt} (h:l.length<137438953472):app l [x]=some (l++[x]):=by
 unfold app
 rw[if_pos (by simp;omega)]
theorem Qh {l:List Dt} {i:Nat} (h:i<l.length):l.take i++[l[i]]=l.take (i+1):=by rw[List.take_add_one,List.getElem?_eq_getElem h];rfl
theorem Vi (m:Nat) (self:Dt→Option Dt) (l:List Dt) (hl:l.length≤137438953472) (hs:∀e∈l,self e=some e) (x3 x4:Dt) (x5 x6:Int) (x7:ByteArray) (x9:List Dt):∀(M i:Nat),i≤l.length→l.length-i<M→
  eu m self M l (l.length:Int) (i:Int) x3 x4 x5 x6 x7 (l.take i) x9=sS m self x3 x4 x5 x6 x7 l x9
 |0,i,_,h=>by omega
 |M+1,i,hi,h=>by
  simp only[eu,dlt]
  by_cases hlt:i<l.length
  ·have hx:(l.take i).length<137438953472:=by rw[List.length_take];omega
   simp only[hlt,decide_true,cond_true,aC hlt,Option.bind_some,hs _ (List.getElem_mem hlt),R5 hx,Qh hlt,aM (show i<9223372036854775807 by omega)]
   exact Vi m self l hl hs x3 x4 x5 x6 x7 x9 M (i+1) (by omega) (by omega)
  ·have e:i=l.length:=by omega
   subst e
   simp
theorem Vj (m:Nat) (self:Dt→Option Dt) (l:List Dt) (hl:l.length≤137438953472) (hf:∀f∈l,∃s v,f= .agg [.str s,v]∧self v=some v) (x3:Dt) (x4 x5:Int) (x6:ByteArray) (x7:List Dt):∀(M i:Nat),i≤l.length→l.length-i<M→
  gD m self M l (l.length:Int) (i:Int) x3 x4 x5 x6 x7 (l.take i)=some (.agg [.int x4,.int x5,.str x6,.lst x7,.lst l])
 |0,i,_,h=>by omega
 |M+1,i,hi,h=>by
  simp only[gD,dlt]
  by_cases hlt:i<l.length
  ·have hx:(l.take i).length<137438953472:=by rw[List.length_take];omega
   obtain⟨s,v,e1,e2⟩:=hf _ (List.getElem_mem hlt)
   have e5:Dt.agg [.str (Dt.S l[i] 0),v]=l[i]:=by rw[e1];rfl
   have e4:Dt.fld l[i] 1=v:=by rw[e1];rfl
   simp only[hlt,decide_true,cond_true,aC hlt,Option.bind_some,e4,e2,e5,R5 hx,Qh hlt,aM (show i<9223372036854775807 by omega)]
   exact Vj m self l hl hf x3 x4 x5 x6 x7 M (i+1) (by omega) (by omega)
  ·have e:i=l.length:=by omega
   subst e
   simp[]
theorem Le:∀(N:Nat) (d:Dt),d.bulk≤N→N≤137438953472→WV d→∀m,N≤m→aL (m+1) d=some d
 |0,d,h,_,_,_,_=>by have:=fH d;omega
 |N +   1,d,h,hN,hw,m,hm=>by
  cases hw with
  | @mk   k i t l ds hl hd=>
    rw[mO] at h
    obtain⟨m,rfl⟩:∃q,m=q+1:=⟨m-1,by omega⟩
    have hself:∀e∈l,aL (m+1) e=some e:=fun e he=>Le N e (by have:=lC he;omega) (by omega) (hl e he) m (by omega)
    have hfld:∀f∈ds,∃s v,f= .agg [.str s,v]∧aL (m+1) v=some v:=fun f hf=>by
        have hb:=lC hf
        cases hd f hf with
        | @mk s v hv=>
          rw[vo] at hb
          exact⟨s,v,rfl,Le N v (by omega) (by omega) hv m (by omega)⟩
    have hl1:=jh l
    have hd1:=jh ds
    have key:=fun(x3 x4:Dt)=>Vi (m+1) (aL (m+1)) l (by omega) hself x3 x4 k i t [] (m+2) 0 (by omega) (by omega)
    have key6:=fun(x3:Dt) (x7:List Dt)=>Vj (m+1) (aL (m+1)) ds (by omega) hfld x3 k i t x7 (m+2) 0 (by omega) (by omega)
    simp only[List.take_zero] at key key6
    show eu (m+1) (aL (m+1)) (m+2) l ((l.length:Nat):Int) ((0:Nat):Int) _ _ k i t [] []=_
    rw[key]
    exact key6 _ _
end Go.Proofs.YtmecfjhdnbgfeaaGreatDoor
namespace Go.Proofs.YtmecfjhdnbgfeaaGreatDoor
open Go.Am
def fi (s:ByteArray):List Dt→Option Nat
 | []=>none
 |f::r=>bif ByteArray.toList (Dt.S f 0)==ByteArray.toList s then some 0 else(fi s r).map (· +1)
def oI (i:Nat):Option Nat→Int
 |some k=>((i+k:Nat):Int)
 |none=> -1
theorem aex (i:Nat) (o:Option Nat):oI i (o.map (· +1))=oI (i+1) o:=by cases o<;>simp[oI];omega
theorem aaA {s:ByteArray}:∀{L:List Dt} {k:Nat},fi s L=some k→k<L.length
 | [],k,h=>by cases h
 |f::r,k,h=>by
  rw[fi] at h
  cases hc:(ByteArray.toList (Dt.S f 0)==ByteArray.toList s) with
  |true=>rw[hc] at h;cases h;simp
  |false=>
   rw[hc,cond_false] at h
   cases hr:fi s r with
   |none=>rw[hr] at h;cases h
   |some j=>rw[hr] at h;cases h;have:=aaA hr;simp;omega
def mkV (v:Dt) (l fs:List Dt):Dt:= .agg [.int (Dt.I v 0),.int (Dt.I v 1),.str (Dt.S v 2),.lst l,.lst fs]
def chF (v:Dt) (k:Nat):Dt:=Dt.fld ((Dt.L v 4).getD k (.int 0)) 1
def Yh (v:Dt) (k:Nat) (c:Dt):Dt:=mkV v (Dt.L v 3) ((Dt.L v 4).set k (.agg [.str (Dt.S ((Dt.L v 4).getD k (.int 0)) 0),c]))
def alA (v:Dt) (s:ByteArray) (c:Dt):Dt:=mkV v (Dt.L v 3) (Dt.L v 4++[.agg [.str s,c]])
theorem oI0 (k:Nat):oI 0 (some k)=(k:Int):=by simp[oI]
theorem getD_lt {l:List Dt} {k:Nat} {z:Dt} (h:k<l.length):l.getD k z=l[k]:=by rw[List.getD,List.getElem?_eq_getElem h];rfl
theorem wv6 {d:Dt} (hw:WV d):6≤d.bulk:=by cases hw with|mk hl hd=>rw[mO];omega
theorem aqQ {v:Dt} (hw:WV v) {k:Nat} (hk:k<(Dt.L v 4).length):chF v k=Dt.fld (Dt.L v 4)[k] 1∧WV (chF v k)∧(chF v k).bulk<v.bulk:=by
 have e:chF v k=Dt.fld (Dt.L v 4)[k] 1:=by unfold chF;rw[getD_lt hk]
 rw[e]
 exact⟨rfl,(AX hw).2.2.2 _ (List.getElem_mem hk)⟩
theorem b5 {k:Int} (h:k=5):(k==5)=true∧(k !=5)=false:=by subst h;exact⟨rfl,rfl⟩
theorem dn1:decide ((0:Int)≤ -1)=false:=rfl
theorem dn2:decide ((-1:Int)<0)=true:=rfl
theorem dp1 (k:Nat):decide ((0:Int)≤(k:Int))=true:=decide_eq_true (by omega)
theorem dp2 (k:Nat):decide ((k:Int)<0)=false:=decide_eq_false (by omega)
theorem oIn:oI 0 none= -1:=rfl
theorem aoE (m:Nat) (s:ByteArray) (v:Dt) (hl:(Dt.L v 4).length<9223372036854775807):∀(M i:Nat),i≤(Dt.L v 4).length→(Dt.L v 4).length-i<M→lS m M s (i:Int) v=some (oI i (fi s ((Dt.L v 4).drop i)))
 |0,i,_,h=>by omega
 |M+    1,i,hi,h=>by
  simp only[lS,dlt]
  by_cases hlt:i<(Dt.L v 4).length
  ·rw[List.drop_eq_getElem_cons hlt]
   simp only[hlt,decide_true,cond_true,aC hlt,Option.bind_some,fi,aM (show i<9223372036854775807 by omega)]
   cases (ByteArray.toList (Dt.S (Dt.L v 4)[i] 0)==ByteArray.toList s)
   ·    simp only[cond_false]
        rw[aoE m s v hl M (i+1) (by omega) (by omega),aex]
   ·simp[oI]
  ·have e:i=(Dt.L v 4).length:=by omega
   rw[e,List.drop_length]
   simp[fi,oI]
theorem at_eq (m:Nat) (s:ByteArray) (v:Dt) (h5:Dt.I v 0=5) (hm:(Dt.L v 4).length≤m) (hm2:m<9223372036854775807):kU (m+1) v s=some (oI 0 (fi s (Dt.L v 4))):=by
 have h:=aoE m s v (by omega) (m+1) 0 (Nat.zero_le _) (by omega)
 rw[List.drop_zero] at h
 rw[kU,(b5 h5).2,cond_false]
 exact h
theorem Yi {v:Dt} (hw:WV v):(∀e∈Dt.L v 3,WV e)∧(∀f∈Dt.L v 4,WF f)∧v.bulk=Dt.bulkL (Dt.L v 3)+Dt.bulkL (Dt.L v 4)+((Dt.S v 2).size+6):=by
 cases hw with
 |mk hl hd=>exact⟨hl,hd,mO⟩
theorem aoF {v:Dt} (hw:WV v) {k:Nat} (hk:k<(Dt.L v 4).length):(Dt.L v 4)[k]= .agg [.str (Dt.S (Dt.L v 4)[k] 0),chF v k]∧(Dt.L v 4)[k].bulk=(chF v k).bulk+(Dt.S (Dt.L v 4)[k] 0).size+2:=by
 have h:=(Yi hw).2.1 _ (List.getElem_mem hk)
 have hc:=(aqQ hw hk).1
 rw[hc]
 generalize (Dt.L v 4)[k]=f at h
 cases h with
 |mk h=>exact⟨rfl,vo⟩
theorem aey (v:Dt) {l fs:List Dt} (hl:∀e∈l,WV e) (hd:∀f∈fs,WF f):WV (mkV v l fs):= .mk hl hd
theorem Vk (v:Dt) (l fs:List Dt):(mkV v l fs).bulk=Dt.bulkL l+Dt.bulkL fs+((Dt.S v 2).size+6):=mO
theorem Qi:∀{l:List Dt} {k:Nat} (x:Dt) (h:k<l.length),Dt.bulkL (l.set k x)+l[k].bulk=Dt.bulkL l+x.bulk
 |a::r,0,x,h=>by simp only[List.set_cons_zero,Dt.bulkL,List.getElem_cons_zero];omega
 |a::r,k+1,x,h=>by
  have:=Qi x (show k<r.length by simpa using h)
  simp only[List.set_cons_succ,Dt.bulkL,List.getElem_cons_succ];omega
theorem aez {l:List Dt} {k:Nat} {x e:Dt} {Q:Dt→Prop} (h:∀e∈l,Q e) (hx:Q x) (he:e∈l.set k x):Q e:=by
 rcases List.mem_or_eq_of_mem_set he with h'|rfl
 ·exact h _ h'
 ·exact hx
theorem aje {v c:Dt} (hw:WV v) (hc:WV c) (k:Nat):WV (Yh v k c):=aey v (Yi hw).1 fun _ he=>aez (Yi hw).2.1 (.mk hc) he
theorem acY {v c:Dt} (hw:WV v) {k:Nat} (hk:k<(Dt.L v 4).length):(Yh v k c).bulk+(chF v k).bulk=v.bulk+c.bulk:=by
 have h1:=Qi (Dt.agg [.str (Dt.S (Dt.L v 4)[k] 0),c]) hk
 have h2:=(aoF hw hk).2
 rw[vo] at h1
 rw[Yh,Vk,getD_lt hk,(Yi hw).2.2]
 omega
theorem aeA (m:Nat) (s:ByteArray) (k:Nat) (v r z:Dt) (hl:(Dt.L v 4).length≤137438953472) (hk:k<(Dt.L v 4).length):∀(M i:Nat) (out:List Dt),i≤(Dt.L v 4).length→(Dt.L v 4).length-i<M→out.length≤i→
  jL m M s (k:Int) (i:Int) v r z out=some (mkV v (Dt.L v 3) (out++(if i≤k then((Dt.L v 4).drop i).set (k-i) (.agg [.str (Dt.S (Dt.L v 4)[k] 0),r]) else(Dt.L v 4).drop i)))
 |0,i,_,_,h,_=>by omega
 |M+    1,i,out,hi,h,ho=>by
  simp only[jL,dlt]
  by_cases hlt:i<(Dt.L v 4).length
  ·rw[   List.drop_eq_getElem_cons hlt]
   have ha:∀e:Dt,app out [e]=some (out++[e]):=fun e=>jg (by simp;omega)
   simp only[hlt,decide_true,cond_true,aC hlt,Option.bind_some,aM (show i<9223372036854775807 by omega),ha]
   by_cases hik:i=k
   ·    subst hik
        rw[show ((i:Int)==(i:Int))=true by simp,cond_true,aeA m s i v r z hl hk M (i+1) _ (by omega) (by omega) (by simp;omega),if_neg (by omega),if_pos (Nat.le_refl _),Nat.sub_self,List.set_cons_zero]
        simp
   ·    rw[show ((i:Int)==(k:Int))=false by simp;omega,cond_false,aeA m s k v r z hl hk M (i+1) _ (by omega) (by omega) (by simp;omega)]
        by_cases hik':i≤k
        ·rw[if_pos hik',if_pos (by omega),show k-i=(k-(i+1))+1 by omega,List.set_cons_succ]
         simp
        ·rw[if_neg hik',if_neg (by omega)]
         simp
  ·have e:i=(Dt.L v 4).length:=by omega
   rw[e,List.drop_length]
   simp only[Nat.lt_irrefl,decide_false,cond_false,dp2,qB]
   split<;>simp[mkV]
theorem aeB (m:Nat) (s:ByteArray) (v r z:Dt) (hl:(Dt.L v 4).length<137438953472):∀(M i:Nat) (out:List Dt),i≤(Dt.L v 4).length→(Dt.L v 4).length-i<M→out.length≤i→
  jL m M s (-1) (i:Int) v r z out=some (mkV v (Dt.L v 3) (out++(Dt.L v 4).drop i++[.agg [.str s,r]]))
 |0,i,_,_,h,_=>by omega
 |M+1,i,out,hi,h,ho=>by
  simp only[jL,dlt]
  by_cases hlt:i<(Dt.L v 4).length
  ·rw[List.drop_eq_getElem_cons hlt]
   have ha:∀e:Dt,app out [e]=some (out++[e]):=fun e=>jg (by simp;omega)
   simp only[hlt,decide_true,cond_true,aC hlt,Option.bind_some,aM (show i<9223372036854775807 by omega),ha]
   rw[show ((i:Int)==(-1:Int))=false by rw[beq_eq_false_iff_ne];omega,cond_false,aeB m s v r z hl M (i+1) _ (by omega) (by omega) (by simp;omega)]
   simp
  ·have e:i=(Dt.L v 4).length:=by omega
   rw[e,List.drop_length]
   simp only[Nat.lt_irrefl,decide_false,cond_false,dn2,cond_true,jg (show out.length+[Dt.agg [.str s,r]].length≤137438953472 by simp;omega),Option.bind_some,qB]
   simp[mkV]
theorem aeC (m:Nat) (s:ByteArray) (v r:Dt) (k:Nat) (h5:Dt.I v 0=5) (hm:v.bulk≤m) (hb:v.bulk≤137438953472) (hm2:m<9223372036854775807) (h:fi s (Dt.L v 4)=some k):nk (m+2) v s r=some (Yh v k r):=by
 have hn:=fI v 4
 have hk:=aaA h
 rw[nk,(b5 h5).2,cond_false,at_eq m s v h5 (by omega) hm2,h,oI0,Option.bind_some]
 have:=aeA (m+1) s k v r kza2373 (by omega) hk (m+2) 0 [] (Nat.zero_le _) (by omega) (Nat.zero_le _)
 rw[List.drop_zero,if_pos (Nat.zero_le _),Nat.sub_zero,List.nil_append] at this
 rw[Yh,getD_lt hk]
 exact this
theorem aeD (m:Nat) (s:ByteArray) (v r:Dt) (h5:Dt.I v 0=5) (hm:v.bulk≤m) (hb:v.bulk≤137438953472) (hm2:m<9223372036854775807) (h:fi s (Dt.L v 4)=none):nk (m+2) v s r=some (alA v s r):=by
 have hn:=fI v 4
 rw[nk,(b5 h5).2,cond_false,at_eq m s v h5 (by omega) hm2,h,oIn,Option.bind_some]
 have:=aeB (m+1) s v r kza2373 (by omega) (m+2) 0 [] (Nat.zero_le _) (by omega) (Nat.zero_le _)
 rw[List.drop_zero,List.nil_append] at this
 exact this
end Go.Proofs.YtmecfjhdnbgfeaaGreatDoor
namespace Go.Proofs.YtmecfjhdnbgfeaaGreatDoor
open Go.Am
theorem aaB (m:Nat) (s:ByteArray) (v:Dt) (hl:(Dt.L v 4).length<9223372036854775807):∀(M i:Nat),i≤(Dt.L v 4).length→(Dt.L v 4).length-i<M→oW m M s ((Dt.L v 4).length:Int) (i:Int) v=some (oI i (fi s ((Dt.L v 4).drop i)))
 |0,i,_,h=>by omega
 |M+    1,i,hi,h=>by
  simp only[oW,dlt]
  by_cases hlt:i<(Dt.L v 4).length
  ·rw[List.drop_eq_getElem_cons hlt]
   simp only[hlt,decide_true,cond_true,aC hlt,Option.bind_some,fi,aM (show i<9223372036854775807 by omega)]
   cases (ByteArray.toList (Dt.S (Dt.L v 4)[i] 0)==ByteArray.toList s)
   ·    simp only[cond_false]
        rw[aaB m s v hl M (i+1) (by omega) (by omega),aex]
   ·simp[oI]
  ·have e:i=(Dt.L v 4).length:=by omega
   rw[e,List.drop_length]
   simp[fi,oI]
theorem aeE (m:Nat) (s:ByteArray) (v:Dt) (h5:Dt.I v 0=5) (hm:(Dt.L v 4).length≤m) (hm2:m<9223372036854775807):pW (m+1) v s=some (oI 0 (fi s (Dt.L v 4))):=by
 have h:=aaB m s v (by omega) (m+1) 0 (Nat.zero_le _) (by omega)
 rw[List.drop_zero] at h
 rw[pW,(b5 h5).2,cond_false]
 exact h
def Ap (v:Dt) (s:ByteArray) (r:Dt):Dt:=match fi s (Dt.L v 4) with
 |some k=>Yh v k r
 |none=>alA v s r
theorem ajf {v r:Dt} {s:ByteArray} (hw:WV v) (hr:WV r):WV (Ap v s r):=by
 unfold Ap
 split
 ·exact aje hw hr _
 ·refine aey v (Yi hw).1 fun f hf=>?_
  rcases List.mem_append.1 hf with h|h
  ·exact(Yi hw).2.1 f h
  ·rw[List.mem_singleton.1 h];exact .mk hr
theorem ajg (m:Nat) (s:ByteArray) (v r:Dt) (h5:Dt.I v 0=5) (hm:v.bulk≤m) (hb:v.bulk≤137438953472) (hm2:m<9223372036854775807):nk (m+2) v s r=some (Ap v s r):=by
 unfold Ap
 cases h:fi s (Dt.L v 4) with
 |some k=>exact aeC m s v r k h5 hm hb hm2 h
 |none=>exact aeD m s v r h5 hm hb hm2 h
theorem ajh (m:Nat) (s:ByteArray) (v r:Dt) (hw:WV v) (hr:WV r) (h5:Dt.I v 0=5) (hm:v.bulk≤m) (hb:v.bulk≤137438953472) (hm':r.bulk≤m) (hb':r.bulk≤137438953472) (hm2:m<9223372036854775807):rP (m+2) v s r=some (Ap v s r):=by
 have hn:=fI v 4
 have ev:=qK _ v (Nat.le_refl _) hb hw m hm
 have er:=qK _ r (Nat.le_refl _) hb' hr m hm'
 have hv:=BR hw.isVal
 have hr5:=BR hr.isVal
 have hf:=aeE m s v h5 (by omega) hm2
 rw[rP,ev,Option.bind_some,show (Dv v).1=Dt.I v 0 from rfl,(b5 h5).2,cond_false]
 rw[show Dt.I v 0=(Dv v).1 from rfl]
 unfold EO
 rw[hv,hf,Option.bind_some]
 unfold Ap
 cases h:fi s (Dt.L v 4) with
 |some k=>
  have hk:=aaA h
  have hk':k<(Dv v).2.2.2.2.length:=hk
  simp only[oI0,dp1,cond_true,er,Option.bind_some,hr5,tY hk',Int.toNat_natCast,List.getElem?_eq_getElem hk']
  rw[Yh,getD_lt hk]
  rfl
 |none=>
  have ha:(Dv v).2.2.2.2.length<137438953472:=by show (Dt.L v 4).length<_;omega
  simp only[oIn,dn1,cond_false,er,Option.bind_some,hr5,cond_true,R5 ha]
  rfl
end Go.Proofs.YtmecfjhdnbgfeaaGreatDoor
namespace Go.Proofs.YtmecfjhdnbgfeaaGreatDoor
open Go.Am
theorem akR (m:Nat) (self5:List Dt→List Dt→Option Bool) (self:Dt→Dt→Option Bool) (d:Dt) (hl:(Dt.L d 4).length<1000000000000) (hs:∀f∈Dt.L d 4,self (Dt.fld f 1) (Dt.fld f 1)=some true) (hL:self5 (Dt.L d 3) (Dt.L d 3)=some true):∀(M i:Nat),i≤(Dt.L d 4).length→(Dt.L d 4).length-i<M→jV m self5 self M ((Dt.L d 4).length:Int) (i:Int) d d=some true
 |0,i,_,h=>by omega
 |M+1,i,hi,h=>by
  simp only[jV,dlt]
  by_cases hlt:i<(Dt.L d 4).length
  ·simp only[hlt,decide_true,cond_true,rW,aC hlt,Option.bind_some,beq_self_eq_true,Bool.not_true,cond_false,hs _ (List.getElem_mem hlt),aM (show i<9223372036854775807 by omega)]
   exact akR m self5 self d hl hs hL M (i+1) (by omega) (by omega)
  ·simp only[hlt,decide_false,cond_false,hL,Option.bind_some]
theorem aeF (m:Nat) (self:Dt→Dt→Option Bool) (l:List Dt) (hl:l.length<1000000000000) (hs:∀e∈l,self e e=some true):∀(M i:Nat),i≤l.length→l.length-i<M→jB m self M l l (l.length:Int) (i:Int)=some true
 |0,i,_,h=>by omega
 |M+1,i,hi,h=>by
  simp only[jB,dlt]
  by_cases hlt:i<l.length
  ·simp only[hlt,decide_true,cond_true,aC hlt,Option.bind_some,Bool.not_true,cond_false,hs _ (List.getElem_mem hlt),aM (show i<9223372036854775807 by omega)]
   exact aeF m self l hl hs M (i+1) (by omega) (by omega)
  ·simp only[hlt,decide_false,cond_false]
theorem Vl (m:Nat) (l:List Dt) (hl:l.length≤m) (hl2:l.length<1000000000000) (hs:∀e∈l,bH m e e=some true):aZ (m+1) l l=some true:=by
 show (bif ((((l.length:Nat):Int) !=((l.length:Nat):Int)):Bool) then some false else wm m (bH m) l l)=_
 rw[bne_self_eq_false]
 exact aeF m (bH m) l hl2 hs (m+1) 0 (Nat.zero_le _) (by omega)
theorem Lf:∀(N:Nat) (d:Dt),d.bulk≤N→N<1000000000000→∀m,2*N≤m→bH (m+1) d d=some true
 |0,d,h,_,_,_=>by have:=nA d;omega
 |N+1,d,h,hN,m,hm=>by
  obtain⟨m,rfl⟩:∃k,m=k+2:=⟨m-2,by omega⟩
  have h3:=fI d 3
  have h4:=fI d 4
  have hL:=Vl (m+1) (Dt.L d 3) (by omega) (by omega) fun e he=>Lf N e (by have:=nK he;omega) (by omega) m (by omega)
  have key:=akR (m+2) (aZ (m+2)) (bH (m+2)) d (by omega) (fun f hf=>Lf N (Dt.fld f 1) (by have:=nK hf;have:=mR f 1;omega) (by omega) (m+1) (by omega)) hL (m+3) 0 (Nat.zero_le _) (by omega)
  rw[bH]
  simp only[bne_self_eq_false,beq_self_eq_true,Bool.not_true,cond_false,mV]
  exact key
end Go.Proofs.YtmecfjhdnbgfeaaGreatDoor
namespace Go.Proofs.YtmecfjhdnbgfeaaGreatDoor
open Go.Am
theorem Qj (m:Nat) (self:Dt→Option Dt) (l:List Dt) (hl:l.length<9223372036854775807) (hs:∀e∈l,self e=some e) (z x3 x4:Dt) (x5 x6:Int) (x7:ByteArray):∀(M i:Nat),i≤l.length→l.length-i<M→
  jW m self M l (l.length:Int) (i:Int) x3 x4 x5 x6 x7 (l.take i++List.replicate (l.length-i) z)=xL m self x3 x4 x5 x6 x7 l
 |0,i,_,h=>by omega
 |M+1,i,hi,h=>by
  simp only[jW,dlt]
  by_cases hlt:i<l.length
  ·have hx:i<(l.take i++List.replicate (l.length-i) z).length:=by rw[E9 l z i hi];exact hlt
   simp only[hlt,decide_true,cond_true,xH,xG,aC hlt,Option.bind_some,hs _ (List.getElem_mem hlt),tY hx,Int.toNat_natCast,List.getElem?_eq_getElem hx,AU l z i hlt,aM (show i<9223372036854775807 by omega)]
   exact Qj m self l hl hs z x3 x4 x5 x6 x7 M (i+1) (by omega) (by omega)
  ·have e:i=l.length:=by omega
   subst e
   simp
theorem Qk (m:Nat) (self:Dt→Option Dt) (l:List Dt) (hl:l.length<9223372036854775807) (hf:∀f∈l,∃s v,f= .agg [.str s,v]∧self v=some v) (z x3:Dt) (x4 x5:Int) (x6:ByteArray) (x7:List Dt):∀(M i:Nat),i≤l.length→l.length-i<M→
  mW m self M l (l.length:Int) (i:Int) x3 x4 x5 x6 x7 (l.take i++List.replicate (l.length-i) z)=some (.agg [.int x4,.int x5,.str x6,.lst x7,.lst l])
 |0,i,_,h=>by omega
 |M+1,i,hi,h=>by
  simp only[mW,dlt]
  by_cases hlt:i<l.length
  ·have hx:i<(l.take i++List.replicate (l.length-i) z).length:=by rw[E9 l z i hi];exact hlt
   obtain⟨s,v,e1,e2⟩:=hf _ (List.getElem_mem hlt)
   have e3:Dt.agg [.str (Dt.S l[i] 0),v]=l[i]:=by rw[e1];rfl
   have e4:Dt.fld l[i] 1=v:=by rw[e1];rfl
   simp only[hlt,decide_true,cond_true,xJ,xI,aC hlt,Option.bind_some,e4,e2,e3,tY hx,Int.toNat_natCast,List.getElem?_eq_getElem hx,AU l z i hlt,aM (show i<9223372036854775807 by omega)]
   exact Qk m self l hl hf z x3 x4 x5 x6 x7 M (i+1) (by omega) (by omega)
  ·have e:i=l.length:=by omega
   subst e
   simp[xK]
theorem Lg (m:Nat) (self:Dt→Option Dt) (l:List Dt) (hl:l.length<9223372036854775807) (hf:∀f∈l,∃s v,f= .agg [.str s,v]∧self v=some v) (z x3:Dt) (x4 x5:Int) (x6:ByteArray) (x7:List Dt):∀(M i:Nat),i≤l.length→l.length-i<M→
  j6 m self M l (l.length:Int) (i:Int) x3 x4 x5 x6 x7 (l.take i++List.replicate (l.length-i) z)=some (.agg [.int x4,.int x5,.str x6,.lst x7,.lst l])
 |0,i,_,h=>by omega
 |M+1,i,hi,h=>by
  simp only[j6,dlt]
  by_cases hlt:i<l.length
  ·have hx:i<(l.take i++List.replicate (l.length-i) z).length:=by rw[E9 l z i hi];exact hlt
   obtain⟨s,v,e1,e2⟩:=hf _ (List.getElem_mem hlt)
   have e3:Dt.agg [.str (Dt.S l[i] 0),v]=l[i]:=by rw[e1];rfl
   have e4:Dt.fld l[i] 1=v:=by rw[e1];rfl
   simp only[hlt,decide_true,cond_true,uK,uJ,aC hlt,Option.bind_some,e4,e2,e3,tY hx,Int.toNat_natCast,List.getElem?_eq_getElem hx,AU l z i hlt,aM (show i<9223372036854775807 by omega)]
   exact Lg m self l hl hf z x3 x4 x5 x6 x7 M (i+1) (by omega) (by omega)
  ·have e:i=l.length:=by omega
   subst e
   simp[uL]
theorem Gv:∀(N:Nat) (d:Dt),d.bulk≤N→N≤137438953472→WV d→∀m,N≤m→aJ (m+1) d=some d
 |0,d,h,_,_,_,_=>by have:=fH d;omega
 |N +   1,d,h,hN,hw,m,hm=>by
  cases hw with
  | @mk   k i t l ds hl hd=>
    rw[mO] at h
    obtain⟨m,rfl⟩:∃q,m=q+1:=⟨m-1,by omega⟩
    have hself:∀e∈l,aJ (m+1) e=some e:=fun e he=>Gv N e (by have:=lC he;omega) (by omega) (hl e he) m (by omega)
    have hfld:∀f∈ds,∃s v,f= .agg [.str s,v]∧aJ (m+1) v=some v:=fun f hf=>by
        have hb:=lC hf
        cases hd f hf with
        | @mk s v hv=>
          rw[vo] at hb
          exact⟨s,v,rfl,Gv N v (by omega) (by omega) hv m (by omega)⟩
    have hl1:=jh l
    have hd1:=jh ds
    show (bif (decide ((0:Int)<((l.length:Nat):Int))) then _ else _)=_
    have key6:=fun(x3:Dt) (x7:List Dt) (z:Dt)=>Qk (m+1) (aJ (m+1)) ds (by omega) hfld z x3 k i t x7 (m+2) 0 (by omega) (by omega)
    have key13:=fun(x3:Dt) (x7:List Dt) (z:Dt)=>Lg (m+1) (aJ (m+1)) ds (by omega) hfld z x3 k i t x7 (m+2) 0 (by omega) (by omega)
    simp only[List.take_zero,List.nil_append,Nat.sub_zero] at key6 key13
    by_cases h0:0<l.length
    ·   have e0:decide ((0:Int)<((l.length:Nat):Int))=true:=by simp;omega
        have key:=fun(x3 x4:Dt) (z:Dt)=>Qj (m+1) (aJ (m+1)) l (by omega) hself z x3 x4 k i t (m+2) 0 (by omega) (by omega)
        simp only[List.take_zero,List.nil_append,Nat.sub_zero] at key
        rw[e0]
        simp only[cond_true]
        show Option.bind (mkL ((l.length:Nat):Int) ((l.length:Nat):Int) _) _=_
        rw[wI (by omega),Option.bind_some]
        show jW (m+1) (aJ (m+1)) (m+2) l ((l.length:Nat):Int) ((0:Nat):Int) _ _ k i t _=_
        rw[key]
        show (bif (decide ((0:Int)<((ds.length:Nat):Int))) then _ else _)=_
        by_cases h1:0<ds.length
        · have e1:decide ((0:Int)<((ds.length:Nat):Int))=true:=by simp;omega
          rw[e1]
          simp only[cond_true]
          show Option.bind (mkL ((ds.length:Nat):Int) ((ds.length:Nat):Int) _) _=_
          rw[wI (by omega),Option.bind_some]
          exact key6 _ _ _
        · have e1:decide ((0:Int)<((ds.length:Nat):Int))=false:=by rw[decide_eq_false_iff_not];omega
          have e2:ds=[]:=List.length_eq_zero_iff.1 (by omega)
          subst e2
          rfl
    ·   have e0:decide ((0:Int)<((l.length:Nat):Int))=false:=by rw[decide_eq_false_iff_not];omega
        have e3:l=[]:=List.length_eq_zero_iff.1 (by omega)
        subst e3
        show (bif (decide ((0:Int)<((ds.length:Nat):Int))) then _ else _)=_
        by_cases h1:0<ds.length
        · have e1:decide ((0:Int)<((ds.length:Nat):Int))=true:=by simp;omega
          rw[e1]
          simp only[cond_true]
          show Option.bind (mkL ((ds.length:Nat):Int) ((ds.length:Nat):Int) _) _=_
          rw[wI (by omega),Option.bind_some]
          exact key13 _ _ _
        · have e2:ds=[]:=List.length_eq_zero_iff.1 (by omega)
          subst e2
          rfl
end Go.Proofs.YtmecfjhdnbgfeaaGreatDoor
