/- path.put and path.drop: what they compute; what holds before and behind.
The functions that path.put and path.drop call,as their walks want them.
path.put:its walk,where it does not append. -/
import Derived.Test.YtameompfdamfpaaGreatDoorOUcl
import Derived.Test.YtameompfdamfpaaGreatDoorPFx
import Derived.Deep.RegionHeld3
set_option linter.unusedVariables false
set_option linter.unusedSimpArgs false
namespace Go.Proofs.YtameompfdamfpaaGreatDoor
open Go.RowKit Go.Am
noncomputable def fldI (l:List Dt) (s:ByteArray):Int:=(P1.path_field (l.length+1) l s).getD (-1)
noncomputable def numV (s:ByteArray):Int×Bool:=(P1.path_Number 7 s).getD (0,false)
def mkV (d:Dt) (l fs:List Dt):Dt:= .agg [.int (Dt.I d 0),.int (Dt.I d 1),.str (Dt.S d 2),.lst l,.lst fs]
def nullD:Dt:= .agg [.int 2,.int 0,.str ⟨#[]⟩,.lst [],.lst []]
noncomputable def putD:List Dt→Dt→Dt→Dt×Bool
 | [],_,x=>(x,true)
 |s::ps,d,x=>
  if Dt.I d 0=5 then
   (if 0≤fldI (Dt.L d 4) s.toStr then(mkV d (Dt.L d 3) ((Dt.L d 4).set (fldI (Dt.L d 4) s.toStr).toNat (.agg [.str (Dt.S ((Dt.L d 4).getD (fldI (Dt.L d 4) s.toStr).toNat (.int 0)) 0),(putD ps (Dt.fld ((Dt.L d 4).getD (fldI (Dt.L d 4) s.toStr).toNat (.int 0)) 1) x).1])),(putD ps (Dt.fld ((Dt.L d 4).getD (fldI (Dt.L d 4) s.toStr).toNat (.int 0)) 1) x).2)
   else(d,false))
  else if Dt.I d 0=6 then
   (if(numV s.toStr).2 then
    (if(numV s.toStr).1.toNat<(Dt.L d 3).length then(mkV d ((Dt.L d 3).set (numV s.toStr).1.toNat (putD ps ((Dt.L d 3).getD (numV s.toStr).1.toNat (.int 0)) x).1) (Dt.L d 4),(putD ps ((Dt.L d 3).getD (numV s.toStr).1.toNat (.int 0)) x).2)
    else(d,false))
   else(d,false))
  else(d,false)
noncomputable def fol:List Dt→Dt→Bool
 | [],_=>true
 |s::ps,d=>
  if Dt.I d 0=5 then decide (0≤fldI (Dt.L d 4) s.toStr)&&fol ps (Dt.fld ((Dt.L d 4).getD (fldI (Dt.L d 4) s.toStr).toNat (.int 0)) 1)
  else if Dt.I d 0=6 then(numV s.toStr).2&&decide ((numV s.toStr).1.toNat<(Dt.L d 3).length)&&fol ps ((Dt.L d 3).getD (numV s.toStr).1.toNat (.int 0))
  else false
noncomputable def dropD:List Dt→Dt→Dt
 | [],d=>d
 |s::ps,d=>
  if Dt.I d 0=5 then
   (if 0≤fldI (Dt.L d 4) s.toStr then
    (if ps.isEmpty then mkV d (Dt.L d 3) ((Dt.L d 4).eraseIdx (fldI (Dt.L d 4) s.toStr).toNat)
    else mkV d (Dt.L d 3) ((Dt.L d 4).set (fldI (Dt.L d 4) s.toStr).toNat (.agg [.str (Dt.S ((Dt.L d 4).getD (fldI (Dt.L d 4) s.toStr).toNat (.int 0)) 0),dropD ps (Dt.fld ((Dt.L d 4).getD (fldI (Dt.L d 4) s.toStr).toNat (.int 0)) 1)])))
   else d)
  else if Dt.I d 0=6 then
   (if(numV s.toStr).2 then
    (if(numV s.toStr).1.toNat<(Dt.L d 3).length then
      (if ps.isEmpty then mkV d ((Dt.L d 3).set (numV s.toStr).1.toNat nullD) (Dt.L d 4)
      else mkV d ((Dt.L d 3).set (numV s.toStr).1.toNat (dropD ps ((Dt.L d 3).getD (numV s.toStr).1.toNat (.int 0)))) (Dt.L d 4))
    else d)
   else d)
  else d
structure PutC (w:World) (b o lo hi:Nat) (arr:Array Value) (T:TypeId) (d:Dt) (cs:List Value) (ok:Nat→Prop):Prop where
 hb:w.heap[b]? =some (.cells arr T (0,0))
 ho:o+5≤arr.size
 hc:∀j,j<5→arr[o+j]? =cs[j]?
 hrt:RT Tryz.prog w lo hi 33 d cs
 hhi:hi≤w.heap.size
 hbo:b<lo∨hi≤b
 hok:∀c,ok c→c<w.heap.size∧c≠b∧(c<lo∨hi≤c)
 hbk:d.bulk≤137438900000
def OkP (ok:Nat→Prop) (w w':World) (b lo hi c:Nat):Prop:=c<w'.heap.size∧c≠b∧(c<w.heap.size→ok c∨(lo≤c∧c<hi))
structure PutR (w w':World) (b o lo hi:Nat) (arr:Array Value) (T:TypeId) (ok:Nat→Prop) (d:Dt):Prop where
 below:BelowX (fun c=>c=b∨(lo≤c∧c<hi)) w w'
 res:∃(arr':Array Value) (cs:List Value),w'.heap[b]? =some (.cells arr' T (0,0))∧arr'.size=arr.size∧(∀t,t<o∨o+5≤t→arr'[t]? =arr[t]?)∧cs.length=5∧(∀j,j<5→arr'[o+j]? =cs[j]?)∧RD Tryz.prog (OkP ok w w' b lo hi) w' 33 d cs
section
variable {w W w':World} {b o lo hi:Nat} {arr:Array Value} {T:TypeId} {d x:Dt} {cs:List Value} {ok:Nat→Prop}
theorem PutC.lt (h:PutC w b o lo hi arr T d cs ok):b<w.heap.size:=(Array.getElem?_eq_some_iff.1 h.hb).1
theorem PutC.keep (h:PutC w b o lo hi arr T d cs ok) (hw:Below w.heap.size w W):PutC W b o lo hi arr T d cs ok:=
 ⟨(hw.block b h.lt).trans h.hb,h.ho,h.hc,h.hrt.frame fun c _ hc=>hw.block c (Nat.lt_of_lt_of_le hc h.hhi),Nat.le_trans h.hhi hw.size,h.hbo,fun c hc=>⟨Nat.lt_of_lt_of_le (h.hok c hc).1 hw.size,(h.hok c hc).2⟩,h.hbk⟩
theorem PutC.cell (h:PutC w b o lo hi arr T d cs ok) {j:Nat} {v:Value} (hj:j<5) (hv:cs[j]? =some v):w.cell? ⟨b,o+j,none⟩=some v:=(cell_at h.hb).trans ((h.hc j hj).trans hv)
theorem PutC.froz (h:PutC w b o lo hi arr T d cs ok) (t:Nat):w.frozen? ⟨b,t,none⟩=false:=froz_at h.hb
theorem PutC.same (h:PutC w b o lo hi arr T d cs ok) (hw:Below w.heap.size w w'):PutR w w' b o lo hi arr T ok d:=by
 obtain⟨fv,ff,hT⟩:=tV
 obtain⟨k,n,s,l,fs,c3,c4,a,b1,c,rfl,rfl,_⟩:=h.hrt.v_inv hT
 refine⟨⟨hw.os,hw.tape,hw.output,hw.size,fun c hc _=>hw.block c hc⟩,arr,_,(hw.block b h.lt).trans h.hb,rfl,fun t _=>rfl,rfl,h.hc,?_⟩
 refine(h.keep hw).hrt.toRD fun c hc1 hc2=>⟨?_,?_,fun _=> .inr ⟨hc1,hc2⟩⟩
 ·have:=hw.size;have:=h.hhi;omega
 ·intro e;subst e;rcases h.hbo with h1|h1<;>omega
theorem PutR.from (h:PutR W w' b o lo hi arr T ok x) (hw:Below w.heap.size w W) (hb:b<w.heap.size) (hhi:hi≤w.heap.size):PutR w w' b o lo hi arr T ok x:=by
 obtain⟨arr',cs,h1,h2,h3,h4,h5,h6⟩:=h.res
 refine⟨⟨h.below.os.trans hw.os,h.below.tape.trans hw.tape,h.below.output.trans hw.output,Nat.le_trans hw.size h.below.size,fun c hc hx=>(h.below.block c (Nat.lt_of_lt_of_le hc hw.size) hx).trans (hw.block c hc)⟩,arr',cs,h1,h2,h3,h4,h5,h6.mono fun c hc=>⟨⟨hc.1,hc.2.1,fun hlt=>hc.2.2 (Nat.lt_of_lt_of_le hlt hw.size)⟩,rfl⟩⟩
theorem mkV_eq (k n:Int) (s:ByteArray) (l fs l' fs':List Dt):mkV (.agg [.int k,.int n,.str s,.lst l,.lst fs]) l' fs'= .agg [.int k,.int n,.str s,.lst l',.lst fs']:=rfl
theorem PutC.field {k n:Int} {s:ByteArray} {l fs:List Dt} {c3 c4:Value} (h:PutC w b o lo hi arr T (.agg [.int k,.int n,.str s,.lst l,.lst fs]) [.int .i64 k,.int .i64 n,.string s,c3,c4] ok) {i:Nat} (hix:i<fs.length):
  ∃(B a a':Nat) (brr:Array Value) (c0:List Value),c4= .slice (some ⟨B,0,none⟩) fs.length fs.length∧(lo≤B∧B<a∧a≤a'∧a'≤hi)∧PutC w B (i*6+1) a a' brr 57 (Dt.fld (fs.getD i (.int 0)) 1) c0 ok∧
   ∀(W w':World) (x:Dt),Below w.heap.size w W→PutR W w' B (i*6+1) a a' brr 57 ok x→PutR w w' b o lo hi arr T ok (.agg [.int k,.int n,.str s,.lst l,.lst (fs.set i (.agg [.str (Dt.S (fs.getD i (.int 0)) 0),x]))]):=by
 obtain⟨fv,ff,hT⟩:=tV
 obtain⟨_,_,_,_,_,_,_,a1,a2,a3,e1,e2,p1,p2,p3,p4,hl,hd,hk,hn,hs⟩:=h.hrt.v_inv hT
 cases e1
 cases e2
 have hbk:=h.hbk
 have hxi:=List.getElem?_eq_getElem hix
 obtain⟨B,a,a',brr,hz,hB,hsz,q1,q2,q3,q4,hlen,hel,hclose⟩:=hd.hole hT.d hxi
 rw[hT.cf] at hsz hel
 obtain⟨nm,y,c0,hy,hseg,hc0,hnm,hrt⟩:=hel.f_inv hT
 have hget:fs.getD i (.int 0)=Dt.agg [Dt.str nm,y]:=by rw[List.getD,hxi,hy];rfl
 have hmul:(i+1)*6≤fs.length*6:=Nat.mul_le_mul_right _ hix
 have hbB:b≠B:=fun e=>by subst e;rcases h.hbo with h1|h1<;>omega
 have hcell:∀j,j<6→brr[i*6+j]? =(Value.string nm::c0)[j]? :=fun j hj=>by
  rw[←hseg,List.getElem?_take,if_pos hj,List.getElem?_drop,Array.getElem?_toList]
 have hby:y.bulk≤137438900000:=by
  have:=bulk_in (List.getElem_mem hix)
  rw[hy] at this
  simp only[Dt.bulk,Dt.bulkL] at this hbk
  omega
 refine⟨B,a,a',brr,c0,hz,⟨by omega,q2,q3,by omega⟩,⟨hB,by omega,fun j hj=>?_,by rw[hget];exact hrt,by have:=h.hhi;omega,.inl q2,fun c hc=>?_,by rw[hget];exact hby⟩,?_⟩
 ·rw[show i*6+1+j=i*6+(j+1) by omega,hcell (j+1) (by omega),List.getElem?_cons_succ]
 ·obtain⟨r1,r2,r3⟩:=h.hok c hc
  exact⟨r1,by omega,by omega⟩
 ·intro W w' x hw hR
  have hBl:B<w.heap.size:=(Array.getElem?_eq_some_iff.1 hB).1
  have hhi:=h.hhi
  have hbo:=h.hbo
  have hbl:=h.lt
  have hR':=hR.from hw hBl (by omega)
  obtain⟨brr',cs',hB',hz',hout,hl',hin,hrd⟩:=hR'.res
  have hbel:=hR'.below
  have hsz':=hbel.size
  have hok2:∀c,OkP ok w w' B a a' c→OkP ok w w' b lo hi c:=fun c hc=>⟨hc.1,(by
   rcases Nat.lt_or_ge c w.heap.size with hlt|hge
   ·    rcases hc.2.2 hlt with h1|h1
        ·exact(h.hok c h1).2.1
        ·omega
   ·omega),fun hlt=>by
   rcases hc.2.2 hlt with h1|h1
   ·exact .inl h1
   ·exact .inr (by omega)⟩
  have hseg':(brr'.toList.drop (i*6)).take 6=Value.string nm::cs':=by
   apply List.ext_getElem?
   intro t
   rw[List.getElem?_take]
   split
   ·    rename_i ht
        rw[List.getElem?_drop,Array.getElem?_toList]
        cases t with
        |zero=>rw[hout _ (.inl (by omega))];exact hcell 0 (by omega)
        |succ t=>rw[show i*6+(t+1)=i*6+1+t by omega,hin t (by omega),List.getElem?_cons_succ]
   ·    rename_i ht
        rw[List.getElem?_eq_none (by rw[List.length_cons,hl'];omega)]
  have hblk:∀k,a1≤k→k<a3→k≠B→(k<a∨a'≤k)→w'.heap[k]? =w.heap[k]? :=fun k h1 h2 h3 h4=>hbel.block k (by omega) (by omega)
  have hokk:∀k,a1≤k→k<a3→OkP ok w w' b lo hi k:=fun k h1 h2=>⟨by omega,by omega,fun _=> .inr (by omega)⟩
  have hdoc:=hclose w' (.agg [.str nm,x]) (OkP ok w w' b lo hi) brr' hB' (by rw[hz']) (fun t ht=>hout t (by rw[hT.cf] at ht;omega)) (by rw[hT.cf,hseg'];exact RD.f_mk hT hl' hnm (hrd.mono fun c hc=>⟨hok2 c hc,rfl⟩)) (fun k h1 h2 h3 h4=>hblk k (by omega) h2 h3 h4) (fun k h1 h2=>hokk k (by omega) h2)
  have hlst:=(hl.frame (w':=w') fun k h1 h2=>hblk k h1 (by omega) (by omega) (by omega)).toRD (ok:=OkP ok w w' b lo hi) fun k h1 h2=>hokk k h1 (by omega)
  have hS:Dt.S (Dt.agg [Dt.str nm,y]) 0=nm:=rfl
  rw[hget,hS]
  exact⟨⟨hbel.os,hbel.tape,hbel.output,hbel.size,fun c hc hx=>hbel.block c hc (by omega)⟩,arr,_,(hbel.block b hbl (by omega)).trans h.hb,rfl,fun t _=>rfl,rfl,h.hc,RD.v_mk hT hlst hdoc hk hn hs⟩
theorem PutC.elem {k n:Int} {s:ByteArray} {l fs:List Dt} {c3 c4:Value} (h:PutC w b o lo hi arr T (.agg [.int k,.int n,.str s,.lst l,.lst fs]) [.int .i64 k,.int .i64 n,.string s,c3,c4] ok) {i:Nat} (hix:i<l.length):
  ∃(B a a':Nat) (brr:Array Value) (c0:List Value),c3= .slice (some ⟨B,0,none⟩) l.length l.length∧(lo≤B∧B<a∧a≤a'∧a'≤hi)∧PutC w B (i*5) a a' brr 33 (l.getD i (.int 0)) c0 ok∧
   ∀(W w':World) (x:Dt),Below w.heap.size w W→PutR W w' B (i*5) a a' brr 33 ok x→PutR w w' b o lo hi arr T ok (.agg [.int k,.int n,.str s,.lst (l.set i x),.lst fs]):=by
 obtain⟨fv,ff,hT⟩:=tV
 obtain⟨_,_,_,_,_,_,_,a1,a2,a3,e1,e2,p1,p2,p3,p4,hl,hd,hk,hn,hs⟩:=h.hrt.v_inv hT
 cases e1
 cases e2
 have hbk:=h.hbk
 have hxi:=List.getElem?_eq_getElem hix
 obtain⟨B,a,a',brr,hz,hB,hsz,q1,q2,q3,q4,hlen,hrt,hclose⟩:=hl.hole hT.l hxi
 rw[hT.cv] at hsz hrt
 have hget:l.getD i (.int 0)=l[i]:=by rw[List.getD,hxi];rfl
 have hmul:(i+1)*5≤l.length*5:=Nat.mul_le_mul_right _ hix
 have hbB:b≠B:=fun e=>by subst e;rcases h.hbo with h1|h1<;>omega
 have hby:l[i].bulk≤137438900000:=by
  have:=bulk_in (List.getElem_mem hix)
  simp only[Dt.bulk,Dt.bulkL] at hbk
  omega
 refine⟨B,a,a',brr,_,hz,⟨by omega,q2,q3,by omega⟩,⟨hB,by omega,fun j hj=>?_,by rw[hget];exact hrt,by have:=h.hhi;omega,.inl q2,fun c hc=>?_,by rw[hget];exact hby⟩,?_⟩
 ·rw[List.getElem?_take,if_pos hj,List.getElem?_drop,Array.getElem?_toList]
 ·obtain⟨r1,r2,r3⟩:=h.hok c hc
  exact⟨r1,by omega,by omega⟩
 ·intro W w' x hw hR
  have hBl:B<w.heap.size:=(Array.getElem?_eq_some_iff.1 hB).1
  have hhi:=h.hhi
  have hbo:=h.hbo
  have hbl:=h.lt
  have hR':=hR.from hw hBl (by omega)
  obtain⟨brr',cs',hB',hz',hout,hl',hin,hrd⟩:=hR'.res
  have hbel:=hR'.below
  have hsz':=hbel.size
  have hok2:∀c,OkP ok w w' B a a' c→OkP ok w w' b lo hi c:=fun c hc=>⟨hc.1,(by
   rcases Nat.lt_or_ge c w.heap.size with hlt|hge
   ·    rcases hc.2.2 hlt with h1|h1
        ·exact(h.hok c h1).2.1
        ·omega
   ·omega),fun hlt=>by
   rcases hc.2.2 hlt with h1|h1
   ·exact .inl h1
   ·exact .inr (by omega)⟩
  have hseg':(brr'.toList.drop (i*5)).take 5=cs':=by
   apply List.ext_getElem?
   intro t
   rw[List.getElem?_take]
   split
   ·    rename_i ht
        rw[List.getElem?_drop,Array.getElem?_toList]
        exact hin t ht
   ·    rename_i ht
        rw[List.getElem?_eq_none (by omega)]
  have hblk:∀k,a1≤k→k<a3→k≠B→(k<a∨a'≤k)→w'.heap[k]? =w.heap[k]? :=fun k h1 h2 h3 h4=>hbel.block k (by omega) (by omega)
  have hokk:∀k,a1≤k→k<a3→OkP ok w w' b lo hi k:=fun k h1 h2=>⟨by omega,by omega,fun _=> .inr (by omega)⟩
  have hlst:=hclose w' x (OkP ok w w' b lo hi) brr' hB' (by rw[hz']) (fun t ht=>hout t (by rw[hT.cv] at ht;omega)) (by rw[hT.cv,hseg'];exact hrd.mono fun c hc=>⟨hok2 c hc,rfl⟩) (fun k h1 h2 h3 h4=>hblk k h1 (by omega) h3 h4) (fun k h1 h2=>hokk k h1 (by omega))
  have hdoc:=(hd.frame (w':=w') fun k h1 h2=>hblk k (by omega) h2 (by omega) (by omega)).toRD (ok:=OkP ok w w' b lo hi) fun k h1 h2=>hokk k (by omega) h2
  exact⟨⟨hbel.os,hbel.tape,hbel.output,hbel.size,fun c hc hx=>hbel.block c hc (by omega)⟩,arr,_,(hbel.block b hbl (by omega)).trans h.hb,rfl,fun t _=>rfl,rfl,h.hc,RD.v_mk hT hlst hdoc hk hn hs⟩
end
end Go.Proofs.YtameompfdamfpaaGreatDoor
namespace Go.Proofs.YtameompfdamfpaaGreatDoor
open Go.RowKit Go.Am
theorem p_wrap64 {n:Int} (h1: -9223372036854775808≤n) (h2:n≤9223372036854775807):IntKind.wrap .i64 n=n:=by rw[IntKind.wrap_i64];omega
theorem p_wrap8 {n:Int} (h1:0≤n) (h2:n<256):IntKind.wrap .u8 n=n:=by
 unfold IntKind.wrap
 simp only[IntKind.bits,IntKind.signed,Bool.false_and,Bool.false_eq_true,if_false]
 omega
theorem p_wrapS {i:Nat} (h:i<9223372036854775807):IntKind.wrap IntKind.i64 ((i:Int)+1)=((i+1:Nat):Int):=by rw[p_wrap64 (by omega) (by omega)];omega
theorem p_idx {l:List Dt} {i:Nat} (h:i<l.length):idx l (i:Int)=some l[i]:=by
 unfold idx
 simp[h]
theorem p_idxS {s:ByteArray} {i:Nat} (h:i<s.size):idxS s (i:Int)=some ((s[i]).toNat:Int):=by
 unfold idxS
 simp[h]
theorem p_dlt {i j:Nat}:decide ((i:Int)<(j:Int))=decide (i<j):=by simp
theorem fld_l (m:Nat) (l:List Dt) (s:ByteArray) (hl:l.length<9223372036854775807):∀(M i:Nat),i≤l.length→l.length-i<M→∃r,P1.path_field_l1 m M l s (l.length:Int) (i:Int)=some r∧(r= -1∨∃k:Nat,r=(k:Int)∧k<l.length)
 |0,i,_,h=>by omega
 |M+    1,i,hi,h=>by
  rw[P1.path_field_l1,p_dlt]
  by_cases hlt:i<l.length
  ·rw[decide_eq_true hlt,cond_true,P1.path_field_j2,p_idx hlt,Option.bind_some]
   cases (ByteArray.toList (Dt.S l[i] 0)==ByteArray.toList s)
   ·    rw[cond_false,P1.path_field_j3,p_wrapS (by omega)]
        exact fld_l m l s hl M (i+1) (by omega) (by omega)
   ·exact⟨_,rfl,.inr ⟨i,rfl,hlt⟩⟩
  ·rw[decide_eq_false hlt]
   exact⟨_,rfl,.inl rfl⟩
theorem fld_some (l:List Dt) (s:ByteArray) (hl:l.length<9223372036854775807):P1.path_field (l.length+1) l s=some (fldI l s)∧(fldI l s= -1∨∃k:Nat,fldI l s=(k:Int)∧k<l.length):=by
 obtain⟨r,h1,h2⟩:=fld_l l.length l s hl (l.length+1) 0 (Nat.zero_le _) (by omega)
 have h:P1.path_field (l.length+1) l s=some r:=h1
 have e:fldI l s=r:=by unfold fldI;rw[h];rfl
 rw[e]
 exact⟨h,h2⟩
theorem num_l (m:Nat) (s:ByteArray) (hs:s.size≤4):∀(M i n:Nat),i≤s.size→s.size-i<M→n<10^i→∃r,P1.path_Number_l3 m M s (n:Int) (s.size:Int) (i:Int)=some r∧(r.2=true→∃k:Nat,r.1=(k:Int)∧k<10000)
 |0,i,_,_,h,_=>by omega
 |M+    1,i,n,hi,h,hn=>by
  have hp:10^i≤10^4:=Nat.pow_le_pow_right (by omega) (by omega)
  rw[P1.path_Number_l3,p_dlt]
  by_cases hlt:i<s.size
  ·have hc:s[i].toNat<256:=s[i].toNat_lt
   have hbad:∀b,b=true→∃r,P1.path_Number_j5 m (P1.path_Number_l3 m M) s (n:Int) (i:Int) (s.size:Int) (i:Int) b=some r∧(r.2=true→∃k:Nat,r.1=(k:Int)∧k<10000):=fun b hb=>by
        subst hb
        exact⟨_,rfl,fun h=>by cases h⟩
   rw[decide_eq_true hlt,cond_true,P1.path_Number_j4,p_idxS hlt,Option.bind_some]
   by_cases h48:s[i].toNat<48
   ·    rw[decide_eq_true (show ((s[i].toNat:Nat):Int)<48 by omega),cond_true]
        exact hbad true rfl
   ·    rw[decide_eq_false (show ¬((s[i].toNat:Nat):Int)<48 by omega),cond_false,Option.bind_some]
        by_cases h57:57<s[i].toNat
        ·exact hbad _ (decide_eq_true (show (57:Int)<((s[i].toNat:Nat):Int) by omega))
        ·have hp1:10^(i+1)≤10^4:=Nat.pow_le_pow_right (by omega) (by omega)
         have e1:(10:Nat)^(i+1)=10*10^i:=by rw[Nat.pow_succ];omega
         have w1:IntKind.wrap IntKind.i64 ((IntKind.wrap IntKind.i64 ((10:Int)*(n:Int)))+(IntKind.wrap IntKind.i64 (IntKind.wrap IntKind.u8 (((s[i].toNat:Nat):Int)-(48:Int)))))=((10*n+(s[i].toNat-48):Nat):Int):=by
           rw[p_wrap8 (by omega) (by omega),p_wrap64 (n:=(10:Int)*(n:Int)) (by omega) (by omega),p_wrap64 (n:=((s[i].toNat:Nat):Int)-48) (by omega) (by omega),p_wrap64 (by omega) (by omega)]
           omega
         rw[decide_eq_false (show ¬(57:Int)<((s[i].toNat:Nat):Int) by omega),P1.path_Number_j5,cond_false,P1.path_Number_j6,p_idxS hlt,Option.bind_some,w1,P1.path_Number_j7,p_wrapS (by omega)]
         exact num_l m s hs M (i+1) _ (by omega) (by omega) (by omega)
  ·rw[decide_eq_false hlt]
   exact⟨_,rfl,fun _=>⟨n,rfl,by omega⟩⟩
theorem num_some' (s:ByteArray):P1.path_Number 7 s=some (numV s)∧((numV s).2=true→∃k:Nat,(numV s).1=(k:Int)∧k<10000):=by
 suffices H:∃r,P1.path_Number 7 s=some r∧(r.2=true→∃k:Nat,r.1=(k:Int)∧k<10000) by
  obtain⟨r,h1,h2⟩:=H
  have e:numV s=r:=by unfold numV;rw[h1];rfl
  rw[e]
  exact⟨h1,h2⟩
 have bad:∀b,b=true→∃r,P1.path_Number_j0 6 s b=some r∧(r.2=true→∃k:Nat,r.1=(k:Int)∧k<10000):=fun b hb=>by
  subst hb
  exact⟨_,rfl,fun h=>by cases h⟩
 rw[P1.path_Number]
 by_cases h1:s.size<1
 ·rw[decide_eq_true (show ((s.size:Nat):Int)<1 by omega),cond_true]
  exact bad true rfl
 rw[decide_eq_false (show ¬((s.size:Nat):Int)<1 by omega),cond_false]
 by_cases h4:4<s.size
 ·rw[decide_eq_true (show (4:Int)<((s.size:Nat):Int) by omega),cond_true]
  exact bad true rfl
 rw[decide_eq_false (show ¬(4:Int)<((s.size:Nat):Int) by omega),cond_false]
 have hi:idxS s (0:Int)=some ((s[0]).toNat:Int):=p_idxS (i:=0) (by omega)
 rw[hi,Option.bind_some]
 have good:∃r,P1.path_Number_j0 6 s false=some r∧(r.2=true→∃k:Nat,r.1=(k:Int)∧k<10000):=num_l 6 s (by omega) 7 0 0 (Nat.zero_le _) (by omega) (by decide)
 cases (((s[0]).toNat:Int)==48)
 ·exact good
 ·rw[cond_true]
  cases decide ((1:Int)<((s.size:Nat):Int))
  ·exact good
  ·exact bad true rfl
theorem fx_call {P:Program} {f:FuncId} {args:List AV} {res:AV} (h:FX P f args [] res []) {ok:Nat→Prop} {w:World} {vs:List Value} (hok:∀b,ok b→b<w.heap.size) (ha:RVsX P ok w (fun _=>none) args vs) (ht:TabOK ok w):
  Calls P f vs.toArray w fun e w'=>∃v β',e= .returned v∧Below w.heap.size w w'∧RV P (fun b=>b<w'.heap.size∧(b<w.heap.size→ok b)) w' β' res v:=by
 have no:∀(β:Nat→Option Value) l b,¬owns [] β l b:=fun β l b h=>by obtain⟨h1,_⟩:=h;cases l<;>cases h1
 refine(h ok w (fun _=>none) vs (fun b hb=>⟨hok b hb,fun⟨l,hl⟩=>no _ _ _ hl⟩) (fun l=>by cases l<;>rfl) (fun l l' b h1=>(no _ _ _ h1).elim) ha ht).mono ?_
 rintro e w' ⟨v,β',rfl,hf,hr⟩
 have hb:Below w.heap.size w w':=⟨hf.below.os,hf.below.tape,hf.below.output,hf.below.size,fun b hb=>hf.below.block b hb fun⟨l,hl⟩=>no _ _ _ hl⟩
 refine⟨v,β',rfl,hb,hr.mono (fun b hb=>⟨⟨hb.1,fun hlt=>?_⟩,rfl⟩) (Ext.refl _)⟩
 rcases hb.2.1 hlt with h1| ⟨l,hl⟩
 ·exact h1
 ·exact(no _ _ _ hl).elim
theorem rv_dat1 {P:Program} {ok:Nat→Prop} {w:World} {β:Nat→Option Value} {T:TypeId} {d:Dt} {v:Value} (hT:aggT P T=false) (h:RD P ok w T d [v]):RV P ok w β (.dat T d) v:=⟨fun hi=>(by rw[show AV.isAgg P (.dat T d)=aggT P T from rfl,hT] at hi;cases hi),fun _=> .dat h⟩
theorem rv_datA {P:Program} {ok:Nat→Prop} {w:World} {β:Nat→Option Value} {T:TypeId} {d:Dt} {cs:List Value} (hT:aggT P T=true) (h:RD P ok w T d cs):RV P ok w β (.dat T d) (.agg cs.toArray):=⟨fun _=>⟨cs,rfl,.dat h⟩,fun hi=>(by rw[show AV.isAgg P (.dat T d)=aggT P T from rfl,hT] at hi;cases hi)⟩
theorem g9:aggT Tryz.prog 9=false:=by unfold aggT;rw[Tryz.underlying9]
theorem g23:aggT Tryz.prog 22=false:=by unfold aggT;rw[Tryz.underlying22]
theorem g34:aggT Tryz.prog 31=false:=by unfold aggT;rw[Tryz.underlying31]
theorem g36:aggT Tryz.prog 33=true:=by unfold aggT;rw[Tryz.underlying33]
theorem field_call {ok:Nat→Prop} {w:World} {fs:List Dt} {c4:Value} {s:ByteArray} (hok:∀b,ok b→b<w.heap.size) (ht:TabOK ok w) (hd:RD Tryz.prog ok w 31 (.lst fs) [c4]) (hl:fs.length<9223372036854775807) (hs:s.size≤maxLen):
  Calls Tryz.prog 138 #[c4,.string s] w fun e w'=>e= .returned (.int .i64 (fldI fs s))∧Below w.heap.size w w':=by
 have h:=fx_call (P1.path_field_fx fs.length (fun R=>P1.ct_ok _ R) fs s (fld_some fs s hl).1) hok (vs:=[c4,.string s]) (.cons (rv_dat1 g34 hd) (.cons (rv_dat1 g9 (.str Tryz.underlying9 hs)) .nil)) ht
 refine h.mono ?_
 rintro e w' ⟨v,β',rfl,hb,hr⟩
 obtain⟨_,rfl,_⟩:=RV.int Tryz.underlying3 hr
 exact⟨rfl,hb⟩
set_option maxRecDepth 100000 in
theorem number_call {ok:Nat→Prop} {w:World} {s:ByteArray} (hok:∀b,ok b→b<w.heap.size) (ht:TabOK ok w) (hs:s.size≤maxLen):
   Calls Tryz.prog 139 #[.string s] w fun e w'=>e= .returned (.tuple #[.int .i64 (numV s).1,.bool (numV s).2])∧Below w.heap.size w w':=by
 have h:=fx_call (P1.path_Number_fx 6 (fun R=>P1.ct_ok _ R) s (num_some' s).1) hok (vs:=[.string s]) (.cons (rv_dat1 g9 (.str Tryz.underlying9 hs)) .nil) ht
 refine h.mono ?_
 rintro e w' ⟨v,β',rfl,hb,hr⟩
 obtain⟨arr,rfl,hsz,hel⟩:=hr
 have h0:=hel 0 _ rfl
 have h1:=hel 1 _ rfl
 have z0:=RV.int Tryz.underlying3 (h0.toRV (by simp))
 have z1:=RV.bool Tryz.underlying4 (h1.toRV (by simp))
 refine⟨?_,hb⟩
 match arr,hsz with
 | ⟨[a0,a1]⟩,_=>
   have e0:a0=_:=z0.2.1
   have e1:a1=_:=z1.2
   rw[e0,e1];rfl
end Go.Proofs.YtameompfdamfpaaGreatDoor
namespace Go.Proofs.YtameompfdamfpaaGreatDoor
open Go.RowKit Go.Am
section
variable {w W w':World} {b o lo hi:Nat} {arr:Array Value} {T:TypeId} {d x:Dt} {cs cx:List Value} {ok:Nat→Prop}
theorem PutC.repl (h:PutC w b o lo hi arr T d cs ok) (hw:Below w.heap.size w W) (hx:RD Tryz.prog ok w 33 x cx) (hl:cx.length=5) (hw':w'=W.setCells b o cx):PutR w w' b o lo hi arr T ok x:=by
 have hW:=(hw.block b h.lt).trans h.hb
 obtain⟨arr',h1,h2,h3⟩:=scells_get cx o W hW
 obtain⟨z1,z2,z3,z4⟩:=scells_rest b cx o W
 have ho:=h.ho
 have hs:=hw.size
 have hoth:∀c,c≠b→w'.heap[c]? =W.heap[c]? :=fun c hc=>by rw[hw'];exact scells_other b cx o W hc
 refine⟨⟨by rw[hw',z1,hw.os],by rw[hw',z2,hw.tape],by rw[hw',z3,hw.output],by rw[hw',z4];exact hs,fun c hc hx=>(hoth c (fun e=>hx (.inl e))).trans (hw.block c hc)⟩,arr',cx,by rw[hw'];exact h1,h2,fun t ht=>?_,hl,fun j hj=>?_,hx.mono fun c hc=>?_⟩
 ·rcases Nat.lt_or_ge t arr.size with hlt|hge
  ·rw[h3 t hlt,if_neg (by omega)]
  ·rw[Array.getElem?_eq_none (by omega),Array.getElem?_eq_none (by omega)]
 ·rw[h3 _ (by omega),if_pos (by omega),Nat.add_sub_cancel_left]
 ·obtain⟨q1,q2,q3⟩:=h.hok c hc
  exact⟨⟨by rw[hw',z4];omega,q2,fun _=> .inl hc⟩,(hoth c q2).trans (hw.block c q1)⟩
end
def PutS (ps:List Dt):Prop:=∀(d:Dt),fol ps d=true→∀(w:World) (b o lo hi:Nat) (arr:Array Value) (T:TypeId) (cs:List Value) (ok:Nat→Prop) (x:Dt) (cx:List Value) (z:Value),
 PutC w b o lo hi arr T d cs ok→TabOK ok w→RD Tryz.prog ok w 22 (.lst ps) [z]→RD Tryz.prog ok w 33 x cx→
 Calls Tryz.prog 142 #[.pointer (some ⟨b,o,none⟩),z,.agg cx.toArray] w fun e w'=>e= .returned (.bool (putD ps d x).2)∧PutR w w' b o lo hi arr T ok (putD ps d x).1
theorem tS:∃E,Tryz.prog.underlying 22=some (.slice E)∧E=9∧Tryz.prog.cellsOf E=1:=⟨9,Tryz.underlying22,rfl,by kernel_rfl⟩
theorem below_alloc' (w:World) (o:Obj):Below w.heap.size w (w.alloc o):=⟨rfl,rfl,rfl,by rw[alloc_size];omega,fun b hb=>alloc_old hb⟩
theorem path_parts {ok:Nat→Prop} {w:World} {p:Dt} {ps:List Dt} {z:Value} (h:RD Tryz.prog ok w 22 (.lst (p::ps)) [z]):∃(bp op cap:Nat) (s0:ByteArray),p= .str s0∧z= .slice (some ⟨bp,op,none⟩) (ps.length+1) cap∧ok bp∧ps.length+1≤cap∧cap≤maxLen∧w.cell? ⟨bp,op,none⟩=some (.string s0)∧s0.size≤maxLen∧
  ∀A:Option Addr,(if cap=1 then some (⟨bp,op,none⟩:Addr) else some ⟨bp,op+1,none⟩)=A→RD Tryz.prog ok w 22 (.lst ps) [.slice A ps.length (cap-1)]:=by
 have c9:Tryz.prog.cellsOf 9=1:=by kernel_rfl
 obtain⟨a,cap,bp,op,rfl,hcap,hm,ha,hel⟩:=h.elems Tryz.underlying22 (by rw[c9];omega)
 obtain⟨rfl,hbp⟩:=ha (by simp)
 rw[List.length_cons] at hcap
 rw[c9] at hel
 obtain⟨cs,q1,q2,q3⟩:=hel 0 p rfl
 obtain⟨r1,r2,r3⟩:=q3.str_inv Tryz.underlying9
 refine⟨bp,op,cap,p.toStr,r1,rfl,hbp,hcap,hm,?_,r3,fun A hA=>?_⟩
 ·have:=q2 0 (.string p.toStr) (by rw[r2];rfl)
  simpa using this
 ·have hg:∀i,∃g:List Value,∀x,ps[i]? =some x→g.length=1∧(∀j v,g[j]? =some v→w.cell? ⟨bp,op+1+i*1+j,none⟩=some v)∧RD Tryz.prog ok w 9 x g:=fun i=>by
   cases hx:ps[i]? with
   |none=>exact⟨[],fun x h=>by cases h⟩
   |    some x=>
        obtain⟨g,u1,u2,u3⟩:=hel (i+1) x (by rw[List.getElem?_cons_succ];exact hx)
        exact⟨g,fun y hy=>by cases hy;exact⟨u1,fun j v hv=>(by have:=u2 j v hv;rw[show op+1+i*1+j=op+(i+1)*1+j by omega];exact this),u3⟩⟩
  obtain⟨g,hg⟩:=Classical.axiomOfChoice hg
  refine .lst ⟨bp,op+1,none⟩ g Tryz.underlying22 rfl (by omega) (by omega) (fun h0=>⟨?_,hbp⟩) (fun i hi=>?_) fun i x hx=>(hg i x hx).2.2
  ·rw[←hA,if_neg (by omega)]
  ·obtain⟨u1,u2,u3⟩:=hg i _ (List.getElem?_eq_getElem hi)
   rw[c9]
   refine⟨u1,u3.oneCell,fun j v hv=>?_⟩
   rw[add_mk,←Nat.add_assoc]
   exact u2 j v hv
set_option maxHeartbeats 4000000 in
set_option maxRecDepth 1000000 in
theorem put_nil:PutS []:=by
 intro d _ w b o lo hi arr T cs ok x cx z hC ht hp hx
 obtain⟨fv,ff,hT⟩:=tV
 have hp1:=hp.elems Tryz.underlying22 (by rw[show Tryz.prog.cellsOf 9=1 by kernel_rfl];omega)
 obtain⟨a1,p1,b1,o1,rfl,_⟩:=hp1
 obtain⟨k,n,s,l,fs,c3,c4,rfl,rfl,hl,hd,_⟩:=hx.v_inv hT
 obtain⟨a3,p3,_,_,rfl,_⟩:=hl.elems hT.l (by rw[hT.cv];omega)
 obtain⟨a4,p4,_,_,rfl,_⟩:=hd.elems hT.d (by rw[hT.cf];omega)
 obtain⟨kd,nd,sd,ld,fd,d3,d4,_,_,_,rfl,rfl,_⟩:=hC.hrt.v_inv hT
 have e0:∀q,(w.alloc q).cell? ⟨b,o,none⟩=some (.int .i64 kd):=fun q=>(hC.keep (below_alloc' w q)).cell (j:=0) (by omega) rfl
 have e1:∀q,(w.alloc q).cell? ⟨b,o+1,none⟩=some (.int .i64 nd):=fun q=>(hC.keep (below_alloc' w q)).cell (j:=1) (by omega) rfl
 have e2:∀q,(w.alloc q).cell? ⟨b,o+2,none⟩=some (.string sd):=fun q=>(hC.keep (below_alloc' w q)).cell (j:=2) (by omega) rfl
 have e3:∀q,(w.alloc q).cell? ⟨b,o+3,none⟩=some d3:=fun q=>(hC.keep (below_alloc' w q)).cell (j:=3) (by omega) rfl
 have e4:∀q,(w.alloc q).cell? ⟨b,o+4,none⟩=some d4:=fun q=>(hC.keep (below_alloc' w q)).cell (j:=4) (by omega) rfl
 have ef:∀q t,(w.alloc q).frozen? ⟨b,t,none⟩=false:=fun q t=>(hC.keep (below_alloc' w q)).froz t
 have hX:Hid (RD Tryz.prog ok w 33 (.agg [.int k,.int n,.str s,.lst l,.lst fs]) [.int .i64 k,.int .i64 n,.string s,.slice a3 l.length p3,.slice a4 fs.length p4]):=hx
 have hCC:Hid (PutC w b o lo hi arr T (.agg [.int kd,.int nd,.str sd,.lst ld,.lst fd]) [.int .i64 kd,.int .i64 nd,.string sd,d3,d4] ok):=hC
 clear hx hC hp hl hd ht
 show Calls Tryz.prog 142 #[.pointer (some ⟨b,o,none⟩),.slice a1 0 p1,.agg #[.int .i64 k,.int .i64 n,.string s,.slice a3 l.length p3,.slice a4 fs.length p4]] w _
 go_enter Tryz.func142,Tryz.ntmps142
 go_wp2
 go_ret
 exact⟨rfl,hCC.out.repl (below_alloc' w _) hX.out rfl rfl⟩
set_option maxHeartbeats 4000000 in
set_option maxRecDepth 1000000 in
theorem put_field (s0:ByteArray) (ps:List Dt) (ih:PutS ps) (kd nd:Int) (sd:ByteArray) (ld fd:List Dt) (hkd:kd=5) (i:Nat) (hi:fldI fd s0=(i:Int)) (hif:i<fd.length) (hfo:fol ps (Dt.fld (fd.getD i (.int 0)) 1)=true) {w:World} {b o lo hi':Nat} {arr:Array Value} {T:TypeId} {cs:List Value} {ok:Nat→Prop} {x:Dt} {cx:List Value} {z:Value}
  (hC:PutC w b o lo hi' arr T (.agg [.int kd,.int nd,.str sd,.lst ld,.lst fd]) cs ok) (ht:TabOK ok w) (hp:RD Tryz.prog ok w 22 (.lst (.str s0::ps)) [z]) (hx:RD Tryz.prog ok w 33 x cx):
  Calls Tryz.prog 142 #[.pointer (some ⟨b,o,none⟩),z,.agg cx.toArray] w fun e w'=>e= .returned (.bool (putD ps (Dt.fld (fd.getD i (.int 0)) 1) x).2)∧PutR w w' b o lo hi' arr T ok (.agg [.int kd,.int nd,.str sd,.lst ld,.lst (fd.set i (.agg [.str (Dt.S (fd.getD i (.int 0)) 0),(putD ps (Dt.fld (fd.getD i (.int 0)) 1) x).1]))]):=by
 obtain⟨fv,ff,hT⟩:=tV
 subst hkd
 obtain⟨bp,op,cap,_,e,rfl,hbp,hcap,hcm,hpc,hs0,htail⟩:=path_parts hp
 cases e
 obtain⟨A,hA⟩:∃A:Option Addr,(if cap=1 then some (⟨bp,op,none⟩:Addr) else some ⟨bp,op+1,none⟩)=A:=⟨_,rfl⟩
 have htl:=htail A hA
 obtain⟨kx,nx,sx,lx,fx,x3,x4,hxe,rfl,hlx,hdx,_⟩:=hx.v_inv hT
 obtain⟨a3,p3,_,_,rfl,_⟩:=hlx.elems hT.l (by rw[hT.cv];omega)
 obtain⟨a4,p4,_,_,rfl,_⟩:=hdx.elems hT.d (by rw[hT.cf];omega)
 obtain⟨_,_,_,_,_,d3,d4,_,_,_,e1,rfl,_⟩:=hC.hrt.v_inv hT
 cases e1
 obtain⟨B,a,a',brr,c0,rfl,⟨hB1,hB2,hB3,hB4⟩,hCc,hback⟩:=hC.field hif
 obtain⟨W0,hW0⟩:∃W0,W0=w.alloc (.cells #[.int .i64 kx,.int .i64 nx,.string sx,.slice a3 lx.length p3,.slice a4 fx.length p4] 33):=⟨_,rfl⟩
 have b0:Below w.heap.size w W0:=by rw[hW0];exact below_alloc' w _
 have s0':W0.heap.size=w.heap.size+1:=by rw[hW0,alloc_size]
 have t0:W0.heap[w.heap.size]? =some (.cells #[.int .i64 kx,.int .i64 nx,.string sx,.slice a3 lx.length p3,.slice a4 fx.length p4] 33 (0,0)):=by rw[hW0,alloc_at]
 have hbpw:bp<w.heap.size:=(hC.hok _ hbp).1
 have facts:∀W:World,Below W0.heap.size W0 W→W.cell? ⟨b,o+4,none⟩=some (.slice (some ⟨B,0,none⟩) fd.length fd.length)∧W.cell? ⟨bp,op,none⟩=some (.string s0)∧W.cell? ⟨w.heap.size,0,none⟩=some (.int .i64 kx)∧W.cell? ⟨w.heap.size,1,none⟩=some (.int .i64 nx)∧W.cell? ⟨w.heap.size,2,none⟩=some (.string sx)∧W.cell? ⟨w.heap.size,3,none⟩=some (.slice a3 lx.length p3)∧W.cell? ⟨w.heap.size,4,none⟩=some (.slice a4 fx.length p4):=fun W hW=>by
  have q:=below_via b0 hW b0.size
  have u:=(hW.block w.heap.size (by omega)).trans t0
  exact⟨(hC.keep q).cell (j:=4) (by omega) rfl,(q.cell (p:=⟨bp,op,none⟩) hbpw).trans hpc,cell_at u,cell_at u,cell_at u,cell_at u,cell_at u⟩
 have hfc:∀W:World,Below W0.heap.size W0 W→Calls Tryz.prog 138 #[.slice (some ⟨B,0,none⟩) fd.length fd.length,.string s0] W fun e w'=>e= .returned (.int .i64 (i:Int))∧Hid (Below W0.heap.size W0 w')∧w'.cell? ⟨b,o+4,none⟩=some (.slice (some ⟨B,0,none⟩) fd.length fd.length)∧w'.cell? ⟨bp,op,none⟩=some (.string s0)∧w'.cell? ⟨w.heap.size,0,none⟩=some (.int .i64 kx)∧w'.cell? ⟨w.heap.size,1,none⟩=some (.int .i64 nx)∧w'.cell? ⟨w.heap.size,2,none⟩=some (.string sx)∧w'.cell? ⟨w.heap.size,3,none⟩=some (.slice a3 lx.length p3)∧w'.cell? ⟨w.heap.size,4,none⟩=some (.slice a4 fx.length p4):=fun W hW=>by
  have q:=below_via b0 hW b0.size
  have hK:=hC.keep q
  obtain⟨_,_,_,_,_,_,_,m1,m2,m3,e1,e2,n1,n2,n3,n4,_,hd4,_⟩:=hK.hrt.v_inv hT
  cases e1
  cases e2
  have hd5:=hd4.toRD (ok:=fun c=>ok c∨(lo≤c∧c<hi')) fun c _ _=> .inr (by omega)
  have hbk:=hC.hbk
  have hlf:=len_bulk fd
  simp only[Dt.bulk,Dt.bulkL] at hbk
  have h:=field_call (ok:=fun c=>ok c∨(lo≤c∧c<hi')) (s:=s0) (fun c hc=>by
   rcases hc with hc|hc
   ·exact(hK.hok c hc).1
   ·have:=hK.hhi;omega) (ht.mono fun c hc=>⟨.inl hc,q.block c (hC.hok c hc).1⟩) hd5 (by omega) hs0
  refine h.mono ?_
  rintro e w' ⟨rfl,hb⟩
  have hb':=below_via hW hb hW.size
  exact⟨by rw[hi],hb',facts w' hb'⟩
 have e0:∀q,(w.alloc q).cell? ⟨b,o,none⟩=some (.int .i64 5):=fun q=>(hC.keep (below_alloc' w q)).cell (j:=0) (by omega) rfl
 have e4:w.cell? ⟨b,o+4,none⟩=some (.slice (some ⟨B,0,none⟩) fd.length fd.length):=hC.cell (j:=4) (by omega) rfl
 have hrec:∀w1 W:World,Below W0.heap.size W0 w1→Below w1.heap.size w1 W→Calls Tryz.prog 142 #[.pointer (some ⟨B,i*6+1,none⟩),.slice A ps.length (cap-1),.agg #[.int .i64 kx,.int .i64 nx,.string sx,.slice a3 lx.length p3,.slice a4 fx.length p4]] W fun e w'=>e= .returned (.bool (putD ps (Dt.fld (fd.getD i (.int 0)) 1) x).2)∧Hid (PutR w w' b o lo hi' arr T ok (.agg [.int 5,.int nd,.str sd,.lst ld,.lst (fd.set i (.agg [.str (Dt.S (fd.getD i (.int 0)) 0),(putD ps (Dt.fld (fd.getD i (.int 0)) 1) x).1]))]))∧
   w'.cell? ⟨b,o+4,none⟩=some (.slice (some ⟨B,0,none⟩) fd.length fd.length)∧w'.cell? ⟨w.heap.size,0,none⟩=some (.int .i64 kx)∧w'.cell? ⟨w.heap.size,1,none⟩=some (.int .i64 nx)∧w'.cell? ⟨w.heap.size,2,none⟩=some (.string sx)∧w'.cell? ⟨w.heap.size,3,none⟩=some (.slice a3 lx.length p3)∧w'.cell? ⟨w.heap.size,4,none⟩=some (.slice a4 fx.length p4):=fun w1 W h1 h2=>by
  have q:=below_via (below_via b0 h1 b0.size) h2 (Nat.le_trans b0.size h1.size)
  have hW:=below_via h1 h2 h1.size
  have hCW:=hCc.keep q
  have h:=ih _ hfo W B (i*6+1) a a' brr 57 c0 ok x [.int .i64 kx,.int .i64 nx,.string sx,.slice a3 lx.length p3,.slice a4 fx.length p4] (.slice A ps.length (cap-1)) hCW (ht.mono fun c hc=>⟨hc,q.block c (hC.hok c hc).1⟩) (htl.mono fun c hc=>⟨hc,q.block c (hC.hok c hc).1⟩) (hx.mono fun c hc=>⟨hc,q.block c (hC.hok c hc).1⟩)
  refine h.mono ?_
  rintro e w' ⟨rfl,hR⟩
  have hbB:=hCc.lt
  have hba:=hCc.hbo
  have hhi:=hCc.hhi
  have u:w'.heap[w.heap.size]? =W.heap[w.heap.size]? :=hR.below.block _ (by have:=hW.size;omega) (by omega)
  have u2:=u.trans ((hW.block _ (by omega)).trans t0)
  have v1:w'.heap[b]? =W.heap[b]? :=by
   have hbb:=hC.lt
   have hbo:=hC.hbo
   exact hR.below.block b (Nat.lt_of_lt_of_le hbb q.size) (by omega)
  refine⟨rfl,hback W w' _ q hR,?_,cell_at u2,cell_at u2,cell_at u2,cell_at u2,cell_at u2⟩
  rw[World.cell?_of_block (w:=W) v1]
  exact(facts W hW).1
 generalize putD ps (Dt.fld (fd.getD i (.int 0)) 1) x=R at hrec ⊢
 have hfl:(i:Int)<(fd.length:Int):=by omega
 have hcl0:(1:Int)≤(ps.length:Int)+1:=by omega
 have A0:Hid (W0=w.alloc (.cells #[.int .i64 kx,.int .i64 nx,.string sx,.slice a3 lx.length p3,.slice a4 fx.length p4] 33)):=hW0
 clear hfo facts hback hCc hC hx hp htail htl ht ih hlx hdx b0 s0' t0 hi hxe
 show Calls Tryz.prog 142 #[.pointer (some ⟨b,o,none⟩),.slice (some ⟨bp,op,none⟩) (ps.length+1) cap,.agg #[.int .i64 kx,.int .i64 nx,.string sx,.slice a3 lx.length p3,.slice a4 fx.length p4]] w _
 go_enter Tryz.func142,Tryz.ntmps142
 go_wp2
 go_region_held3 (fun W=>W.cell? ⟨b,o+4,none⟩=some (.slice (some ⟨B,0,none⟩) fd.length fd.length)∧W.cell? ⟨bp,op,none⟩=some (.string s0))
  (go_keep)
  (first|(go_at_call 138;refine(hfc _ ?_).mono ?_;(rw[A0.out];exact below_drew _ _);rintro e w1 ⟨rfl,hX1,q1,q2,q3,q4,q5,q6,q7⟩))
 go_wp2
 go_region_held3 (fun W=>W.cell? ⟨b,o+4,none⟩=some (.slice (some ⟨B,0,none⟩) fd.length fd.length)∧W.cell? ⟨w.heap.size,0,none⟩=some (.int .i64 kx)∧W.cell? ⟨w.heap.size,1,none⟩=some (.int .i64 nx)∧W.cell? ⟨w.heap.size,2,none⟩=some (.string sx)∧W.cell? ⟨w.heap.size,3,none⟩=some (.slice a3 lx.length p3)∧W.cell? ⟨w.heap.size,4,none⟩=some (.slice a4 fx.length p4))
  (go_keep)
  (first|(go_at_call 142;refine(hrec w1 _ hX1.out ?_).mono ?_;exact below_drew _ _;rintro e w2 ⟨rfl,hX2,r1,r2,r3,r4,r5,r6⟩))
 go_wp2
 go_ret
 exact⟨rfl,hX2.out⟩
set_option maxHeartbeats 4000000 in
set_option maxRecDepth 1000000 in
theorem put_elem (s0:ByteArray) (ps:List Dt) (ih:PutS ps) (kd nd:Int) (sd:ByteArray) (ld fd:List Dt) (hkd:kd=6) (i:Nat) (hi:numV s0=((i:Int),true)) (hif:i<ld.length) (hfo:fol ps (ld.getD i (.int 0))=true) {w:World} {b o lo hi':Nat} {arr:Array Value} {T:TypeId} {cs:List Value} {ok:Nat→Prop} {x:Dt} {cx:List Value} {z:Value}
  (hC:PutC w b o lo hi' arr T (.agg [.int kd,.int nd,.str sd,.lst ld,.lst fd]) cs ok) (ht:TabOK ok w) (hp:RD Tryz.prog ok w 22 (.lst (.str s0::ps)) [z]) (hx:RD Tryz.prog ok w 33 x cx):
  Calls Tryz.prog 142 #[.pointer (some ⟨b,o,none⟩),z,.agg cx.toArray] w fun e w'=>e= .returned (.bool (putD ps (ld.getD i (.int 0)) x).2)∧PutR w w' b o lo hi' arr T ok (.agg [.int kd,.int nd,.str sd,.lst (ld.set i (putD ps (ld.getD i (.int 0)) x).1),.lst fd]):=by
 obtain⟨fv,ff,hT⟩:=tV
 subst hkd
 obtain⟨bp,op,cap,_,e,rfl,hbp,hcap,hcm,hpc,hs0,htail⟩:=path_parts hp
 cases e
 obtain⟨A,hA⟩:∃A:Option Addr,(if cap=1 then some (⟨bp,op,none⟩:Addr) else some ⟨bp,op+1,none⟩)=A:=⟨_,rfl⟩
 have htl:=htail A hA
 obtain⟨kx,nx,sx,lx,fx,x3,x4,hxe,rfl,hlx,hdx,_⟩:=hx.v_inv hT
 obtain⟨a3,p3,_,_,rfl,_⟩:=hlx.elems hT.l (by rw[hT.cv];omega)
 obtain⟨a4,p4,_,_,rfl,_⟩:=hdx.elems hT.d (by rw[hT.cf];omega)
 obtain⟨_,_,_,_,_,d3,d4,_,_,_,e1,rfl,_⟩:=hC.hrt.v_inv hT
 cases e1
 obtain⟨B,a,a',brr,c0,rfl,⟨hB1,hB2,hB3,hB4⟩,hCc,hback⟩:=hC.elem hif
 obtain⟨W0,hW0⟩:∃W0,W0=w.alloc (.cells #[.int .i64 kx,.int .i64 nx,.string sx,.slice a3 lx.length p3,.slice a4 fx.length p4] 33):=⟨_,rfl⟩
 have b0:Below w.heap.size w W0:=by rw[hW0];exact below_alloc' w _
 have s0':W0.heap.size=w.heap.size+1:=by rw[hW0,alloc_size]
 have t0:W0.heap[w.heap.size]? =some (.cells #[.int .i64 kx,.int .i64 nx,.string sx,.slice a3 lx.length p3,.slice a4 fx.length p4] 33 (0,0)):=by rw[hW0,alloc_at]
 have hbpw:bp<w.heap.size:=(hC.hok _ hbp).1
 have facts:∀W:World,Below W0.heap.size W0 W→W.cell? ⟨b,o+3,none⟩=some (.slice (some ⟨B,0,none⟩) ld.length ld.length)∧W.cell? ⟨bp,op,none⟩=some (.string s0)∧W.cell? ⟨w.heap.size,0,none⟩=some (.int .i64 kx)∧W.cell? ⟨w.heap.size,1,none⟩=some (.int .i64 nx)∧W.cell? ⟨w.heap.size,2,none⟩=some (.string sx)∧W.cell? ⟨w.heap.size,3,none⟩=some (.slice a3 lx.length p3)∧W.cell? ⟨w.heap.size,4,none⟩=some (.slice a4 fx.length p4):=fun W hW=>by
  have q:=below_via b0 hW b0.size
  have u:=(hW.block w.heap.size (by omega)).trans t0
  exact⟨(hC.keep q).cell (j:=3) (by omega) rfl,(q.cell (p:=⟨bp,op,none⟩) hbpw).trans hpc,cell_at u,cell_at u,cell_at u,cell_at u,cell_at u⟩
 have hfc:∀W:World,Below W0.heap.size W0 W→Calls Tryz.prog 139 #[.string s0] W fun e w'=>e= .returned (.tuple #[.int .i64 (i:Int),.bool true])∧Hid (Below W0.heap.size W0 w')∧w'.cell? ⟨b,o+3,none⟩=some (.slice (some ⟨B,0,none⟩) ld.length ld.length)∧w'.cell? ⟨bp,op,none⟩=some (.string s0)∧w'.cell? ⟨w.heap.size,0,none⟩=some (.int .i64 kx)∧w'.cell? ⟨w.heap.size,1,none⟩=some (.int .i64 nx)∧w'.cell? ⟨w.heap.size,2,none⟩=some (.string sx)∧w'.cell? ⟨w.heap.size,3,none⟩=some (.slice a3 lx.length p3)∧w'.cell? ⟨w.heap.size,4,none⟩=some (.slice a4 fx.length p4):=fun W hW=>by
  have q:=below_via b0 hW b0.size
  have h:=number_call (ok:=ok) (w:=W) (s:=s0) (fun c hc=>Nat.lt_of_lt_of_le (hC.hok c hc).1 q.size) (ht.mono fun c hc=>⟨hc,q.block c (hC.hok c hc).1⟩) hs0
  refine h.mono ?_
  rintro e w' ⟨rfl,hb⟩
  have hb':=below_via hW hb hW.size
  exact⟨by rw[hi],hb',facts w' hb'⟩
 have e0:∀q,(w.alloc q).cell? ⟨b,o,none⟩=some (.int .i64 6):=fun q=>(hC.keep (below_alloc' w q)).cell (j:=0) (by omega) rfl
 have e5:∀q,(w.alloc q).cell? ⟨bp,op,none⟩=some (.string s0):=fun q=>((below_alloc' w q).cell (p:=⟨bp,op,none⟩) hbpw).trans hpc
 have e4:w.cell? ⟨b,o+3,none⟩=some (.slice (some ⟨B,0,none⟩) ld.length ld.length):=hC.cell (j:=3) (by omega) rfl
 have hrec:∀w1 W:World,Below W0.heap.size W0 w1→Below w1.heap.size w1 W→Calls Tryz.prog 142 #[.pointer (some ⟨B,i*5,none⟩),.slice A ps.length (cap-1),.agg #[.int .i64 kx,.int .i64 nx,.string sx,.slice a3 lx.length p3,.slice a4 fx.length p4]] W fun e w'=>e= .returned (.bool (putD ps (ld.getD i (.int 0)) x).2)∧Hid (PutR w w' b o lo hi' arr T ok (.agg [.int 6,.int nd,.str sd,.lst (ld.set i (putD ps (ld.getD i (.int 0)) x).1),.lst fd]))∧
   w'.cell? ⟨b,o+3,none⟩=some (.slice (some ⟨B,0,none⟩) ld.length ld.length)∧w'.cell? ⟨w.heap.size,0,none⟩=some (.int .i64 kx)∧w'.cell? ⟨w.heap.size,1,none⟩=some (.int .i64 nx)∧w'.cell? ⟨w.heap.size,2,none⟩=some (.string sx)∧w'.cell? ⟨w.heap.size,3,none⟩=some (.slice a3 lx.length p3)∧w'.cell? ⟨w.heap.size,4,none⟩=some (.slice a4 fx.length p4):=fun w1 W h1 h2=>by
  have q:=below_via (below_via b0 h1 b0.size) h2 (Nat.le_trans b0.size h1.size)
  have hW:=below_via h1 h2 h1.size
  have hCW:=hCc.keep q
  have h:=ih _ hfo W B (i*5) a a' brr 33 c0 ok x [.int .i64 kx,.int .i64 nx,.string sx,.slice a3 lx.length p3,.slice a4 fx.length p4] (.slice A ps.length (cap-1)) hCW (ht.mono fun c hc=>⟨hc,q.block c (hC.hok c hc).1⟩) (htl.mono fun c hc=>⟨hc,q.block c (hC.hok c hc).1⟩) (hx.mono fun c hc=>⟨hc,q.block c (hC.hok c hc).1⟩)
  refine h.mono ?_
  rintro e w' ⟨rfl,hR⟩
  have hbB:=hCc.lt
  have hba:=hCc.hbo
  have hhi:=hCc.hhi
  have u:w'.heap[w.heap.size]? =W.heap[w.heap.size]? :=hR.below.block _ (by have:=hW.size;omega) (by omega)
  have u2:=u.trans ((hW.block _ (by omega)).trans t0)
  have v1:w'.heap[b]? =W.heap[b]? :=by
   have hbb:=hC.lt
   have hbo:=hC.hbo
   exact hR.below.block b (Nat.lt_of_lt_of_le hbb q.size) (by omega)
  refine⟨rfl,hback W w' _ q hR,?_,cell_at u2,cell_at u2,cell_at u2,cell_at u2,cell_at u2⟩
  rw[World.cell?_of_block (w:=W) v1]
  exact(facts W hW).1
 generalize putD ps (ld.getD i (.int 0)) x=R at hrec ⊢
 have hfl:(i:Int)<(ld.length:Int):=by omega
 have hcl0:(1:Int)≤(ps.length:Int)+1:=by omega
 have A0:Hid (W0=w.alloc (.cells #[.int .i64 kx,.int .i64 nx,.string sx,.slice a3 lx.length p3,.slice a4 fx.length p4] 33)):=hW0
 clear hfo facts hback hCc hC hx hp htail htl ht ih hlx hdx b0 s0' t0 hi hxe
 show Calls Tryz.prog 142 #[.pointer (some ⟨b,o,none⟩),.slice (some ⟨bp,op,none⟩) (ps.length+1) cap,.agg #[.int .i64 kx,.int .i64 nx,.string sx,.slice a3 lx.length p3,.slice a4 fx.length p4]] w _
 go_enter Tryz.func142,Tryz.ntmps142
 go_wp2_with (go_at_call 139;refine(hfc _ ?_).mono ?_;(rw[A0.out];exact Below.refl _ _);rintro e w1 ⟨rfl,hX1,q1,q2,q3,q4,q5,q6,q7⟩)
 go_region_held3 (fun W=>W.cell? ⟨b,o+3,none⟩=some (.slice (some ⟨B,0,none⟩) ld.length ld.length)∧W.cell? ⟨w.heap.size,0,none⟩=some (.int .i64 kx)∧W.cell? ⟨w.heap.size,1,none⟩=some (.int .i64 nx)∧W.cell? ⟨w.heap.size,2,none⟩=some (.string sx)∧W.cell? ⟨w.heap.size,3,none⟩=some (.slice a3 lx.length p3)∧W.cell? ⟨w.heap.size,4,none⟩=some (.slice a4 fx.length p4))
  (go_keep)
  (first|(go_at_call 142;refine(hrec w1 _ hX1.out ?_).mono ?_;exact below_drew _ _;rintro e w2 ⟨rfl,hX2,r1,r2,r3,r4,r5,r6⟩))
 go_wp2
 go_ret
 exact⟨rfl,hX2.out⟩
end Go.Proofs.YtameompfdamfpaaGreatDoor
