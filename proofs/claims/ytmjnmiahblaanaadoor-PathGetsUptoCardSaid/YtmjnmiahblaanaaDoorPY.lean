/- Paths: in a value without lists Reach is what Get gives; the law of Get and Drop.
Paths:laws of get,put and drop by steps.
Paths:what Put leaves is a value.
Paths:valid paths;Put of the program and of the reference;the law of Put.
Paths:paths that do not overlap;the law of changes. -/
import Derived.Test.YtmjnmiahblaanaaDoorPX
import Derived.Test.YtmjnmiahblaanaaDoorFx
import Derived.Test.YtmjnmiahblaanaaDoorMC
set_option linter.unusedVariables false
set_option linter.unusedSimpArgs false
namespace Go.Proofs.YtmjnmiahblaanaaDoor
open Go.Am
theorem small_eq {d:Dt} (p:List Dt) (hw:WV d) (hb:d.bulk≤137438953472) (m:Nat) (hm:d.bulk≤m):∃b,law04_small (m+4) d p=some b∧(b=true→p.length≤20):=by
 rw[law04_small,rDepth_eq hw hb m hm,Option.bind_some]
 cases decide (((min (dpt d) 17:Nat):Int)≤16)
 ·exact⟨false,rfl,fun h=>by cases h⟩
 ·rw[cond_true,rNodes_eq hw hb m hm,Option.bind_some]
  cases decide (((min (nds d) 1025:Nat):Int)≤1024)
  ·exact⟨false,rfl,fun h=>by cases h⟩
  ·exact⟨_,rfl,fun h=>by have:=of_decide_eq_true h;omega⟩
inductive NL:Dt→Prop where
 |mk {v:Dt} (h6:Dt.I v 0≠6) (h:∀e∈prts v,NL e):NL v
theorem lists_l (m:Nat) (self:Dt→Option Bool) (L:List Dt) (hl:L.length<9223372036854775807) (hs:∀e∈L,∃b,self e=some b∧(b=false→NL e)):∀(M i:Nat),i≤L.length→L.length-i<M→
  ∃b,law04_lists_l2 m self M L (i:Int)=some b∧(b=false→∀e∈L.drop i,NL e)
 |0,i,_,h=>by omega
 |M+    1,i,hi,h=>by
  simp only[law04_lists_l2,dlt]
  by_cases hlt:i<L.length
  ·obtain⟨b,hb1,hb2⟩:=hs _ (List.getElem_mem hlt)
   simp only[hlt,decide_true,cond_true,law04_lists_j3,law04_lists_j4,idx_lt hlt,Option.bind_some,hb1,wrapS (show i<9223372036854775807 by omega)]
   cases b with
   |true=>exact⟨true,rfl,fun h=>by cases h⟩
   |    false=>
        obtain⟨c,hc1,hc2⟩:=lists_l m self L hl hs M (i+1) (by omega) (by omega)
        refine⟨c,hc1,fun h=>?_⟩
        rw[List.drop_eq_getElem_cons hlt]
        intro e he
        rcases List.mem_cons.1 he with rfl|he
        ·exact hb2 rfl
        ·exact hc2 h e he
  ·have e:i=L.length:=by omega
   rw[e,List.drop_length]
   simp only[Nat.lt_irrefl,decide_false,cond_false,law04_lists_j5]
   exact⟨false,rfl,fun _ e he=>by cases he⟩
theorem lists_eq:∀(N:Nat) (d:Dt),d.bulk≤N→N≤137438953472→WV d→∀m,N+5≤m→∃b,law04_lists (m+1) d=some b∧(b=false→NL d)
 |0,d,h,_,hw,_,_=>by have:=wv6 hw;omega
 |N+1,d,h,hN,hw,m,hm=>by
  obtain⟨m,rfl⟩:∃q,m=q+1:=⟨m-1,by omega⟩
  rw[law04_lists]
  by_cases h6:Dt.I d 0=6
  ·rw[(b6 h6).2.2.1,cond_true]
   exact⟨true,rfl,fun h=>by cases h⟩
  ·rw[(b6n h6).1,cond_false,law04_lists_j0,parts_eq d hw m (by have:=wv6 hw;omega) (by omega),Option.bind_some]
   have hl:=prts_len hw
   obtain⟨b,h1,h2⟩:=lists_l (m+1) (law04_lists (m+1)) (prts d) (by omega) (fun e he=>lists_eq N e (by have:=(prts_wv hw e he).2;omega) (by omega) (prts_wv hw e he).1 m (by omega)) (m+2) 0 (Nat.zero_le _) (by omega)
   rw[List.drop_zero] at h2
   exact⟨b,h1,fun h=> .mk h6 (h2 h)⟩
theorem NL_ch {v:Dt} (h:NL v) (hw:WV v) (h5:Dt.I v 0=5) {k:Nat} (hk:k<(Dt.L v 4).length):NL (chF v k):=by
 cases h with
 |mk h6 h=>
  refine h _ ?_
  rw[prts,(b6n h6).1,cond_false,(b5 h5).1,cond_true,(ch_F hw hk).1]
  exact List.mem_map_of_mem (List.getElem_mem hk)
theorem pass_nl:∀(p:List Dt) (N:Nat) (v:Dt),NL v→WV v→v.bulk≤N→N≤137438953472→∀m,N+p.length+10≤m→m<9223372036854775807→i25 (m+1) v p []=some [getD p v]∨(i25 (m+1) v p []=some []∧getD p v=zeroD)
 | [],N,v,hn,hw,hb,hN,m,hm,hm2=>by
   left
   show (app [] [v]).bind _=_
   rw[app_nil (by simp)]
   rfl
 | s ::p,N,v,hn,hw,hb,hN,m,hm,hm2=>by
   rw[List.length_cons] at hm
   obtain⟨m,rfl⟩:∃q,m=q+2:=⟨m-2,by omega⟩
   have hl:=L_len v 4
   have h6:Dt.I v 0≠6:=by cases hn with|mk h6 _=>exact h6
   rw[i25,c1,cond_false,i25_j0,getD]
   have hs:=stp_is s.toStr v
   generalize stp s.toStr v=S at hs
   cases hs with
   | @fld k h5 h' hk=>
     have hc:=ch_F hw hk
     have ih:=pass_nl p N (chF v k) (NL_ch hn hw h5 hk) hc.2.1 (by omega) hN (m+1) (by omega) (by omega)
     simp only[(b5 h5).1,cond_true,idx0,Option.bind_some,path_field_fi (m+1) s.toStr (Dt.L v 4) (by omega) (by omega),h',oI0,dp1,idx_lt hk,cutL1,←hc.1,i25_j1]
     rcases ih with ih| ⟨ih,ih2⟩
     ·left;rw[ih];rfl
     ·right;rw[ih];exact⟨rfl,ih2⟩
   | newf h5 h'=>
     right
     simp only[(b5 h5).1,cond_true,idx0,Option.bind_some,path_field_fi (m+1) s.toStr (Dt.L v 4) (by omega) (by omega),h',oIn,dn1,cond_false,i25_j1,and_self]
   |el h6'=>exact absurd h6' h6
   |newe h6'=>exact absurd h6' h6
   |no6 h6'=>exact absurd h6' h6
   | no h5 _=>
     right
     simp only[(b5n h5).1,(b6n h6).1,cond_false,i25_j1,and_self]
theorem reach_nl (p:List Dt) (N:Nat) (v:Dt) (hn:NL v) (hw:WV v) (hb:v.bulk≤N) (hN:N≤137438953472) (m:Nat) (hm:N+p.length+12≤m) (hm2:m<9223372036854775807):path_Reach (m+1) v p=some [getD p v]:=by
 obtain⟨m,rfl⟩:∃q,m=q+1:=⟨m-1,by omega⟩
 rw[path_Reach]
 rcases pass_nl p N v hn hw hb hN m (by omega) (by omega) with h| ⟨h,h2⟩
 ·rw[h,Option.bind_some]
  have hg:=getD_wv p hw
  have hc:=pclone_eq N (getD p v) (by omega) hN hg.1 m (by omega)
  generalize getD p v=x at hc
  show path_Reach_l2 (m+1) (m+2) 1 0 [x]=_
  have i0:inL [x] (0:Int)=some ():=inL_lt (l:=[x]) (i:=0) (by simp)
  simp only[path_Reach_l2,show decide ((0:Int)<1)=true from rfl,cond_true,path_Reach_j3,i0,Option.bind_some,Int.toNat_zero,List.getElem?_cons_zero,hc,path_Reach_j4,List.set_cons_zero,wrapS (show 0<9223372036854775807 by omega),show IntKind.wrap IntKind.i64 ((0:Int)+1)=1 from rfl,show decide ((1:Int)<1)=false from rfl,cond_false,path_Reach_j5]
 ·rw[h,h2]
  rfl
theorem law_gets (v:Dt) (p:List Dt) (hw:WV v) (hb:v.bulk≤1048576) (m:Nat) (hm:400000000000≤m) (hm2:m<1000000000000):law04_PathGets (m+1) v p=some true:=by
 obtain⟨k,rfl⟩:∃k,m=k+4:=⟨m-4,by omega⟩
 obtain⟨b,hs1,hs2⟩:=small_eq p hw (by omega) k (by omega)
 rw[law04_PathGets,hs1,Option.bind_some]
 cases b with
 |false=>rfl
 |true=>
  have hp:=hs2 rfl
  have hg:=getD_wv p hw
  have hd:=dropP_wv p hw
  have e1:path_Get (k+4) v p=some (getD p v):=pget_eq 1048576 p v hw hb (by omega) (k+3) (by omega) (by omega)
  have e2:ref04_Get (k+4) v p=some (getD p v):=rget_eq p 1048576 v hw hb (k+3) (by omega) (by omega)
  have e3:ref01_Same (k+4) (getD p v) (getD p v)=some true:=same_refl 1048576 _ (by omega) (by omega) hg.1 (k+3) (by omega)
  have e4:path_DropC v p=some (dropP p v):=by
   unfold path_DropC
   rw[if_pos (by omega),dropD_eq p v (by omega)]
   cases p<;>rfl
  have e5:ref04_Drop (k+4) v p=some (dropP p v):=rdrop_eq p 1048576 v hw hb (by omega) (k+3) (by omega) (by omega)
  have e6:ref01_Same (k+4) (dropP p v) (dropP p v)=some true:=same_refl 1048576 _ (by omega) (by omega) hd.1 (k+3) (by omega)
  obtain⟨c,hc1,hc2⟩:=lists_eq 1048576 v hb (by omega) hw (k+3) (by omega)
  have hc1:law04_lists (k+4) v=some c:=hc1
  simp only[Bool.not_true,cond_false,law04_PathGets_j0,e1,e2,e3,e4,e5,e6,Option.bind_some,law04_PathGets_j1,law04_PathGets_j2,hc1]
  cases c with
  |true=>rfl
  |false=>
   have e7:path_Reach (k+4) v p=some [getD p v]:=reach_nl p 1048576 v (hc2 rfl) hw hb (by omega) (k+3) (by omega) (by omega)
   have e8:ref01_SameList (k+4) [getD p v] [getD p v]=some true:=samelist_refl 2000000 _ (by simp only[Dt.bulkL];omega) (by omega) (by simpa using hg.1) (k+2) (by omega)
   simp only[Bool.not_false,cond_true,e7,e8,Option.bind_some,Bool.not_true,law04_PathGets_j3,cond_false,law04_PathGets_j4,awakeC]
theorem gets_fx {ds:List Dt} (h:HasTys Tryd.prog Tryd.f6.params.toList ds) (hb:Dt.bulkL ds≤1048576):FX Tryd.prog 6 (dats Tryd.f6.params.toList ds) [] (.dat 4 (.bool true)) []:=by
 have h':HasTys Tryd.prog [36,23] ds:=h
 cases h' with
 |cons h1 r=>cases r with
  |cons h2 r=>
   cases r
   rw[(ty_lst Tryd.underlying23 h2).1]
   simp only[Dt.bulkL] at hb
   exact law04_PathGets_fx 400000000000 (ct_ok 400000000000) _ _ (law_gets _ _ (wv_of h1) (by omega) 400000000000 (Nat.le_refl _) (by omega))
end Go.Proofs.YtmjnmiahblaanaaDoor
namespace Go.Proofs.YtmjnmiahblaanaaDoor
open Go.Am
theorem ff_set (t:ByteArray):∀(L:List Dt) (k:Nat) (c:Dt),fi t (L.set k (.agg [.str (Dt.S (L.getD k (.int 0)) 0),c]))=fi t L
 | [],_,_=>rfl
 |a::r,0,c=>rfl
 |a::r,k+1,c=>by
  have:=ff_set t r k c
  rw[List.getD_cons_succ,List.set_cons_succ,fi,fi,this]
theorem ff_app (t s:ByteArray) (c:Dt):∀L:List Dt,fi t (L++[.agg [.str s,c]])=(match fi t L with|some k=>some k|none=>bif eqb s t then some L.length else none)
 | []=>by
   show (bif (s.toList==t.toList) then _ else _)=_
   cases h:(s.toList==t.toList)<;>simp[fi,eqb,h]
 | a::r=>by
   rw[List.cons_append,fi,fi,ff_app t s c r]
   cases (ByteArray.toList (Dt.S a 0)==ByteArray.toList t)
   ·simp only[cond_false]
    cases fi t r with
    |some k=>rfl
    |none=>cases eqb s t<;>simp
   ·rfl
theorem ff_name {s:ByteArray}:∀{L:List Dt} {k:Nat},fi s L=some k→Dt.S (L.getD k (.int 0)) 0=s
 | [],k,h=>by cases h
 |f::r,k,h=>by
  rw[fi] at h
  cases hc:(ByteArray.toList (Dt.S f 0)==ByteArray.toList s) with
  |true=>rw[hc] at h;cases h;exact(eqb_iff _ _).1 hc
  |false=>
   rw[hc,cond_false] at h
   cases hr:fi s r with
   |none=>rw[hr] at h;cases h
   |    some j=>
        rw[hr] at h
        cases h
        show Dt.S (r.getD j (.int 0)) 0=s
        exact ff_name hr
theorem ff_inj {s t:ByteArray} {L:List Dt} {k:Nat} (h1:fi s L=some k) (h2:fi t L=some k):s=t:=by rw[←ff_name h1,ff_name h2]
theorem stp_setF (t:ByteArray) (v c:Dt) (k:Nat):stp t (setF v k c)=stp t v:=by
 show (if Dt.I v 0=5 then(match fi t ((Dt.L v 4).set k _) with|some k=>Stp.fld k|none=> .newf) else _)=_
 rw[ff_set]
 rfl
theorem stp_setE (t:ByteArray) (v c:Dt) (n:Nat):stp t (setE v n c)=stp t v:=by
 show (if Dt.I v 0=5 then _ else if Dt.I v 0=6 then(match nu t with|some j=>if j<((Dt.L v 3).set n c).length then Stp.el j else .newe j|none=> .no) else _)=_
 rw[List.length_set]
 rfl
theorem chF_setF {v c:Dt} {k:Nat} (hk:k<(Dt.L v 4).length):chF (setF v k c) k=c:=by
 show Dt.fld (((Dt.L v 4).set k _).getD k _) 1=c
 rw[getD_lt (by rwa [List.length_set]),List.getElem_set_self]
 rfl
theorem chF_setF_ne {v c:Dt} {k j:Nat} (h:j≠k):chF (setF v k c) j=chF v j:=by
 show Dt.fld (((Dt.L v 4).set k _).getD j _) 1=_
 rw[List.getD,List.getElem?_set_ne (Ne.symm h)]
 rfl
theorem chE_setF (v c:Dt) (k j:Nat):chE (setF v k c) j=chE v j:=rfl
theorem chE_setE {v c:Dt} {n:Nat} (hn:n<(Dt.L v 3).length):chE (setE v n c) n=c:=by
 show ((Dt.L v 3).set n c).getD n _=c
 rw[getD_lt (by rwa [List.length_set]),List.getElem_set_self]
theorem chE_setE_ne {v c:Dt} {n j:Nat} (h:j≠n):chE (setE v n c) j=chE v j:=by
 show ((Dt.L v 3).set n c).getD j _=_
 rw[List.getD,List.getElem?_set_ne (Ne.symm h)]
 rfl
theorem chF_setE (v c:Dt) (k j:Nat):chF (setE v k c) j=chF v j:=rfl
theorem setF_setF (v c c':Dt) (k:Nat):setF (setF v k c) k c'=setF v k c':=by
 show mkV v (Dt.L v 3) (((Dt.L v 4).set k _).set k (.agg [.str (Dt.S (((Dt.L v 4).set k _).getD k (.int 0)) 0),c']))=_
 rw[List.set_set]
 by_cases hk:k<(Dt.L v 4).length
 ·rw[getD_lt (by rwa [List.length_set]),List.getElem_set_self]
  rfl
 ·rw[List.set_eq_of_length_le (by omega),setF,List.set_eq_of_length_le (by omega)]
theorem setE_setE (v c c':Dt) (n:Nat):setE (setE v n c) n c'=setE v n c':=by
 show mkV v (((Dt.L v 3).set n c).set n c') (Dt.L v 4)=_
 rw[List.set_set]
 rfl
theorem stp_addF {s:ByteArray} {v:Dt} (c:Dt) (h5:Dt.I v 0=5) (t:ByteArray):stp t (addF v s c)=(match stp t v with| .fld k=> .fld k| .newf=>if s=t then .fld (Dt.L v 4).length else .newf|q=>q):=by
 have e:stp t (addF v s c)=(match fi t (Dt.L v 4++[.agg [.str s,c]]) with|some k=>Stp.fld k|none=> .newf):=by
  show (if Dt.I v 0=5 then _ else _)=_
  rw[if_pos h5]
  rfl
 rw[e,ff_app,stp,if_pos h5]
 cases fi t (Dt.L v 4) with
 |some k=>rfl
 |none=>
  by_cases h:s=t
  ·rw[if_pos h,(eqb_iff s t).2 h];rfl
  ·have:eqb s t=false:=by rw[Bool.eq_false_iff];exact fun e=>h ((eqb_iff s t).1 e)
   rw[if_neg h,this];rfl
theorem chF_addF (v c:Dt) (s:ByteArray):chF (addF v s c) (Dt.L v 4).length=c:=by
 show Dt.fld ((Dt.L v 4++[Dt.agg [.str s,c]]).getD (Dt.L v 4).length _) 1=c
 rw[getD_lt (by simp),List.getElem_append_right (Nat.le_refl _)]
 simp only[Nat.sub_self,List.getElem_cons_zero]
 rfl
theorem chF_addF_lt {v c:Dt} {s:ByteArray} {k:Nat} (h:k<(Dt.L v 4).length):chF (addF v s c) k=chF v k:=by
 show Dt.fld ((Dt.L v 4++[Dt.agg [.str s,c]]).getD k _) 1=Dt.fld ((Dt.L v 4).getD k _) 1
 rw[getD_lt (by simp;omega),getD_lt h,List.getElem_append_left h]
theorem addE_len (v c:Dt) {n:Nat} (h:(Dt.L v 3).length≤n):(Dt.L (addE v n c) 3).length=n+1:=by
 show (Dt.L v 3++List.replicate (n-(Dt.L v 3).length) nullD++[c]).length=_
 simp;omega
theorem stp_addE {v:Dt} (c:Dt) {n:Nat} (h6:Dt.I v 0=6) (h:(Dt.L v 3).length≤n) (t:ByteArray):stp t (addE v n c)=(match nu t with|some j=>if j≤n then .el j else .newe j|none=> .no):=by
 have e:stp t (addE v n c)=(match nu t with|some j=>if j<(Dt.L (addE v n c) 3).length then Stp.el j else .newe j|none=> .no):=by
  show (if Dt.I v 0=5 then _ else if Dt.I v 0=6 then _ else _)=_
  rw[if_neg (by omega),if_pos h6]
  rfl
 rw[e,addE_len v c h]
 cases nu t with
 |none=>rfl
 |some j=>
  simp only
  by_cases hj:j≤n
  ·rw[if_pos hj,if_pos (by omega)]
  ·rw[if_neg hj,if_neg (by omega)]
theorem chE_addE {v c:Dt} {n:Nat} (h:(Dt.L v 3).length≤n):chE (addE v n c) n=c:=by
 show (Dt.L v 3++List.replicate (n-(Dt.L v 3).length) nullD++[c]).getD n _=c
 rw[getD_lt (by simp;omega),List.getElem_append_right (by simp;omega)]
 simp
theorem chE_addE_lt {v c:Dt} {n j:Nat} (h:j<(Dt.L v 3).length):chE (addE v n c) j=chE v j:=by
 show (Dt.L v 3++List.replicate (n-(Dt.L v 3).length) nullD++[c]).getD j _=(Dt.L v 3).getD j _
 rw[getD_lt (by simp;omega),getD_lt h,List.getElem_append_left (by simp;omega),List.getElem_append_left h]
theorem chE_addE_mid {v c:Dt} {n j:Nat} (h:(Dt.L v 3).length≤j) (hj:j<n):chE (addE v n c) j=nullD:=by
 show (Dt.L v 3++List.replicate (n-(Dt.L v 3).length) nullD++[c]).getD j _=nullD
 rw[getD_lt (by simp;omega),List.getElem_append_left (by simp;omega),List.getElem_append_right h,List.getElem_replicate]
def eqS (a b:Dt):Bool:=a.toStr.toList==b.toStr.toList
def pfx:List Dt→List Dt→Bool
 | [],_=>true
 |a::r,b::s=>eqS a b&&pfx r s
 |_::_,[]=>false
theorem eqS_iff (a b:Dt):eqS a b=true↔a.toStr=b.toStr:=eqb_iff _ _
inductive Apart:List Dt→List Dt→Prop where
 |now {s t:Dt} {p q:List Dt} (h:s.toStr≠t.toStr):Apart (s::p) (t::q)
 |later {s t:Dt} {p q:List Dt} (h:s.toStr=t.toStr) (r:Apart p q):Apart (s::p) (t::q)
theorem apart_of:∀{p q:List Dt},(pfx p q||pfx q p)=false→Apart p q
 | [],q,h=>by simp[pfx] at h
 |s::p,[],h=>by simp[pfx] at h
 |s::p,t::q,h=>by
  by_cases e:s.toStr=t.toStr
  ·have e1:=(eqS_iff s t).2 e
   have e2:=(eqS_iff t s).2 e.symm
   rw[pfx,pfx,e1,e2,Bool.true_and,Bool.true_and] at h
   exact .later e (apart_of h)
  ·exact .now e
theorem stp_wrap (s t:ByteArray) (d:Dt):stp t (wrapD s d)=if s=t then .fld 0 else .newf:=by
 show (match fi t [Dt.agg [.str s,d]] with|some k=>Stp.fld k|none=> .newf)=_
 have:=ff_app t s d []
 rw[List.nil_append] at this
 rw[this]
 by_cases h:s=t
 ·rw[if_pos h,show fi t []=none from rfl,(eqb_iff s t).2 h];rfl
 ·have e:eqb s t=false:=by rw[Bool.eq_false_iff];exact fun e=>h ((eqb_iff s t).1 e)
  rw[if_neg h,show fi t []=none from rfl,e];rfl
theorem getD_nest:∀(p:List Dt) (x:Dt),getD p (nestD p x)=x
 | [],x=>rfl
 |s::p,x=>by
  show getD (s::p) (wrapD s.toStr (nestD p x))=x
  rw[getD,stp_wrap,if_pos rfl]
  exact getD_nest p x
theorem getD_apart {p q:List Dt} (h:Apart p q) (x:Dt):getD q (nestD p x)=zeroD:=by
 induction h with
 | @now s t p q h=>
   show getD (t::q) (wrapD s.toStr (nestD p x))=zeroD
   rw[getD,stp_wrap,if_neg h]
 | @later s t p q h _ ih=>
   show getD (t::q) (wrapD s.toStr (nestD p x))=zeroD
   rw[getD,stp_wrap,if_pos h]
   exact ih
theorem getD_null:∀q:List Dt,getD q nullD=zeroD∨getD q nullD=nullD
 | []=> .inr rfl
 |_::_=> .inl rfl
theorem get_put:∀(p:List Dt) (v x:Dt),(putP p v x).2=true→getD p (putP p v x).1=x
 | [],_,_,_=>rfl
 |s ::p,v,x,h=>by
  rw[putP] at h ⊢
  have hs:=stp_is s.toStr v
  generalize e:stp s.toStr v=S at hs h ⊢
  cases hs with
  | @fld k h5 h' hk=>
    simp only at h ⊢
    rw[getD,stp_setF,e]
    simp only
    rw[chF_setF hk]
    exact get_put p _ x h
  | newf h5 h'=>
    simp only
    rw[getD,stp_addF _ h5,e]
    simp only[if_true]
    rw[chF_addF]
    exact getD_nest p x
  | @el n h6 h' hn=>
    simp only at h ⊢
    rw[getD,stp_setE,e]
    simp only
    rw[chE_setE hn]
    exact get_put p _ x h
  | @newe n h6 h' hn=>
    simp only
    rw[getD,stp_addE _ h6 hn,h']
    simp only[Nat.le_refl,if_true]
    rw[chE_addE hn]
    exact getD_nest p x
  |no6 h6 h'=>cases h
  |no h5 h6=>cases h
theorem get_apart {p q:List Dt} (h:Apart p q):∀v x:Dt,getD q (putP p v x).1=getD q v∨(getD q v=zeroD∧getD q (putP p v x).1=nullD):=by
 induction h with
 | @now s t p q hne=>
   intro v x
   rw[putP]
   have hs:=stp_is s.toStr v
   have ht:=stp_is t.toStr v
   generalize e:stp s.toStr v=S at hs ⊢
   generalize e':stp t.toStr v=T at ht
   cases hs with
   | @fld k h5 h' hk=>
     left
     simp only
     rw[getD,getD,stp_setF,e']
     cases ht with
     |  @fld j _ g hj=>
        simp only
        have hjk:j≠k:=fun e=>by subst e;exact hne (ff_inj h' g)
        rw[chF_setF_ne hjk]
     |el h6=>exact absurd h5 (by omega)
     |_=>rfl
   | newf h5 h'=>
     left
     simp only
     rw[getD,getD,stp_addF _ h5,e']
     cases ht with
     | @fld j _ g hj=>simp only;rw[chF_addF_lt hj]
     |newf=>simp only;rw[if_neg hne]
     |el h6=>exact absurd h5 (by omega)
     |_=>rfl
   | @el n h6 h' hn=>
     left
     simp only
     rw[getD,getD,stp_setE,e']
     cases ht with
     |  @el j _ g hj=>
        simp only
        have hjk:j≠n:=fun e=>by subst e;exact hne (nu_inj h' g)
        rw[chE_setE_ne hjk]
     |fld h5=>exact absurd h6 (by omega)
     |_=>rfl
   | @newe n h6 h' hn=>
     simp only
     rw[getD,getD,stp_addE _ h6 hn,e']
     cases ht with
     | @el j _ g hj=>left;rw[g];simp only;rw[if_pos (by omega)];simp only;rw[chE_addE_lt hj]
     |  @newe j _ g hj=>
        rw[g]
        simp only
        have hjn:j≠n:=fun e=>by subst e;exact hne (nu_inj h' g)
        by_cases hj2:j≤n
        ·rw[if_pos hj2]
         simp only
         rw[chE_addE_mid hj (by omega)]
         rcases getD_null q with h|h
         ·exact .inl h
         ·exact .inr ⟨trivial,h⟩
        ·rw[if_neg hj2]
         exact .inl rfl
     |no6 _ g=>left;rw[g]
     |no _ g=>exact absurd h6 g
     |fld h5=>exact absurd h6 (by omega)
     |newf h5=>exact absurd h6 (by omega)
   |no6 h6 h'=>exact .inl rfl
   |no h5 h6=>exact .inl rfl
 | @later s t p q he ha ih=>
   intro v x
   rw[putP]
   have hs:=stp_is s.toStr v
   have e':stp t.toStr v=stp s.toStr v:=by rw[he]
   generalize e:stp s.toStr v=S at hs e' ⊢
   cases hs with
   | @fld k h5 h' hk=>
     simp only
     rw[getD,getD,stp_setF,e']
     simp only
     rw[chF_setF hk]
     exact ih _ x
   | newf h5 h'=>
     left
     simp only
     rw[getD,getD,stp_addF _ h5,e']
     simp only[he,if_true]
     rw[chF_addF,getD_apart ha]
   | @el n h6 h' hn=>
     simp only
     rw[getD,getD,stp_setE,e']
     simp only
     rw[chE_setE hn]
     exact ih _ x
   | @newe n h6 h' hn=>
     left
     simp only
     rw[getD,getD,stp_addE _ h6 hn,e',←he,h']
     simp only[Nat.le_refl,if_true]
     rw[chE_addE hn,getD_apart ha]
   |no6 h6 h'=>exact .inl rfl
   |no h5 h6=>exact .inl rfl
def Dst (L:List Dt):Prop:=∀s k,fi s L=some k→fi s (L.eraseIdx k)=none
inductive Dd:Dt→Prop where
 |mk {v:Dt} (hN:Dt.I v 0=5→Dst (Dt.L v 4)) (hF:Dt.I v 0=5→∀k,k<(Dt.L v 4).length→Dd (chF v k)) (hE:Dt.I v 0=6→∀n,n<(Dt.L v 3).length→Dd (chE v n)):Dd v
theorem stp_erase {s:ByteArray} {v:Dt} {k:Nat} (h5:Dt.I v 0=5) (hd:Dst (Dt.L v 4)) (h:fi s (Dt.L v 4)=some k):stp s (mkV v (Dt.L v 3) ((Dt.L v 4).eraseIdx k))= .newf:=by
 show (if Dt.I v 0=5 then(match fi s ((Dt.L v 4).eraseIdx k) with|some k=>Stp.fld k|none=> .newf) else _)=_
 rw[if_pos h5,hd s k h]
theorem get_drop:∀(p:List Dt) (v:Dt),p≠[]→Dd v→getD p (dropP p v)=zeroD∨getD p (dropP p v)=nullD∨Dt.I (getD p (dropP p v)) 0=0∨Dt.I (getD p (dropP p v)) 0=2
 | [],_,h,_=>absurd rfl h
 |s::p,v,_,hd=>by
  rw[dropP]
  have hs:=stp_is s.toStr v
  generalize e:stp s.toStr v=S at hs ⊢
  cases hd with
  |mk hN hF hE=>
   cases hs with
   |    @fld k h5 h' hk=>
        simp only
        cases p with
        |nil=>
         left
         simp only[List.isEmpty_nil,if_true]
         rw[getD,stp_erase h5 (hN h5) h']
        |cons a r=>
         simp only[List.isEmpty_cons,Bool.false_eq_true,if_false]
         rw[getD,stp_setF,e]
         simp only
         rw[chF_setF hk]
         exact get_drop (a::r) _ (by simp) (hF h5 k hk)
   |newf h5 h'=>left;simp only;rw[getD,e]
   |    @el n h6 h' hn=>
        simp only
        cases p with
        |nil=>
         right;left
         simp only[List.isEmpty_nil,if_true]
         rw[getD,stp_setE,e]
         simp only
         rw[chE_setE hn]
         rfl
        |cons a r=>
         simp only[List.isEmpty_cons,Bool.false_eq_true,if_false]
         rw[getD,stp_setE,e]
         simp only
         rw[chE_setE hn]
         exact get_drop (a::r) _ (by simp) (hE h6 n hn)
   |newe h6 h'=>left;simp only;rw[getD,e]
   |no6 h6 h'=>left;simp only;rw[getD,e]
   |no h5 h6=>left;simp only;rw[getD,e]
theorem drop_drop:∀(p:List Dt) (v:Dt),Dd v→dropP p (dropP p v)=dropP p v
 | [],_,_=>rfl
 |s::p,    v,hd=>by
  have key:∀w,dropP (s::p) v=w→dropP (s::p) w=w:=by
   intro w hw
   rw[dropP] at hw
   have hs:=stp_is s.toStr v
   generalize e:stp s.toStr v=S at hs hw
   cases hd with
   |    mk hN hF hE=>
        cases hs with
        | @fld k h5 h' hk=>
          simp only at hw
          cases p with
          |nil=>
           simp only[List.isEmpty_nil,if_true] at hw
           subst hw
           rw[dropP,stp_erase h5 (hN h5) h']
          |cons a r=>
           simp only[List.isEmpty_cons,Bool.false_eq_true,if_false] at hw
           subst hw
           rw[dropP,stp_setF,e]
           simp only[List.isEmpty_cons,Bool.false_eq_true,if_false]
           rw[chF_setF hk,setF_setF,drop_drop (a::r) _ (hF h5 k hk)]
        |newf h5 h'=>simp only at hw;subst hw;rw[dropP,e]
        | @el n h6 h' hn=>
          simp only at hw
          cases p with
          |nil=>
           simp only[List.isEmpty_nil,if_true] at hw
           subst hw
           rw[dropP,stp_setE,e]
           simp only[List.isEmpty_nil,if_true]
           rw[setE_setE]
          |cons a r=>
           simp only[List.isEmpty_cons,Bool.false_eq_true,if_false] at hw
           subst hw
           rw[dropP,stp_setE,e]
           simp only[List.isEmpty_cons,Bool.false_eq_true,if_false]
           rw[chE_setE hn,setE_setE,drop_drop (a::r) _ (hE h6 n hn)]
        |newe h6 h'=>simp only at hw;subst hw;rw[dropP,e]
        |no6 h6 h'=>simp only at hw;subst hw;rw[dropP,e]
        |no h5 h6=>simp only at hw;subst hw;rw[dropP,e]
  exact key _ rfl
theorem fl_none {q:ByteArray→Bool} {g:Dt→Bool} {s:ByteArray}:∀{L:List Dt} {seen:List ByteArray},fl q g seen L=true→s∈seen→fi s L=none
 | [],_,_,_=>rfl
 |f::r,seen,h,hs=>by
  rw[fl,Bool.and_eq_true,Bool.and_eq_true,Bool.and_eq_true] at h
  obtain⟨⟨⟨_,h1⟩,_⟩,h2⟩:=h
  rw[fi]
  have hc:(ByteArray.toList (Dt.S f 0)==ByteArray.toList s)=false:=by
   rw[Bool.eq_false_iff]
   intro e
   have:(seen.any (eqb (Dt.S f 0)))=true:=List.any_eq_true.2 ⟨s,hs,e⟩
   rw[this] at h1
   cases h1
  rw[hc,cond_false,fl_none h2 (List.mem_append_left _ hs)]
  rfl
theorem fl_dst {q:ByteArray→Bool} {g:Dt→Bool}:∀{L:List Dt} {seen:List ByteArray},fl q g seen L=true→Dst L
 | [],_,_=>fun s k h=>by cases h
 |f::r,seen,h=>fun s k hk=>by
  rw[fl,Bool.and_eq_true,Bool.and_eq_true,Bool.and_eq_true] at h
  obtain⟨⟨⟨_,h1⟩,_⟩,h2⟩:=h
  rw[fi] at hk
  cases hc:(ByteArray.toList (Dt.S f 0)==ByteArray.toList s) with
  |true=>
   rw[hc] at hk
   cases hk
   have e:Dt.S f 0=s:=(eqb_iff _ _).1 hc
   subst e
   exact fl_none h2 (List.mem_append_right _ (List.mem_singleton.2 rfl))
  |false=>
   rw[hc,cond_false] at hk
   cases hr:fi s r with
   |none=>rw[hr] at hk;cases hk
   |    some j=>
        rw[hr] at hk
        cases hk
        show fi s (f::r.eraseIdx j)=none
        rw[fi,hc,cond_false,fl_dst h2 s j hr]
        rfl
theorem fl_self {q:ByteArray→Bool} {g:Dt→Bool}:∀{L:List Dt} {seen:List ByteArray},fl q g seen L=true→∀f∈L,g (Dt.fld f 1)=true
 | [],_,_,_,hf=>by cases hf
 |f::r,seen,h,e,he=>by
  rw[fl,Bool.and_eq_true,Bool.and_eq_true,Bool.and_eq_true] at h
  obtain⟨⟨⟨_,_⟩,h1⟩,h2⟩:=h
  rcases List.mem_cons.1 he with rfl|he
  ·exact h1
  ·exact fl_self h2 e he
theorem snd_dd {q:ByteArray→Bool}:∀{n:Nat} {d:Dt},sndF q n d=true→Dd d
 |0,d,h=>by cases h
 |n+1,d,h=>by
  rw[sndF,Bool.and_eq_true] at h
  have h:=h.2
  refine .mk (fun h5=>?_) (fun h5 k hk=>?_) (fun h6 j hj=>?_)
  ·rw[h5] at h
   exact fl_dst (show fl q (sndF q n) [] (Dt.L d 4)=true from h)
  ·rw[h5] at h
   have:=fl_self (show fl q (sndF q n) [] (Dt.L d 4)=true from h) _ (List.getElem_mem hk)
   unfold chF
   rw[getD_lt hk]
   exact snd_dd this
  ·rw[h6] at h
   have:=List.all_eq_true.1 (show (Dt.L d 3).all (sndF q n)=true from h) _ (List.getElem_mem hj)
   unfold chE
   rw[getD_lt hj]
   exact snd_dd this
end Go.Proofs.YtmjnmiahblaanaaDoor
namespace Go.Proofs.YtmjnmiahblaanaaDoor
open Go.Am
def nb:List Dt→Nat
 | []=>0
 |s::p=>s.toStr.size+8+nb p
theorem nb_le:∀p:List Dt,nb p≤8*Dt.bulkL p
 | []=>Nat.le_refl _
 |s::p=>by
  have h1:=nb_le p
  have h2:s.toStr.size+1≤s.bulk:=by
   cases s with
   |str t=>simp only[Dt.toStr,Dt.bulk];omega
   |_=>simp only[Dt.toStr,Dt.bulk];first|exact Nat.le_add_left _ _|(have:ByteArray.empty.size=0:=rfl;omega)
  simp only[nb,Dt.bulkL]
  omega
theorem nest_cons (s:Dt) (p:List Dt) (x:Dt):nestD (s::p) x=wrapD s.toStr (nestD p x):=rfl
theorem nest_wv:∀(p:List Dt) {x:Dt},WV x→WV (nestD p x)∧(nestD p x).bulk=x.bulk+nb p
 | [],x,hw=>⟨hw,rfl⟩
 |s::p,x,hw=>by
  obtain⟨h1,h2⟩:=nest_wv p hw
  rw[nest_cons]
  refine⟨.mk (by simp) (fun f hf=>?_),?_⟩
  ·rw[List.mem_singleton.1 hf];exact .mk h1
  ·have e:=bulk_fld (s:=s.toStr) (v:=nestD p x)
   rw[wrapD,bulk_val,Dt.bulkL,Dt.bulkL,Dt.bulkL,e,h2,nb,show (ByteArray.mk #[]).size=0 from rfl]
   omega
theorem addF_wv {v c:Dt} (s:ByteArray) (hw:WV v) (hc:WV c):WV (addF v s c)∧(addF v s c).bulk=v.bulk+c.bulk+(s.size+2):=by
 refine⟨mkV_wv v (wv_L hw).1 fun f hf=>?_,?_⟩
 ·rcases List.mem_append.1 hf with hf|hf
  ·exact(wv_L hw).2.1 f hf
  ·rw[List.mem_singleton.1 hf];exact .mk hc
 ·rw[addF,mkV_bulk,bulkL_app,Dt.bulkL,Dt.bulkL,bulk_fld,(wv_L hw).2.2]
  omega
theorem bulkL_rep (x:Dt):∀n:Nat,Dt.bulkL (List.replicate n x)=n*x.bulk
 |0=>by simp[Dt.bulkL]
 |n+1=>by rw[List.replicate_succ,Dt.bulkL,bulkL_rep x n,Nat.succ_mul];omega
theorem addE_wv {v c:Dt} {n:Nat} (hw:WV v) (hc:WV c):WV (addE v n c)∧(addE v n c).bulk≤v.bulk+c.bulk+6*n:=by
 refine⟨mkV_wv v (fun e he=>?_) (wv_L hw).2.1,?_⟩
 ·rcases List.mem_append.1 he with he|he
  ·rcases List.mem_append.1 he with he|he
   ·exact(wv_L hw).1 e he
   ·rw[(List.mem_replicate.1 he).2];exact nullD_wv
  ·rw[List.mem_singleton.1 he];exact hc
 ·rw[addE,mkV_bulk,bulkL_app,bulkL_app,bulkL_rep,Dt.bulkL,Dt.bulkL,show nullD.bulk=6 from rfl,(wv_L hw).2.2]
  omega
theorem putP_wv:∀(p:List Dt) {v x:Dt},WV v→WV x→WV (putP p v x).1∧(putP p v x).1.bulk≤v.bulk+x.bulk+nb p+60000
 | [],v,x,hw,hx=>⟨hx,show x.bulk≤_ by omega⟩
 |s ::p,v,x,hw,hx=>by
  rw[putP]
  have hs:=stp_is s.toStr v
  generalize stp s.toStr v=S at hs
  cases hs with
  | @fld k h5 h hk=>
    have hc:=ch_F hw hk
    have h2:=putP_wv p hc.2.1 hx
    have:=setF_bulk (c:=(putP p (chF v k) x).1) hw hk
    refine⟨setF_wv hw h2.1 k,?_⟩
    simp only[nb]
    omega
  | newf h5 h=>
    have h1:=nest_wv p hx
    have h2:=addF_wv s.toStr hw h1.1
    refine⟨h2.1,?_⟩
    simp only[nb]
    omega
  | @el n h6 h hn=>
    have hc:=ch_E hw hn
    have h2:=putP_wv p hc.2.1 hx
    have:=setE_bulk (c:=(putP p (chE v n) x).1) hw hn
    refine⟨setE_wv hw h2.1 n,?_⟩
    simp only[nb]
    omega
  | @newe n h6 h hn=>
    have h1:=nest_wv p hx
    have h2:=addE_wv (n:=n) hw h1.1
    have:=nu_lt h
    refine⟨h2.1,?_⟩
    simp only[nb]
    omega
  |no6 h6 h=>exact⟨hw,show v.bulk≤_ by omega⟩
  |no h5 h6=>exact⟨hw,show v.bulk≤_ by omega⟩
end Go.Proofs.YtmjnmiahblaanaaDoor
namespace Go.Proofs.YtmjnmiahblaanaaDoor
open Go.Am
def vld (l:List Dt):Bool:=decide (1≤l.length)&&decide (l.length≤16)&&l.all fun e=>nm e.toStr
theorem notName_l (m:Nat) (s:ByteArray) (hs:s.size<9223372036854775807):∀(M i:Nat),i≤s.size→s.size-i<M→P1.path_notName_l3 m M s (s.size:Int) (i:Int)=some (!((s.data.toList.drop i).all okB))
 |0,i,_,h=>by omega
 |M+1,i,hi,h=>by
  simp only[P1.path_notName_l3,dlt]
  by_cases hlt:i<s.size
  ·rw[getB s i hlt]
   simp only[hlt,decide_true,cond_true,P1.path_notName_j4,P1.path_notName_j5,P1.path_notName_j6,idxS_lt hlt,Option.bind_some,wrapS (show i<9223372036854775807 by omega),notName_l m s hs M (i+1) (by omega) (by omega),List.all_cons,okB]
   cases decide (((s[i]).toNat:Int)<33)<;>cases decide ((126:Int)<((s[i]).toNat:Int))<;>cases (((s[i]).toNat:Int)==46)<;>rfl
  ·have:i=s.size:=by omega
   subst this
   rw[List.drop_eq_nil_of_le (by rw[lenB];omega)]
   simp[P1.path_notName_j7]
theorem notName_eq (m:Nat) (hm:33≤m) (s:ByteArray):P1.path_notName (m+1) s=some (!nm s):=by
 rw[P1.path_notName]
 by_cases h1:s.size<1
 ·rw[decide_eq_true (show ((s.size:Nat):Int)<1 by omega),cond_true,nm_short s h1]
  rfl
 rw[decide_eq_false (show ¬((s.size:Nat):Int)<1 by omega),cond_false]
 by_cases h2:32<s.size
 ·rw[decide_eq_true (show (32:Int)<((s.size:Nat):Int) by omega),cond_true,nm_long s h2]
  rfl
 rw[decide_eq_false (show ¬(32:Int)<((s.size:Nat):Int) by omega),cond_false]
 have hx:idxS s 0=some (s[0].toNat:Int):=idxS_lt (s:=s) (i:=0) (by omega)
 have hl:=notName_l m s (by omega) (m+1) 0 (by omega) (by omega)
 rw[List.drop_zero] at hl
 have hl':P1.path_notName_l3 m (Nat.succ m) s (s.size:Int) 0=some (!s.data.toList.all okB):=hl
 simp only[hx,Option.bind_some,P1.path_notName_j0,P1.path_notName_j1,P1.path_notName_j2,hl',nm_parts s (by omega) (by omega)]
 cases (((s[0]).toNat:Int)==36)<;>rfl
theorem indexf_l (m:Nat) (hm:34≤m) (l:List Dt) (hl:l.length<9223372036854775807):∀(M i:Nat),i≤l.length→l.length-i<M→∃r,P1.i4_l1 m M l (l.length:Int) (i:Int)=some r∧decide ((0:Int)≤r)=!((l.drop i).all fun e=>nm e.toStr)
 |0,i,_,h=>by omega
 |M+1,i,hi,h=>by
  obtain⟨m,rfl⟩:∃k,m=k+1:=⟨m-1,by omega⟩
  simp only[P1.i4_l1,dlt]
  by_cases hlt:i<l.length
  ·rw[List.drop_eq_getElem_cons hlt]
   obtain⟨r,h1,h2⟩:=indexf_l (m+1) hm l hl M (i+1) (by omega) (by omega)
   simp only[hlt,decide_true,cond_true,P1.i4_j2,P1.i4_j3,idx_lt hlt,Option.bind_some,wrapS (show i<9223372036854775807 by omega),notName_eq m (by omega),h1,List.all_cons]
   cases hn:nm (l[i]).toStr
   ·exact⟨(i:Int),by simp,by simp⟩
   ·exact⟨r,by simp,by simpa using h2⟩
  ·have:i=l.length:=by omega
   subst this
   exact⟨-1,by simp[P1.i4_j4],by simp⟩
theorem valid_eq (m:Nat) (hm:40≤m) (l:List Dt):P1.path_Valid (m+3) l=some (vld l):=by
 rw[P1.path_Valid,vld]
 by_cases h1:1≤l.length
 ·rw[decide_eq_true (show (1:Int)≤((l.length:Nat):Int) by omega),cond_true,decide_eq_true h1,Bool.true_and]
  by_cases h2:l.length≤16
  ·rw[decide_eq_true (show ((l.length:Nat):Int)≤(16:Int) by omega),cond_true,decide_eq_true h2,Bool.true_and]
   obtain⟨r,h3,h4⟩:=indexf_l m (by omega) l (by omega) (m+1) 0 (by omega) (by omega)
   have h3':P1.i4_l1 m (Nat.succ m) l (l.length:Int) 0=some r:=h3
   simp only[P1.i3,P1.i4,P1.i4_j0,h3',Option.bind_some,h4,Bool.not_not,List.drop_zero]
  ·rw[decide_eq_false (show ¬((l.length:Nat):Int)≤(16:Int) by omega),cond_false,decide_eq_false h2,Bool.false_and]
 ·rw[decide_eq_false (show ¬(1:Int)≤((l.length:Nat):Int) by omega),cond_false,decide_eq_false h1,Bool.false_and,Bool.false_and]
theorem refvalid_l (m:Nat) (hm:34≤m) (l:List Dt) (hl:l.length<9223372036854775807):∀(M i:Nat),i≤l.length→l.length-i<M→ref04_Valid_l3 m M l (i:Int)=some ((l.drop i).all fun e=>nm e.toStr)
 |0,i,_,h=>by omega
 |M+1,i,hi,h=>by
  obtain⟨m,rfl⟩:∃k,m=k+1:=⟨m-1,by omega⟩
  simp only[ref04_Valid_l3,dlt]
  by_cases hlt:i<l.length
  ·rw[List.drop_eq_getElem_cons hlt]
   simp only[hlt,decide_true,cond_true,ref04_Valid_j5,ref04_Valid_j4,ref04_Valid_j6,ref04_Valid_j2,ref04_Valid_j1,ref04_Valid_j0,idx_lt hlt,Option.bind_some,wrapS (show i<9223372036854775807 by omega),name_eq m (by omega),refvalid_l (m+1) hm l hl M (i+1) (by omega) (by omega),List.all_cons]
   cases nm (l[i]).toStr<;>rfl
  ·have:i=l.length:=by omega
   subst this
   simp[ref04_Valid_j5,ref04_Valid_j4,ref04_Valid_j6,ref04_Valid_j2,ref04_Valid_j1,ref04_Valid_j0]
theorem refvalid_eq (m:Nat) (hm:40≤m) (l:List Dt):ref04_Valid (m+1) l=some (vld l):=by
 rw[ref04_Valid,vld]
 by_cases h1:l.length<1
 ·rw[decide_eq_true (show ((l.length:Nat):Int)<(1:Int) by omega),cond_true,decide_eq_false (show ¬1≤l.length by omega),Bool.false_and,Bool.false_and]
  rfl
 rw[decide_eq_false (show ¬((l.length:Nat):Int)<(1:Int) by omega),cond_false,decide_eq_true (show 1≤l.length by omega),Bool.true_and]
 by_cases h2:16<l.length
 ·rw[decide_eq_true (show (16:Int)<((l.length:Nat):Int) by omega),decide_eq_false (show ¬l.length≤16 by omega),Bool.false_and]
  rfl
 rw[decide_eq_false (show ¬(16:Int)<((l.length:Nat):Int) by omega),decide_eq_true (show l.length≤16 by omega),Bool.true_and]
 have h3:=refvalid_l m (by omega) l (by omega) (m+1) 0 (by omega) (by omega)
 have h3':ref04_Valid_l3 m (Nat.succ m) l 0=_:=h3
 simp only[cond_false,ref04_Valid_j5,ref04_Valid_j4,ref04_Valid_j6,ref04_Valid_j2,ref04_Valid_j1,ref04_Valid_j0,h3',List.drop_zero]
theorem fresh_l (m:Nat) (p:List Dt) (hp:p.length<9223372036854775807) (z:Dt):∀(M k:Nat) (x:Dt),k≤p.length→k<M→ref04_fresh_l1 m M p ((k:Int)-1) x z=some (nestD (p.take k) x)
 |0,k,x,_,h=>by omega
 |M+1,0,x,_,_=>rfl
 |M+1,k+1,x,hk,h=>by
  have hlt:k<p.length:=by omega
  have e:((k+1:Nat):Int)-1=(k:Int):=by omega
  rw[ref04_fresh_l1,e,dp1,cond_true,ref04_fresh_j2,idx_lt hlt,Option.bind_some,ref04_fresh_j3,wrap64 (n:=(k:Int)-1) (by omega) (by omega)]
  have ih:=fresh_l m p hp z M k (wrapD (Dt.toStr p[k]) x) (by omega) (by omega)
  rw[List.take_succ_eq_append_getElem hlt]
  show _=some (nestD (p.take k++[p[k]]) x)
  rw[nestD,List.foldr_append]
  exact ih
theorem fresh_eq (m:Nat) (p:List Dt) (x:Dt) (hm:p.length≤m) (hm2:m<9223372036854775807):ref04_fresh (m+1) p x=some (nestD p x):=by
 rw[ref04_fresh,ref04_fresh_j0,wrap64 (n:=((p.length:Nat):Int)-1) (by omega) (by omega)]
 have:=fresh_l m p (by omega) zeroD (m+1) p.length x (Nat.le_refl _) (by omega)
 rw[List.take_length] at this
 exact this
theorem put_l (m:Nat) (self:Dt→List Dt→Dt→Option (Dt×Bool)) (p:List Dt) (n:Nat) (hn:n<10000) (v x z:Dt):∀(M:Nat) (l:List Dt),n-l.length<M→l.length≤137438953472-20000→
  ref04_put_l6 (m+1) self M p (n:Int) v x z l=ref04_put_j8 (m+1) self p (n:Int) v x z (l++List.replicate (n-l.length) nullD)
 |0,l,h,_=>by omega
 |M+1,l,h,hl=>by
  rw[ref04_put_l6,dlt]
  by_cases hlt:l.length<n
  ·rw[decide_eq_true hlt,cond_true,ref04_put_j7]
   have ha:app l [nullD]=some (l++[nullD]):=app_le (by simp;omega)
   have e:ref01_Null (m+1)=some nullD:=rfl
   rw[e,Option.bind_some,ha,Option.bind_some,put_l m self p n hn v x z M (l++[nullD]) (by simp;omega) (by simp;omega),List.length_append,List.length_singleton,List.append_assoc,show [nullD]++List.replicate (n-(l.length+1)) nullD=List.replicate (n-l.length) nullD by rw[show n-l.length=(n-(l.length+1))+1 by omega,List.replicate_succ];rfl]
  ·rw[decide_eq_false hlt,cond_false,show n-l.length=0 by omega,List.replicate_zero,List.append_nil]
theorem rput_eq:∀(p:List Dt) (N:Nat) (v x:Dt),WV v→v.bulk≤N→N+20000≤137438953472→∀m,N+p.length+20000≤m→m<9223372036854775807→∃r,ref04_put (m+1) v p x=some r∧r.2=(putP p v x).2∧(r.2=true→r.1=(putP p v x).1)
 | [],N,v,x,hw,hb,hN,m,hm,hm2=>⟨(x,true),rfl,rfl,fun _=>rfl⟩
 |s ::p,N,v,x,hw,hb,hN,m,hm,hm2=>by
  rw[List.length_cons] at hm
  obtain⟨m,rfl⟩:∃q,m=q+2:=⟨m-2,by omega⟩
  have hn:=L_len v 4
  have hn3:=L_len v 3
  have ih:=fun(c:Dt) (h1:WV c) (h2:c.bulk≤N)=>rput_eq p N c x h1 h2 hN (m+1) (by omega) (by omega)
  have hf:ref04_fresh (m+2) p x=some (nestD p x):=fresh_eq (m+1) p x (by omega) (by omega)
  rw[ref04_put,c1,cond_false,ref04_put_j0,putP]
  have hs:=stp_is s.toStr v
  generalize stp s.toStr v=S at hs
  cases hs with
  | @fld k h5 h' hk=>
    have hc:=ch_F hw hk
    obtain⟨r,e1,e2,e3⟩:=ih _ hc.2.1 (by omega)
    have e1:ref04_put (m+2) (chF v k) p x=some r:=e1
    simp only[(b5 h5).1,cond_true,idx0,Option.bind_some,rget1 m s.toStr v h5 (by omega) (by omega),h',Bool.not_true,cond_false,ref04_put_j1,cutL1,e1,set_some m s.toStr v r.1 k h5 (by omega) (by omega) (by omega) h']
    exact⟨_,rfl,e2,fun h=>by rw[e3 h]⟩
  | newf h5 h'=>
    simp only[(b5 h5).1,cond_true,idx0,Option.bind_some,rget1 m s.toStr v h5 (by omega) (by omega),h',Bool.not_false,cutL1,hf,set_none m s.toStr v (nestD p x) h5 (by omega) (by omega) (by omega) h']
    exact⟨_,rfl,rfl,fun _=>rfl⟩
  | @el n h6 h' hn'=>
    have hc:=ch_E hw hn'
    obtain⟨r,e1,e2,e3⟩:=ih _ hc.2.1 (by omega)
    have e1:ref04_put (m+2) (Dt.L v 3)[n] p x=some r:=by rw[←hc.1];exact e1
    have hl:=put_l (m+1) (ref04_put (m+2)) (s::p) n (nu_lt h') v x zeroD (m+3) (Dt.L v 3) (by omega) (by omega)
    rw[show n-(Dt.L v 3).length=0 by omega,List.replicate_zero,List.append_nil] at hl
    simp only[(b6 h6).1,(b6 h6).2.2.2,cond_false,ref04_put_j2,idx0,Option.bind_some,ref_num (m+1) (by omega),h',oP1,Bool.not_true,ref04_put_j3,ref04_put_j4,app_nil (show (Dt.L v 3).length≤137438953472 by omega),ref04_put_j5]
    refine⟨(setE v n r.1,r.2),(hl.trans ?_),e2,fun h=>by rw[e3 h]⟩
    rw[ref04_put_j8,dlt,decide_eq_true hn',cond_true,inL_lt hn',Option.bind_some,get?_lt hn',Option.bind_some,cutL1,Option.bind_some,e1,Option.bind_some,Option.bind_some,Option.bind_some,ref04_put_j9,Int.toNat_natCast]
    rfl
  | @newe n h6 h' hn'=>
    have hl:=put_l (m+1) (ref04_put (m+2)) (s::p) n (nu_lt h') v x zeroD (m+3) (Dt.L v 3) (by have:=nu_lt h';omega) (by omega)
    have hle:(Dt.L v 3++List.replicate (n-(Dt.L v 3).length) nullD).length=n:=by simp;omega
    simp only[(b6 h6).1,(b6 h6).2.2.2,cond_false,ref04_put_j2,idx0,Option.bind_some,ref_num (m+1) (by omega),h',oP1,Bool.not_true,ref04_put_j3,ref04_put_j4,app_nil (show (Dt.L v 3).length≤137438953472 by omega),ref04_put_j5]
    refine⟨(addE v n (nestD p x),true),(hl.trans ?_),rfl,fun _=>rfl⟩
    have hnu:=nu_lt h'
    rw[ref04_put_j8,dlt,hle,decide_eq_false (Nat.lt_irrefl n),cond_false,cutL1,Option.bind_some,hf,Option.bind_some,app_le (show _+[nestD p x].length≤137438953472 by rw[hle,List.length_singleton];omega),Option.bind_some,ref04_put_j9]
    rfl
  | no6 h6 h'=>
    simp only[(b6 h6).1,(b6 h6).2.2.2,cond_false,ref04_put_j2,idx0,Option.bind_some,ref_num (m+1) (by omega),h',oPn,Bool.not_false,ref04_put_j3,cond_true]
    exact⟨_,rfl,rfl,fun h=>by cases h⟩
  | no h5 h6=>
    simp only[(b5n h5).1,(b6n h6).2,cond_false,ref04_put_j2,idx0,Option.bind_some,ref_num (m+1) (by omega),ref04_put_j3,cond_true]
    exact⟨_,rfl,rfl,fun h=>by cases h⟩
noncomputable def putR (v:Dt) (p:List Dt) (x:Dt):Dt×Int:=
 if vld p=false then(zeroD,10) else if Dt.I v 0≠5∨Dt.I x 0=0 then(zeroD,8) else if(putP p v x).2=true then((putP p v x).1,0) else(zeroD,10)
theorem putC_eq (v:Dt) (p:List Dt) (x:Dt) (hv:v.bulk≤137438900000) (hx:x.bulk≤137438900000):path_PutC v p x=some (putR v p x):=by
 have h1:P1.path_Valid 100 p=some (vld p):=valid_eq 97 (by omega) p
 rw[path_PutC,if_pos ⟨hv,hx⟩,h1,Option.bind_some,putD_eq p v x (by omega),putR]
 split
 ·rfl
 ·split
  ·rfl
  ·split<;>rfl
theorem rPut_eq (N:Nat) (p:List Dt) (v x:Dt) (hw:WV v) (hb:v.bulk≤N) (hN:N+20000≤137438953472) (m:Nat) (hm:N+p.length+20001≤m) (hm2:m<9223372036854775807):ref04_Put (m+1) v p x=some (putR v p x):=by
 obtain⟨m,rfl⟩:∃q,m=q+1:=⟨m-1,by omega⟩
 obtain⟨r,e1,e2,e3⟩:=rput_eq p N v x hw hb hN m (by omega) (by omega)
 rw[ref04_Put,refvalid_eq m (by omega),Option.bind_some,putR]
 cases vld p with
 |false=>rfl
 |true=>
  rw[Bool.not_true,cond_false,if_neg (by simp),ref04_Put_j0]
  by_cases h5:Dt.I v 0=5
  ·rw[(b5 h5).2,cond_false]
   by_cases h0:Dt.I x 0=0
   ·    rw[h0,if_pos (.inr rfl)]
        rfl
   ·    have h0':(Dt.I x 0==0)=false:=by rw[beq_eq_false_iff_ne];exact h0
        rw[h0',if_neg (by simp[h5,h0]),ref04_Put_j1,cond_false,ref04_Put_j2,e1,Option.bind_some,←e2]
        cases h:r.2 with
        |false=>rfl
        |true=>rw[Bool.not_true,cond_false,if_pos rfl,ref04_Put_j3,e3 h]
  ·rw[(b5n h5).2,cond_true,if_pos (.inl h5)]
   rfl
theorem putR_wv (v:Dt) (p:List Dt) (x:Dt) (hw:WV v) (hx:WV x):WV (putR v p x).1∧(putR v p x).1.bulk≤v.bulk+x.bulk+nb p+60000:=by
 have hz:WV zeroD∧zeroD.bulk≤v.bulk+x.bulk+nb p+60000:=⟨zeroD_wv,by have:=wv6 hw;show 6≤_;omega⟩
 unfold putR
 split
 ·exact hz
 ·split
  ·exact hz
  ·split
   ·exact putP_wv p hw hx
   ·exact hz
theorem law_puts (v:Dt) (p:List Dt) (x:Dt) (hw:WV v) (hx:WV x) (hb:v.bulk+Dt.bulkL p+x.bulk≤1048576) (m:Nat) (hm:400000000000≤m) (hm2:m<1000000000000):law04_PathPuts (m+1) v p x=some true:=by
 obtain⟨k,rfl⟩:∃k,m=k+4:=⟨m-4,by omega⟩
 obtain⟨b,hs1,hs2⟩:=small_eq p hw (by omega) k (by omega)
 obtain⟨c,ht1,ht2⟩:=small_eq [] hx (by omega) k (by omega)
 rw[law04_PathPuts,hs1,Option.bind_some]
 cases b with
 |false=>rfl
 |true=>
  rw[Bool.not_true,cond_false,ht1,Option.bind_some]
  cases c with
  |false=>rfl
  |true=>
   have hp:=hs2 rfl
   have hn:=nb_le p
   have hr:=putR_wv v p x hw hx
   have e1:path_PutC v p x=some (putR v p x):=putC_eq v p x (by omega) (by omega)
   have e2:ref04_Put (k+4) v p x=some (putR v p x):=rPut_eq 1048576 p v x hw (by omega) (by omega) (k+3) (by omega) (by omega)
   have e3:ref01_Same (k+4) (putR v p x).1 (putR v p x).1=some true:=same_refl 20000000 _ (by omega) (by omega) hr.1 (k+3) (by omega)
   rw[Bool.not_true,law04_PathPuts_j0,cond_false,law04_PathPuts_j1,e1,Option.bind_some,e2,Option.bind_some,beq_self_eq_true,cond_true,e3]
   rfl
theorem puts_fx {ds:List Dt} (h:HasTys Tryd.prog Tryd.f7.params.toList ds) (hb:Dt.bulkL ds≤1048576):FX Tryd.prog 7 (dats Tryd.f7.params.toList ds) [] (.dat 4 (.bool true)) []:=by
 have h':HasTys Tryd.prog [36,23,36] ds:=h
 cases h' with
 |cons h1 r=>cases r with
  |cons h2 r=>cases r with
   |    cons h3 r=>
        cases r
        have e2:=(ty_lst Tryd.underlying23 h2).1
        rw[e2] at hb ⊢
        simp only[Dt.bulkL,Dt.bulk] at hb
        exact law04_PathPuts_fx 400000000000 (ct_ok 400000000000) _ _ _ (law_puts _ _ _ (wv_of h1) (wv_of h3) (by omega) 400000000000 (Nat.le_refl _) (by omega))
end Go.Proofs.YtmjnmiahblaanaaDoor
namespace Go.Proofs.YtmjnmiahblaanaaDoor
open Go.Am
theorem eqS_comm (a b:Dt):eqS a b=eqS b a:=by simp[eqS,Bool.beq_comm]
theorem pfx_comm:∀{a b:List Dt},a.length=b.length→pfx a b=pfx b a
 | [],[],_=>rfl
 |a::r,b::s,h=>by simp[pfx,eqS_comm a b,pfx_comm (a:=r) (b:=s) (by simpa using h)]
 | [],_::_,h=>by simp at h
 |_::_,[],h=>by simp at h
theorem pfx_take:∀{a b:List Dt},a.length≤b.length→pfx a (b.take a.length)=pfx a b
 | [],_,_=>rfl
 |a::r,b::s,h=>by simp[pfx,pfx_take (a:=r) (b:=s) (by simpa using h)]
 |_::_,[],h=>by simp at h
theorem pfx_long:∀{a b:List Dt},b.length<a.length→pfx a b=false
 | [],_,h=>by simp at h
 |a::r,b::s,h=>by simp[pfx,pfx_long (a:=r) (b:=s) (by simpa using h)]
 |_::_,[],_=>rfl
theorem equal_l (m:Nat) (a b:List Dt) (hab:a.length=b.length) (hb:a.length<9223372036854775807):∀(M i:Nat),i≤a.length→a.length-i<M→slices_Equal_l2 m M a b (a.length:Int) (i:Int)=some (pfx (a.drop i) (b.drop i))
 |0,i,_,h=>by omega
 |M+1,i,hi,h=>by
  simp only[slices_Equal_l2,dlt]
  by_cases hlt:i<a.length
  ·rw[List.drop_eq_getElem_cons hlt,List.drop_eq_getElem_cons (show i<b.length by omega)]
   simp only[hlt,decide_true,cond_true,slices_Equal_j4,slices_Equal_j3,slices_Equal_j5,slices_Equal_j1,slices_Equal_j0,idx_lt hlt,idx_lt (show i<b.length by omega),Option.bind_some,wrapS (show i<9223372036854775807 by omega),equal_l m a b hab hb M (i+1) (by omega) (by omega),pfx,eqS]
   cases (a[i].toStr.toList==b[i].toStr.toList)<;>rfl
  ·have:i=a.length:=by omega
   subst this
   simp[slices_Equal_j4,slices_Equal_j3,slices_Equal_j5,slices_Equal_j1,slices_Equal_j0,pfx]
theorem equal_eq (m:Nat) (a b:List Dt) (hab:a.length=b.length) (ha:a.length≤m) (hm:m<9223372036854775807):slices_Equal (m+1) a b=some (pfx a b):=by
 have:=equal_l m a b hab (by omega) (m+1) 0 (by omega) (by omega)
 rw[hab] at this
 simp only[slices_Equal,hab,bne_self_eq_false,cond_false,slices_Equal_j4,slices_Equal_j3,slices_Equal_j5,slices_Equal_j1,slices_Equal_j0]
 simpa using this
def ovl (a b:List Dt):Bool:=pfx (a.take (min a.length b.length)) (b.take (min a.length b.length))
theorem overlap_eq (m:Nat) (a b:List Dt) (ha:a.length≤m) (hm:m<9223372036854775807):path_Overlap (m+2) a b=some (ovl a b):=by
 have hmin:(bif (decide (((b.length:Nat):Int)<((a.length:Nat):Int))) then((b.length:Nat):Int) else((a.length:Nat):Int))=((min a.length b.length:Nat):Int):=by
  rw[dlt]
  by_cases h:b.length<a.length
  ·simp only[h,decide_true,cond_true];omega
  ·simp only[h,decide_false,cond_false];omega
 have c1:=cutL_nat (l:=a) (i:=0) (j:=min a.length b.length) (by omega) (by omega)
 have c2:=cutL_nat (l:=b) (i:=0) (j:=min a.length b.length) (by omega) (by omega)
 rw[List.drop_zero,Nat.sub_zero] at c1 c2
 have c1:cutL a (0:Int) ((min a.length b.length:Nat):Int)=_:=c1
 have c2:cutL b (0:Int) ((min a.length b.length:Nat):Int)=_:=c2
 simp only[path_Overlap,hmin,c1,c2,Option.bind_some]
 rw[equal_eq m _ _ (by simp<;>omega) (by simp<;>omega) hm]
 rfl
theorem ovl_ref (a b:List Dt):ovl a b=(pfx a b||pfx b a):=by
 unfold ovl
 by_cases h:a.length≤b.length
 ·rw[Nat.min_eq_left h,List.take_length,pfx_take h]
  by_cases h2:a.length=b.length
  ·rw[pfx_comm h2];simp
  ·rw[pfx_long (a:=b) (b:=a) (by omega)];simp
 ·rw[Nat.min_eq_right (by omega),List.take_length,pfx_comm (by simp;omega),pfx_take (by omega),pfx_long (a:=a) (b:=b) (by omega)];simp
theorem dropC_eq (p:List Dt) (v:Dt) (hv:v.bulk≤137438900000):path_DropC v p=some (dropP p v):=by
 unfold path_DropC
 rw[if_pos hv,dropD_eq p v (by omega)]
 cases p<;>rfl
theorem okV_dd {d:Dt} (h:okV d=true):Dd d:=by
 unfold okV at h
 rw[Bool.and_eq_true] at h
 exact snd_dd h.2
theorem zn_same (m:Nat):ref01_Same (m+1) zeroD nullD=some false:=rfl
theorem changes_j4 (c:Dt) (v:Dt) (p:List Dt) (ev:Dt.fld c 0=v) (ep:Dt.L c 1=p) (hw:WV v) (hb:v.bulk≤1048576) (hd:Dd v) (hp:p.length≤20) (m:Nat) (hm:300000000≤m) (hm2:m<1000000000000):law04_PathChanges_j4 (m+1) c=some true:=by
 have hx:=dropP_wv p hw
 have e1:path_DropC v p=some (dropP p v):=dropC_eq p v (by omega)
 have e2:path_Get (m+1) (dropP p v) p=some (getD p (dropP p v)):=pget_eq 1048576 p _ hx.1 (by omega) (by omega) m (by omega) (by omega)
 have e3:path_DropC (dropP p v) p=some (dropP p v):=by rw[dropC_eq p _ (by omega),drop_drop p v hd]
 have e4:ref01_Same (m+1) (dropP p v) (dropP p v)=some true:=same_refl 1048576 _ (by omega) (by omega) hx.1 m (by omega)
 have e6:law04_PathChanges_j6 (m+1) c (dropP p v)=some true:=by
  rw[law04_PathChanges_j6,ep,e3,Option.bind_some,e4]
  rfl
 rw[law04_PathChanges_j4,ev,ep,e1,Option.bind_some,e2,Option.bind_some]
 cases p with
 |nil=>exact e6
 |cons s q=>
  rw[show decide ((0:Int)<(((s::q).length:Nat):Int))=true from decide_eq_true (by rw[List.length_cons];omega),cond_true]
  have hk:Dt.I (getD (s::q) (dropP (s::q) v)) 0=0∨Dt.I (getD (s::q) (dropP (s::q) v)) 0=2:=by
   rcases get_drop (s::q) v (by simp) hd with h|h|h|h
   ·rw[h];exact .inl rfl
   ·rw[h];exact .inr rfl
   ·exact .inl h
   ·exact .inr h
  rcases hk with hk|hk
  ·rw[hk];exact e6
  ·rw[hk];exact e6
theorem law_changes (c:Dt) (v x:Dt) (p q:List Dt) (ev:Dt.fld c 0=v) (ep:Dt.L c 1=p) (ex:Dt.fld c 2=x) (eq:Dt.L c 3=q) (hw:WV v) (hx:WV x) (hb:v.bulk+Dt.bulkL p+x.bulk+Dt.bulkL q≤1048576) (m:Nat) (hm:400000000000≤m) (hm2:m<1000000000000):law04_PathChanges (m+1) c=some true:=by
 obtain⟨k,rfl⟩:∃k,m=k+4:=⟨m-4,by omega⟩
 obtain⟨b,hs1,hs2⟩:=small_eq p hw (by omega) k (by omega)
 obtain⟨b',ht1,ht2⟩:=small_eq q hx (by omega) k (by omega)
 rw[law04_PathChanges,ev,ep,ex,eq,hs1,Option.bind_some]
 cases b with
 |false=>rfl
 |true=>
  rw[Bool.not_true,cond_false,ht1,Option.bind_some]
  cases b' with
  |false=>rfl
  |true=>
   have hp:=hs2 rfl
   have hq:=ht2 rfl
   rw[Bool.not_true,cond_false,rValid_eq hw k (by omega) (by omega) (by omega),Option.bind_some]
   cases ho:okV v with
   |false=>rfl
   |    true=>
        have hd:=okV_dd ho
        have hj4:law04_PathChanges_j4 (k+4) c=some true:=changes_j4 c v p ev ep hw (by omega) hd hp (k+3) (by omega) (by omega)
        have hn:=nb_le p
        have hr:=putR_wv v p x hw hx
        have e1:path_PutC v p x=some (putR v p x):=putC_eq v p x (by omega) (by omega)
        rw[Bool.not_true,law04_PathChanges_j0,cond_false,law04_PathChanges_j1,ev,ep,ex,e1,Option.bind_some]
        by_cases h0:(putR v p x).2=0
        ·have hput:putR v p x=((putP p v x).1,0)∧(putP p v x).2=true:=by
          unfold putR at h0 ⊢
          split at h0
          ·cases h0
          ·split at h0
           ·cases h0
           ·split at h0
            ·rename_i g1 g2 g3
             rw[if_neg g1,if_neg g2,if_pos g3]
             exact⟨rfl,g3⟩
            ·cases h0
         rw[hput.1] at hr ⊢
         obtain⟨hr1,hr2⟩:WV (putP p v x).1∧(putP p v x).1.bulk≤v.bulk+x.bulk+nb p+60000:=hr
         have e2:path_Get (k+4) (putP p v x).1 p=some x:=by
          have:=pget_eq 20000000 p (putP p v x).1 hr1 (by omega) (by omega) (k+3) (by omega) (by omega)
          rw[get_put p v x hput.2] at this
          exact this
         have e3:ref01_Same (k+4) x x=some true:=same_refl 1048576 _ (by omega) (by omega) hx (k+3) (by omega)
         simp only[beq_self_eq_true,cond_true,e2,e3,Option.bind_some,Bool.not_true,cond_false]
         have e4:path_Overlap (k+4) p q=some (ovl p q):=overlap_eq (k+2) p q (by omega) (by omega)
         rw[law04_PathChanges_j2,ev,ep,eq,e4,Option.bind_some]
         cases hov:ovl p q with
         |true=>exact hj4
         |false=>
          rw[ovl_ref] at hov
          have hap:=apart_of hov
          have hgv:=getD_wv q hw
          have e5:path_Get (k+4) v q=some (getD q v):=pget_eq 1048576 q v hw (by omega) (by omega) (k+3) (by omega) (by omega)
          have e6:path_Get (k+4) (putP p v x).1 q=some (getD q (putP p v x).1):=pget_eq 20000000 q _ hr1 (by omega) (by omega) (k+3) (by omega) (by omega)
          rw[Bool.not_false,cond_true,e5,Option.bind_some,e6,Option.bind_some]
          rcases get_apart hap v x with h| ⟨h1,h2⟩
          ·have e7:ref01_Same (k+4) (getD q v) (getD q v)=some true:=same_refl 1048576 _ (by omega) (by omega) hgv.1 (k+3) (by omega)
           rw[h,e7]
           exact hj4
          ·rw[h1,h2,show ref01_Same (k+4) zeroD nullD=some false from zn_same (k+3)]
           exact hj4
        ·rw[show ((putR v p x).2==0)=false by rw[beq_eq_false_iff_ne];exact h0,cond_false]
         exact hj4
theorem list4' {A:Type} {l:List A} (h:l.length=4):∃a b c d,l=[a,b,c,d]:=by
 match l,h with
 | [a,b,c,d],_=>exact⟨a,b,c,d,rfl⟩
theorem changes_fx {ds:List Dt} (h:HasTys Tryd.prog Tryd.f8.params.toList ds) (hb:Dt.bulkL ds≤1048576):FX Tryd.prog 8 (dats Tryd.f8.params.toList ds) [] (.dat 4 (.bool true)) []:=by
 have h':HasTys Tryd.prog [47] ds:=h
 cases h' with
 |cons h1 r=>
  cases r
  obtain⟨⟨l,rfl,hl⟩,hf⟩:=ty_agg Tryd.underlying47 h1
  obtain⟨v,p,x,q,rfl⟩:=list4' hl
  have a1:HasTy Tryd.prog 36 v:=hf 0 _ rfl
  have a2:HasTy Tryd.prog 23 p:=hf 1 _ rfl
  have a3:HasTy Tryd.prog 36 x:=hf 2 _ rfl
  have a4:HasTy Tryd.prog 23 q:=hf 3 _ rfl
  have e2:=(ty_lst Tryd.underlying23 a2).1
  have e4:=(ty_lst Tryd.underlying23 a4).1
  generalize p.toLst=p' at e2
  generalize q.toLst=q' at e4
  subst e2
  subst e4
  simp only[Dt.bulkL,Dt.bulk] at hb
  exact law04_PathChanges_fx 400000000000 (ct_ok 400000000000) _ (law_changes _ v x p' q' rfl rfl rfl rfl (wv_of a1) (wv_of a3) (by omega) 400000000000 (Nat.le_refl _) (by omega))
end Go.Proofs.YtmjnmiahblaanaaDoor
