/- The law on the paths of violations. -/
import Derived.Test.YtfneddmmeadacaaDoorMG
import Derived.Test.YtfneddmmeadacaaDoorMD
import Derived.Test.YtfneddmmeadacaaDoorFx
set_option linter.unusedVariables false
set_option linter.unusedSimpArgs false
namespace Go.Proofs.YtfneddmmeadacaaDoor
open Go.Am
theorem wrap8 {x:Int} (h0:0≤x) (h1:x<256):IntKind.wrap IntKind.u8 x=x:=by
 unfold IntKind.wrap
 simp only[IntKind.bits,IntKind.signed,Bool.false_and]
 simp
 omega
theorem ix_loop (m:Nat) (s:ByteArray) (n u:Nat) (hu:u<10000) (hn:u<n) (hs:s.size<9223372036854775807) (hd:∀c∈s.data.toList,48≤c.toNat∧c.toNat≤57):∀(M i k:Nat),i≤s.size→s.size-i<M→vA k (s.data.toList.drop i)=u→law14_index_l3 m M s (n:Int) (k:Int) (i:Int)=some (u:Int)
 |0,i,_,_,h,_=>by omega
 |M+1,i,k,hi,h,hv=>by
  simp only[law14_index_l3,dlt]
  by_cases hlt:i<s.size
  ·have hm:s[i]∈s.data.toList.drop i:=by rw[getB s i hlt];exact List.mem_cons_self ..
   obtain⟨c1,c2⟩:=hd s[i] (List.mem_of_mem_drop hm)
   rw[getB s i hlt] at hv
   have hk:vA (10*k+((s[i]).toNat-48)) (s.data.toList.drop (i+1))=u:=hv
   have hge:=vA_ge (s.data.toList.drop (i+1)) (10*k+((s[i]).toNat-48))
   have w1:IntKind.wrap IntKind.i64 (10*(k:Int))=((10*k:Nat):Int):=by rw[wrap64 (by omega) (by omega)];omega
   have w2:IntKind.wrap IntKind.u8 (((s[i]).toNat:Int)-48)=(((s[i]).toNat-48:Nat):Int):=by rw[wrap8 (by omega) (by omega)];omega
   have w3:IntKind.wrap IntKind.i64 (((s[i]).toNat-48:Nat):Int)=(((s[i]).toNat-48:Nat):Int):=wrap64 (by omega) (by omega)
   have w4:IntKind.wrap IntKind.i64 (((10*k:Nat):Int)+(((s[i]).toNat-48:Nat):Int))=((10*k+((s[i]).toNat-48):Nat):Int):=by rw[wrap64 (by omega) (by omega)];omega
   have d1:decide (((s[i]).toNat:Int)<48)=false:=decide_eq_false (by omega)
   have d2:decide ((57:Int)<((s[i]).toNat:Int))=false:=decide_eq_false (by omega)
   simp only[hlt,decide_true,cond_true,law14_index_j7,law14_index_j6,law14_index_j5,law14_index_j4,law14_index_j9,law14_index_j8,law14_index_j2,law14_index_j1,law14_index_j0,idxS_lt hlt,Option.bind_some,d1,d2,cond_false,w1,w2,w3,w4,wrapS (show i<9223372036854775807 by omega)]
   exact ix_loop m s n u hu hn hs hd M (i+1) _ (by omega) (by omega) hk
  ·have hnil:s.data.toList.drop i=[]:=List.drop_eq_nil_of_le (by rw[lenB];omega)
   rw[hnil] at hv
   have hku:k=u:=hv
   subst hku
   have d1:decide ((n:Int)≤(k:Int))=false:=decide_eq_false (by omega)
   simp only[hlt,decide_false,cond_false,law14_index_j7,law14_index_j6,law14_index_j5,law14_index_j4,law14_index_j9,law14_index_j8,law14_index_j2,law14_index_j1,law14_index_j0,d1]
theorem ix_eq (m i n:Nat) (hi:i<10000) (hn:i<n) (hm:10≤m):law14_index (m+1) (strI i) (n:Int)=some (i:Int):=by
 have hl:=strI_list i
 have h2:=dec_len 3 i (by simpa using hi)
 have h3:=dec_ne i
 have hd:=dig_rng i
 have hsz:(Lib.decDigits i).length=(strI i).size:=by rw[←hl,lenB]
 have h4:1≤(strI i).size:=by
  rw[←hsz]
  cases he:Lib.decDigits i with
  |nil=>exact absurd he h3
  |cons a b=>simp
 have e1:(((strI i).size:Int)==0)=false:=by rw[beq_eq_false_iff_ne];omega
 have e2:decide ((4:Int)<((strI i).size:Int))=false:=decide_eq_false (by omega)
 have hloop:=ix_loop m (strI i) n i hi hn (by omega) (by rw[hl];exact hd) (m+1) 0 0 (Nat.zero_le _) (by omega) (by rw[List.drop_zero,hl];exact vA_dec i)
 simp only[law14_index,e1,e2,cond_false]
 by_cases h1:1<(strI i).size
 ·have hi1:1≤i:=by
   apply Classical.byContradiction
   intro h0
   have:i=0:=by omega
   subst this
   rw[←hsz,Lib.decDigits_one (by omega)] at h1
   simp at h1
  have hg:=getB (strI i) 0 (by omega)
  rw[List.drop_zero,hl] at hg
  have hne:=dec_head i hi1 _ _ hg
  have e3:decide ((1:Int)<((strI i).size:Int))=true:=decide_eq_true (by omega)
  have e4:(((strI i)[0].toNat:Int)==48)=false:=by rw[beq_eq_false_iff_ne];omega
  have e5:idxS (strI i) 0=some (((strI i)[0]).toNat:Int):=idxS_lt (i:=0) (by omega)
  simp only[e3,cond_true,e5,Option.bind_some,e4,law14_index_j7,law14_index_j6,law14_index_j5,law14_index_j4,law14_index_j9,law14_index_j8,law14_index_j2,law14_index_j1,law14_index_j0,cond_false]
  exact hloop
 ·have e3:decide ((1:Int)<((strI i).size:Int))=false:=decide_eq_false (by omega)
  simp only[e3,cond_false,law14_index_j7,law14_index_j6,law14_index_j5,law14_index_j4,law14_index_j9,law14_index_j8,law14_index_j2,law14_index_j1,law14_index_j0]
  exact hloop
theorem idx_mid {P r:List Dt} {x:Dt}:idx (P++x::r) (P.length:Int)=some x:=by
 have h:P.length<(P++x::r).length:=by rw[List.length_append,List.length_cons];omega
 rw[idx_lt h]
 simp
theorem ld_len {v:Dt} {q:List Dt} {b:Bool} (h:Ld v q b):WV v→q.length≤v.bulk:=by
 induction h with
 |nil=>exact fun _=>Nat.zero_le _
 |doc h5 hl hf _ ih=>
  intro hw
  obtain⟨f,hfm,rfl⟩:=fnd_mem hf
  have:=(wv_parts hw).2.2.2 f hfm
  have:=ih this.1
  rw[List.length_cons];omega
 |miss h5 hl hf=>intro hw;have:=wv6 hw;simp only[List.length_cons,List.length_nil];omega
 |el h6 hl hi _ ih=>
  intro hw
  obtain⟨hlt,e⟩:=List.getElem?_eq_some_iff.1 hi
  subst e
  have:=(wv_parts hw).2.2.1 _ (List.getElem_mem hlt)
  have:=ih this.1
  rw[List.length_cons];omega
theorem walk_loop (m:Nat) (hm2:m<9000000000000000000) {v:Dt} {q:List Dt} {b:Bool} (h:Ld v q b):WV v→v.bulk+10≤m→∀(M:Nat) (P:List Dt),q.length<M→P.length+q.length<1000000000000→law14_walk_l1 (m+2) M (P++q) (P.length:Int) v=some b:=by
 induction h with
 | nil=>
   intro _ _ M P hM _
   obtain⟨M,rfl⟩:∃k,M=k+1:=⟨M-1,by omega⟩
   simp only[law14_walk_l1,List.append_nil,dlt,Nat.lt_irrefl,decide_false,cond_false,law14_walk_j4,law14_walk_j3,law14_walk_j6,law14_walk_j5,law14_walk_j2,law14_walk_j7,law14_walk_j0]
 | @doc v x n r b h5 hl hf _ ih=>
   intro hw hb M P hM hP
   obtain⟨f,hfm,rfl⟩:=fnd_mem hf
   have hx:=(wv_parts hw).2.2.2 f hfm
   obtain⟨M,rfl⟩:∃k,M=k+1:=⟨M-1,by omega⟩
   rw[List.length_cons] at hM hP
   have y6:(Dt.I v 0==6)=false:=by rw[h5];rfl
   have hlt:P.length<(P++Dt.str n::r).length:=by rw[List.length_append,List.length_cons];omega
   have hg:ref01_Get (m+2) v (Dt.toStr (Dt.str n))=some (Dt.fld f 1,true):=by
    rw[get_doc m v _ h5 (by omega) (by omega),show Dt.toStr (Dt.str n)=n from rfl,fndP_some hf]
   have:=ih hx.1 (by omega) M (P++[Dt.str n]) (by omega) (by rw[List.length_append];simp;omega)
   rw[List.append_assoc,List.length_append] at this
   simp only[law14_walk_l1,dlt,hlt,decide_true,cond_true,law14_walk_j4,law14_walk_j3,law14_walk_j6,law14_walk_j5,law14_walk_j2,law14_walk_j7,law14_walk_j0,y6,cond_false,idx_mid,Option.bind_some,hg,Bool.not_true,wrapS (show P.length<9223372036854775807 by omega)]
   exact this
 | @miss v n h5 hl hf=>
   intro hw hb M P hM hP
   obtain⟨M,rfl⟩:∃k,M=k+1:=⟨M-1,by omega⟩
   have y6:(Dt.I v 0==6)=false:=by rw[h5];rfl
   have hlt:P.length<(P++[Dt.str n]).length:=by rw[List.length_append,List.length_cons];omega
   have hg:ref01_Get (m+2) v (Dt.toStr (Dt.str n))=some (kza2373,false):=by
    rw[get_doc m v _ h5 (by omega) (by omega),show Dt.toStr (Dt.str n)=n from rfl,fndP_none hf]
   simp only[law14_walk_l1,dlt,hlt,decide_true,cond_true,law14_walk_j4,law14_walk_j3,law14_walk_j6,law14_walk_j5,law14_walk_j2,law14_walk_j7,law14_walk_j0,y6,cond_false,idx_mid,Option.bind_some,hg,Bool.not_false]
 | @el v x i r b h6 hl hi _ ih=>
   intro hw hb M P hM hP
   obtain⟨hil,e⟩:=List.getElem?_eq_some_iff.1 hi
   subst e
   have hx:=(wv_parts hw).2.2.1 _ (List.getElem_mem hil)
   obtain⟨M,rfl⟩:∃k,M=k+1:=⟨M-1,by omega⟩
   rw[List.length_cons] at hM hP
   have y6:(Dt.I v 0==6)=true:=by rw[h6];rfl
   have hlt:P.length<(P++Dt.str (itoaB i)::r).length:=by rw[List.length_append,List.length_cons];omega
   have hg:law14_index (m+2) (Dt.toStr (Dt.str (itoaB i))) ((Dt.L v 3).length:Int)=some (i:Int):=by
    rw[show Dt.toStr (Dt.str (itoaB i))=itoaB i from rfl,itoaB_eq i (by omega)]
    exact ix_eq (m+1) i _ (by omega) hil (by omega)
   have d0:decide ((i:Int)<0)=false:=decide_eq_false (by omega)
   have:=ih hx.1 (by omega) M (P++[Dt.str (itoaB i)]) (by omega) (by rw[List.length_append];simp;omega)
   rw[List.append_assoc,List.length_append] at this
   simp only[law14_walk_l1,dlt,hlt,decide_true,cond_true,law14_walk_j4,law14_walk_j3,law14_walk_j6,law14_walk_j5,law14_walk_j2,law14_walk_j7,law14_walk_j0,y6,cond_false,idx_mid,Option.bind_some,hg,d0,idx_lt hil,wrapS (show P.length<9223372036854775807 by omega)]
   exact this
theorem walk_eq (m:Nat) (hm2:m<9000000000000000000) {v:Dt} {q:List Dt} {b:Bool} (h:Ld v q b) (hw:WV v) (hb:v.bulk+10≤m) (hv:v.bulk<100000000000):law14_walk (m+3) v q=some b:=by
 have hl:=ld_len h hw
 have:=walk_loop m hm2 h hw hb (m+3) [] (by omega) (by simp;omega)
 exact this
theorem paths_loop (m:Nat) (hm2:m<9000000000000000000) (s:Dt) {v:Dt} (hw:WV v) (hb:v.bulk+10≤m) (hv:v.bulk<100000000000) (l:List Dt) (hl:l.length<1000000000000) (hG:∀x∈l,Gd v [] x) (h7:law14_SchemaPaths_j7 (m+3) l s=some true):∀(M i:Nat),i≤l.length→l.length-i<M→law14_SchemaPaths_l3 (m+3) M l (i:Int) s v=some true
 |0,i,_,h=>by omega
 |M+1,i,hi,h=>by
  simp only[law14_SchemaPaths_l3,dlt]
  by_cases hlt:i<l.length
  ·obtain⟨q,r,b,e,r1,r2,hL,hbr⟩:=hG _ (List.getElem_mem hlt)
   have hi1:Dt.I l[i] 1=r:=by rw[e];rfl
   have hi0:Dt.L l[i] 0=q:=by rw[e];rfl
   have d1:decide (r<1)=false:=decide_eq_false (by omega)
   have d2:decide (8<r)=false:=decide_eq_false (by omega)
   have hwk:=walk_eq m hm2 hL hw hb hv
   have hb2:(b==(r==6))=false:=by rw[hbr];cases (r==6)<;>rfl
   simp only[hlt,decide_true,cond_true,law14_SchemaPaths_j4,law14_SchemaPaths_j5,law14_SchemaPaths_j6,idx_lt hlt,Option.bind_some,hi1,hi0,d1,d2,cond_false,hwk,hb2,wrapS (show i<9223372036854775807 by omega)]
   exact paths_loop m hm2 s hw hb hv l hl hG h7 M (i+1) (by omega) (by omega)
  ·simp only[hlt,decide_false,cond_false]
   exact h7
theorem law_spaths (s v:Dt) (hs:WS s) (hb:BS s) (hw:WV v) (hbk:s.bulk+v.bulk≤1048576):law14_SchemaPaths (400000000000+1) s v=some true:=by
 obtain⟨c,hc⟩:=sc_tot s.bulk s (Nat.le_refl _) (by omega) 399999999998 (by omega) 81
 obtain⟨f,hf⟩:=few_tot hw (by omega) 399999999997 (by omega) 300
 have hc':ref14_Count 399999999999 s 81=some c:=hc
 have hf':ref02_Few 399999999999 v 300=some f:=hf
 have hfew:∃b,law14_few 400000000000 s v=some b:=by
  rw[show (400000000000:Nat)=399999999999+1 from rfl,law14_few]
  simp only[hc',hf',Option.bind_some]
  cases decide (c≤80)<;>exact⟨_,rfl⟩
 obtain⟨b,hb1⟩:=hfew
 obtain⟨q,hq,hq9,_⟩:=valid_tot hs (by omega) 399999999989 399999999988 (by omega) (by omega) (by omega)
 have hq':schema_Valid 400000000000 s=some q:=hq
 have hv':ref01_Valid 400000000000 v=some (okV v):=rValid_eq hw 399999999996 (by omega) (by omega) (by omega)
 rw[law14_SchemaPaths]
 simp only[hb1,Option.bind_some]
 cases b
 ·simp only[Bool.not_false,cond_true,law14_SchemaPaths_j0,awakeC,Option.bind_some]
 ·simp only[Bool.not_true,cond_false,hv',Option.bind_some]
  cases hok:okV v
  ·simp only[Bool.not_false,law14_SchemaPaths_j0,cond_true,awakeC,Option.bind_some]
  ·have hn:nds v≤1024:=by
        unfold okV at hok
        rw[Bool.and_eq_true,Bool.and_eq_true] at hok
        exact of_decide_eq_true hok.1.1
   simp only[Bool.not_true,law14_SchemaPaths_j0,cond_false,law14_SchemaPaths_j1,law14_SchemaPaths_j2]
   by_cases hq0:q=0
   ·    subst hq0
        obtain⟨k1,k2⟩:=vl_root hb hw hbk 399999999992 (by omega) (by omega)
        have hck:schema_Check 400000000000 s v=some (vl s.bulk s v []):=check_own 399999999998 hq9 k1
        simp only[hck,Option.bind_some]
        have h7:law14_SchemaPaths_j7 (399999999997+3) (vl s.bulk s v []) s=some true:=by
         simp only[law14_SchemaPaths_j7,hq',Option.bind_some,beq_self_eq_true,cond_true,awakeC]
         cases (((vl s.bulk s v []).length:Int)==0)<;>rfl
        exact paths_loop 399999999997 (by omega) s hw (by omega) (by omega) _ (by omega) (gd_vl s.bulk s v [] hw hn) h7 400000000001 0 (Nat.zero_le _) (by omega)
   ·    have hne:(q !=0)=true:=by simpa using hq0
        have hck:schema_Check 400000000000 s v=some []:=by
         have h9:schema_Valid 399999999999 s=some q:=hq9
         rw[show (400000000000:Nat)=399999999999+1 from rfl,schema_Check]
         simp only[h9,Option.bind_some,hne,cond_true]
        simp only[hck,Option.bind_some]
        have h7:law14_SchemaPaths_j7 (399999999997+3) [] s=some true:=by
         simp only[law14_SchemaPaths_j7,List.length_nil,awakeC];rfl
        exact paths_loop 399999999997 (by omega) s hw (by omega) (by omega) [] (by simp) (fun x hx=>by cases hx) h7 400000000001 0 (Nat.zero_le _) (by simp)
theorem spaths_fx {ds:List Dt} (h:HasTys Tryd.prog Tryd.f4.params.toList ds) (hb:Dt.bulkL ds≤1048576):FX Tryd.prog 4 (dats Tryd.f4.params.toList ds) [] (.dat 4 (.bool true)) []:=by
 have h':HasTys Tryd.prog [30,25] ds:=h
 cases h' with
 | @cons _ s _ _ h1 r=>
   cases r with
   | @cons _ v _ _ h2 r=>
     cases r
     simp only[Dt.bulkL] at hb
     exact law14_SchemaPaths_fx 400000000000 (ct_ok 400000000000) _ _ (law_spaths s v (ws_of s.bulk s (Nat.le_refl _) h1) (bs_of s.bulk s (Nat.le_refl _) h1) (wv_of h2) (by omega))
end Go.Proofs.YtfneddmmeadacaaDoor
