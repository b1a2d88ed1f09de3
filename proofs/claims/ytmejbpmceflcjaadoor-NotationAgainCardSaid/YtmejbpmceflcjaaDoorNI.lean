/- The law on printing values, in plain Lean.
The law on reading what is printed,in plain Lean. -/
import Derived.Test.YtmejbpmceflcjaaDoorNF
import Derived.Test.YtmejbpmceflcjaaDoorMFew
import Derived.Test.YtmejbpmceflcjaaDoorFx
import Derived.Test.YtmejbpmceflcjaaDoorNG
set_option linter.unusedVariables false
set_option linter.unusedSimpArgs false
namespace Go.Proofs.YtmejbpmceflcjaaDoor
open Go.Am
theorem okF_snd {d:Dt} (h:okF d=true):sndF wd d.bulk d=true:=by
 unfold okF at h
 exact(Bool.and_eq_true_iff.1 h).2
def prt (d:Dt):ByteArray×Int:=bif okF d then(bif perr d.bulk d==0 then(⟨(txt d.bulk d).toArray⟩,0) else(ByteArray.mk (List.toArray []),perr d.bulk d)) else(ByteArray.mk (List.toArray []),8)
theorem Print_eq {d:Dt} (hw:WV d) (hr:WR d) (hb:d.bulk≤20000000) (m:Nat) (hm:40*d.bulk+1000≤m):notation_Print (m+7) d=some (prt d):=by
 have h1:notation_wellFormed (m+6) d=some (okF d):=wellFormed_eq hw (m+1) (by omega) (by omega)
 unfold prt
 simp only[notation_Print,h1,Option.bind_some]
 cases hok:okF d
 ·rfl
 obtain⟨r,h2,h3⟩:=text_eq d.bulk d (Nat.le_refl _) (by omega) hw hr (okF_snd hok) (m+5) (by omega) [] (by simp;omega)
 have h2':i11 (m+6) d []=some (perr d.bulk d,r):=h2
 simp only[Bool.not_true,cond_false,cond_true,notation_Print_j0,h2',Option.bind_some,bne]
 cases he:(perr d.bulk d==0)
 ·rfl
 ·have e:=h3 (by simpa using he)
  have hl:=txt_len d.bulk d hw hr (Nat.le_refl _)
  rw[List.nil_append] at e
  subst e
  have hbl:Nat.ble (bytesI (txt d.bulk d)).length 137438953472=true:=ble_of (by rw[bytesI_len];omega)
  simp only[Bool.not_true,cond_false,cond_true,notation_Print_j1,hbl,strI_ok,Option.bind_some]
end Go.Proofs.YtmejbpmceflcjaaDoor
namespace Go.Proofs.YtmejbpmceflcjaaDoor
open Go.Am
theorem s5_d (m:Nat) (self:Dt→Dt→Option Bool) (d:Dt) (hl:(Dt.L d 4).length<9223372036854775807) (hs:∀f∈Dt.L d 4,self (Dt.fld f 1) (Dt.fld f 1)=some true):∀(M i:Nat),i≤(Dt.L d 4).length→(Dt.L d 4).length-i<M→ref02_Same_l8 m self M (i:Int) d d=some true
 |0,i,_,h=>by omega
 |M+1,i,hi,h=>by
  simp only[ref02_Same_l8,dlt]
  by_cases hlt:i<(Dt.L d 4).length
  ·simp only[hlt,decide_true,cond_true,ref02_Same_j9,ref02_Same_j10,ref02_Same_j11,idx_lt hlt,Option.bind_some,beq_self_eq_true,Bool.not_true,cond_false,hs _ (List.getElem_mem hlt),wrapS (show i<9223372036854775807 by omega)]
   exact s5_d m self d hl hs M (i+1) (by omega) (by omega)
  ·simp only[hlt,decide_false,cond_false,ref02_Same_j12]
theorem s5_l (m:Nat) (self:Dt→Dt→Option Bool) (d:Dt) (hl:(Dt.L d 3).length<9223372036854775807) (hs:∀f∈Dt.L d 3,self f f=some true) (hd:ref02_Same_l8 m self (Nat.succ m) 0 d d=some true):∀(M i:Nat),i≤(Dt.L d 3).length→(Dt.L d 3).length-i<M→ref02_Same_l3 m self M (i:Int) d d=some true
 |0,i,_,h=>by omega
 |M+1,i,hi,h=>by
  simp only[ref02_Same_l3,dlt]
  by_cases hlt:i<(Dt.L d 3).length
  ·simp only[hlt,decide_true,cond_true,ref02_Same_j4,ref02_Same_j5,idx_lt hlt,Option.bind_some,Bool.not_true,cond_false,hs _ (List.getElem_mem hlt),wrapS (show i<9223372036854775807 by omega)]
   exact s5_l m self d hl hs hd M (i+1) (by omega) (by omega)
  ·simp only[hlt,decide_false,cond_false,ref02_Same_j6,ref02_Same_j7,hd]
theorem s5_refl:∀(N:Nat) (d:Dt),d.bulk≤N→N≤1000000000000→WV d→∀m,N≤m→ref02_Same (m+1) d d=some true
 |0,d,h,_,_,_,_=>by have:=bulk_pos d;omega
 |N+1,d,h,hN,hw,m,hm=>by
  obtain⟨m,rfl⟩:∃q,m=q+1:=⟨m-1,by omega⟩
  obtain⟨p1,p2,p3,p4⟩:=wv_parts hw
  have ih:∀e:Dt,WV e→e.bulk≤N→ref02_Same (m+1) e e=some true:=fun e hwe hbe=>s5_refl N e hbe (by omega) hwe m (by omega)
  have h2:=s5_d (m+1) (ref02_Same (m+1)) d (by omega) (fun f hf=>ih _ (p4 f hf).1 (by have:=(p4 f hf).2;omega)) (m+2) 0 (Nat.zero_le _) (by omega)
  have h1:=s5_l (m+1) (ref02_Same (m+1)) d (by omega) (fun f hf=>ih _ (p3 f hf).1 (by have:=(p3 f hf).2;omega)) h2 (m+2) 0 (Nat.zero_le _) (by omega)
  have h1':ref02_Same_l3 (m+1) (ref02_Same (m+1)) (Nat.succ (m+1)) 0 d d=some true:=h1
  rw[ref02_Same]
  simp only[bne_self_eq_false,beq_self_eq_true,Bool.not_true,cond_false,ref02_Same_j0,ref02_Same_j1,ref02_Same_j2,h1']
theorem perr_rng:∀(N:Nat) (d:Dt),perr N d=0∨perr N d=2∨perr N d=4
 |0,d=> .inl rfl
 |N+    1,d=>by
  have key:∀(g:Dt→Int) (L:List Dt),(∀e,g e=0∨g e=2∨g e=4)→erF g L=0∨erF g L=2∨erF g L=4:=by
   intro g L hg
   induction L with
   |nil=>exact .inl rfl
   |    cons a r ih=>
        rw[erF_cons]
        cases (g a==0)
        ·exact hg a
        ·exact ih
  simp only[perr]
  cases (Dt.I d 0==7)
  ·cases (Dt.I d 0==6)
   ·    cases (Dt.I d 0==5)
        ·exact .inl rfl
        ·cases spc (Dt.L d 4)
         ·exact key _ _ fun e=>perr_rng N _
         ·exact .inr (.inr rfl)
   ·exact key _ _ fun e=>perr_rng N e
  ·cases decide ((2048:Int)<((Dt.S d 2).size:Int))
   ·exact .inl rfl
   ·exact .inr (.inl rfl)
def blk (c:UInt8):Prop:=c=9∨c=10∨c=13∨c=32
theorem bl_loop (m:Nat) (s:ByteArray) (n:Nat) (hs:s.size<1000000000000) (k:List UInt8) (hk:k=[]∨hdOK k):∀(l:List UInt8) (M i:Nat),s.data.toList.drop i=l++k→i≤s.size→(∀c∈l,blk c)→l.length<M→i23_l0 (m+1) M (Q s i n)=some (Q s (i+l.length) n)
 |_,0,_,_,_,_,h=>by omega
 | [],M+1,i,hd,hi,_,_=>by
   have hd:s.data.toList.drop i=k:=hd
   rcases hk with rfl| ⟨c,r,rfl,hc⟩
   ·have hp:=peek_end m (s:=s) (i:=i) (n:=n) (by have:=dr_len hd hi;simpa using this)
    simp only[i23_l0,hp,Option.bind_some]
    rfl
   ·have hp:=peek_at m (n:=n) hd hs
    have b1:((c.toNat:Int)==9)=false:=by rw[beq_eq_false_iff_ne];have:=hc.1;omega
    have b2:((c.toNat:Int)==10)=false:=by rw[beq_eq_false_iff_ne];have:=hc.2.1;omega
    have b3:((c.toNat:Int)==13)=false:=by rw[beq_eq_false_iff_ne];have:=hc.2.2.1;omega
    have b4:((c.toNat:Int)==32)=false:=by rw[beq_eq_false_iff_ne];have:=hc.2.2.2.1;omega
    simp only[i23_l0,hp,Option.bind_some,b1,b2,b3,b4,cond_false,i23_j1,List.length_nil,Nat.add_zero]
 | c::r,M+1,i,hd,hi,hc,hM=>by
   have hd:s.data.toList.drop i=c::(r++k):=hd
   obtain⟨hlt,_,h2⟩:=dr_cons hd
   have hp:=peek_at m (n:=n) hd hs
   rw[List.length_cons] at hM ⊢
   have ih:=bl_loop m s n hs k hk r M (i+1) h2 (by omega) (fun x hx=>hc x (List.mem_cons_of_mem _ hx)) (by omega)
   have hj:i23_j1 (m+1) (i23_l0 (m+1) M) true (Q s i n)=some (Q s (i+(r.length+1)) n):=by
    simp only[i23_j1,cond_true,Q_adv (show i<9223372036854775807 by omega),ih]
    rw[show i+1+r.length=i+(r.length+1) by omega]
   rw[i23_l0]
   simp only[hp,Option.bind_some]
   rcases hc c (List.mem_cons_self ..) with rfl|rfl|rfl|rfl<;>exact hj
theorem blanks_skip (m:Nat) (s:ByteArray) (i n:Nat) (hs:s.size<1000000000000) (l k:List UInt8) (hd:s.data.toList.drop i=l++k) (hi:i≤s.size) (hk:k=[]∨hdOK k) (hl:∀c∈l,blk c) (hm:l.length≤m):i23 (m+2) (Q s i n)=some (Q s (i+l.length) n):=
 bl_loop m s n hs k hk l (m+2) i hd hi hl (by omega)
theorem parse_back (m:Nat) (d:Dt) (hb:d.bulk≤10000000) (hw:WV d) (hr:WR d) (hok:okF d=true) (hpe:perr d.bulk d=0) (b1 b2:List UInt8) (h1:∀c∈b1,blk c) (h2:∀c∈b2,blk c) (hl1:b1.length≤100) (hl2:b2.length≤100) (hm:2*d.bulk+6000≤m):
  notation_Parse (m+3) ⟨(b1++(txt d.bulk d++b2)).toArray⟩=some (d,0,0):=by
 generalize hse:(⟨(b1++(txt d.bulk d++b2)).toArray⟩:ByteArray)=s
 have htl:=txt_len d.bulk d hw hr (Nat.le_refl _)
 have hsd:s.data.toList=b1++(txt d.bulk d++b2):=by rw[←hse]
 have hsz:s.size=b1.length+((txt d.bulk d).length+b2.length):=by rw[←hse,mkB_size];simp
 have hs:s.size<1000000000000:=by omega
 have hsnd:=okF_snd hok
 obtain⟨N,hN⟩:∃N,d.bulk=N+1:=⟨d.bulk-1,by have:=bulk_pos d;omega⟩
 have hth:hdOK (txt d.bulk d):=by
  rw[hN] at hsnd ⊢
  exact txt_hd N d (snd_kind hsnd).1
 have hd0:s.data.toList.drop 0=b1++(txt d.bulk d++b2):=by rw[List.drop_zero,hsd]
 have hbl:=blanks_skip m s 0 0 hs b1 _ hd0 (Nat.zero_le _) (.inr (hd_app b2 hth)) h1 (by omega)
 have hd1:=dr_add hd0
 rw[Nat.zero_add] at hbl hd1
 have hnd:nodig b2:=by
  cases b2 with
  |nil=>trivial
  |cons c r=>
   rcases h2 c (List.mem_cons_self ..) with rfl|rfl|rfl|rfl<;>exact nodig_c (.inl (by decide))
 have hok':=hok
 unfold okF at hok'
 obtain⟨ho1,_⟩:=Bool.and_eq_true_iff.1 hok'
 obtain⟨ho1,ho2⟩:=Bool.and_eq_true_iff.1 ho1
 have ho1:=of_decide_eq_true ho1
 have ho2:=of_decide_eq_true ho2
 have hrd:=read_value d.bulk d (Nat.le_refl _) (by omega) hw hr hsnd hpe s hs 1 (m+2) (by omega) (by omega) false 0 b1.length b2 (by omega) (by omega) hd1 hnd
 rw[show adj false d=0 from rfl,Nat.sub_zero,Nat.zero_add] at hrd
 have hd2:=dr_add hd1
 have hbe:=blanks_skip m s (b1.length+(txt d.bulk d).length) (nds d) hs b2 [] (by rw[hd2,List.append_nil]) (by omega) (.inl rfl) h2 (by omega)
 have e1:decide (((b1.length+(txt d.bulk d).length+b2.length:Nat):Int)<(s.size:Int))=false:=decide_eq_false (by omega)
 have hbl':i23 (m+2) (Dt.agg [Dt.str s,Dt.int 0,Dt.int 0,Dt.int 0,Dt.int 0])=some (Q s b1.length 0):=hbl
 have hrd':i25 (m+2) 1 false (Q s b1.length 0)=some (d,true,Q s (b1.length+(txt d.bulk d).length) (nds d)):=hrd
 rw[notation_Parse]
 simp only[hbl',Option.bind_some,hrd',cond_true,hbe]
 show (bif decide (((b1.length+(txt d.bulk d).length+b2.length:Nat):Int)<(s.size:Int)) then _ else notation_Parse_j0 (m+2) kza2373 (Q s (b1.length+(txt d.bulk d).length+b2.length) (nds d)) d)=_
 rw[e1]
 rfl
theorem ext_take (L:List UInt8) (k:Nat) (h:k≤L.length):(ByteArray.mk (List.toArray L)).extract 0 k=ByteArray.mk (List.toArray (L.take k)):=by
 refine nba_ext ?_
 rw[ByteArray.data_extract,Array.toList_extract]
 show (L.drop 0).take (k-0)=L.take k
 simp
theorem cut_bl (b:Int) (h0:0≤b):cutS (ByteArray.mk (List.toArray [32,9,10,13,32,9,10,13])) 0 (Int.tmod b 9)=some (ByteArray.mk (List.toArray (([32,9,10,13,32,9,10,13]:List UInt8).take (b.toNat%9)))):=by
 have e:Int.tmod b 9=((b.toNat%9:Nat):Int):=by rw[Int.tmod_eq_emod_of_nonneg h0];omega
 have:=cutS_nat (s:=ByteArray.mk (List.toArray [32,9,10,13,32,9,10,13])) (i:=0) (j:=b.toNat%9) (by omega) (by rw[mkB_size];simp;omega)
 rw[e,show ((0:Int))=((0:Nat):Int) from rfl,this,ext_take _ _ (by simp;omega)]
theorem bl_take (k:Nat):∀c∈([32,9,10,13,32,9,10,13]:List UInt8).take k,blk c:=fun c hc=>by
 have:=List.mem_of_mem_take hc
 simp only[List.mem_cons,List.not_mem_nil,or_false] at this
 unfold blk
 rcases this with rfl|rfl|rfl|rfl|rfl|rfl|rfl|rfl<;>first|exact .inl rfl|exact .inr (.inl rfl)|exact .inr (.inr (.inl rfl))|exact .inr (.inr (.inr rfl))
theorem law_nback (d:Dt) (a b:Int) (hw:WV d) (hr:WR d) (hb:d.bulk≤1048576) (ha0:0≤a) (hb0:0≤b):law05_NotationBack (400000000000+1) d a b=some true:=by
 obtain⟨f,hf⟩:=few_tot hw (by omega) 399999999998 (by omega) 3000
 have hf':ref02_Few 400000000000 d 3000=some f:=hf
 have h1:notation_Print 400000000000 d=some (prt d):=Print_eq hw hr (by omega) 399999999993 (by omega)
 have h2:ref05_WellFormed 400000000000 d=some (okF d):=rWellFormed_eq hw 399999999996 (by omega) (by omega) (by omega)
 have h3:ref05_Same 400000000000 d d=some true:=by
  have:=s5_refl d.bulk d (Nat.le_refl _) (by omega) hw 399999999998 (by omega)
  have this:ref02_Same 399999999999 d d=some true:=this
  show ((ref02_Same 399999999999 d d).bind fun r0=>some r0)=some true
  rw[this];rfl
 have hnil:(ByteArray.toList (ByteArray.mk (List.toArray []))==[])=true:=by rw[ByteArray.toList_eq];rfl
 rw[law05_NotationBack]
 simp only[hf',Option.bind_some]
 cases f
 ·rfl
 simp only[Bool.not_true,cond_false,law05_NotationBack_j0,h1,Option.bind_some]
 unfold prt
 cases hok:okF d
 ·rw[hok] at h2
  simp only[cond_false]
  show (bif (8:Int) !=0 then(bif (ByteArray.toList (ByteArray.mk (List.toArray []))==[]) then _ else _) else _)=_
  rw[hnil,show ((8:Int) !=0)=true from rfl,cond_true,cond_true,h2]
  rfl
 ·rw[hok] at h2
  simp only[cond_true]
  cases hpe:(perr d.bulk d==0)
  ·have hne:perr d.bulk d≠0:=by simpa using hpe
   have he8:(perr d.bulk d==8)=false:=by rw[beq_eq_false_iff_ne];rcases perr_rng d.bulk d with h|h|h<;>omega
   have hb:(perr d.bulk d !=0)=true:=by unfold bne;rw[hpe];rfl
   simp only[cond_false,hb,cond_true,hnil,h2,Option.bind_some,he8,Bool.not_true,beq_self_eq_true,awakeC]
  ·have hp0:perr d.bulk d=0:=by simpa using hpe
   have htl:=txt_len d.bulk d hw hr (Nat.le_refl _)
   have hlt:∀k:Nat,(([32,9,10,13,32,9,10,13]:List UInt8).take k).length≤8:=fun k=>by rw[List.length_take];simp;omega
   have hl1:=hlt (a.toNat%9)
   have hl2:=hlt (b.toNat%9)
   have h4:=parse_back 399999999997 d (by omega) hw hr hok hp0 (([32,9,10,13,32,9,10,13]:List UInt8).take (a.toNat%9)) (([32,9,10,13,32,9,10,13]:List UInt8).take (b.toNat%9)) (bl_take _) (bl_take _) (by omega) (by omega) (by omega)
   have h4':notation_Parse 400000000000 ⟨((([32,9,10,13,32,9,10,13]:List UInt8).take (a.toNat%9))++(txt d.bulk d++(([32,9,10,13,32,9,10,13]:List UInt8).take (b.toNat%9)))).toArray⟩=some (d,0,0):=h4
   generalize hA:(([32,9,10,13,32,9,10,13]:List UInt8).take (a.toNat%9))=A at*
   generalize hB:(([32,9,10,13,32,9,10,13]:List UInt8).take (b.toNat%9))=B at*
   have c1:=cut_bl a ha0
   have c2:=cut_bl b hb0
   rw[hA] at c1
   rw[hB] at c2
   simp only[cond_true]
   show law05_NotationBack_j1 400000000000 a b ⟨(txt d.bulk d).toArray⟩ d=_
   simp only[law05_NotationBack_j1,c1,c2,Option.bind_some,mkB_size,mkB_app,List.length_append]
   rw[ble_of (show A.length+(txt d.bulk d).length≤1152921504606846976 by omega),ble_of (show A.length+(txt d.bulk d).length+B.length≤1152921504606846976 by omega),List.append_assoc]
   simp only[cond_true,h4',Option.bind_some,h2,beq_self_eq_true,h3,awakeC]
theorem nback_fx {ds:List Dt} (h:HasTys Tryd.prog Tryd.f4.params.toList ds) (hb:Dt.bulkL ds≤1048576):FX Tryd.prog 4 (dats Tryd.f4.params.toList ds) [] (.dat 4 (.bool true)) []:=by
 have h':HasTys Tryd.prog [27,5,5] ds:=h
 cases h' with
 | @cons _ d _ _ h1 r=>
   cases r with
   | @cons _ a _ _ h2 r=>
     cases r with
     |  @cons _ b _ _ h3 r=>
        cases r
        simp only[Dt.bulkL] at hb
        obtain⟨ea,a0,a1⟩:=ty_int Tryd.underlying5 h2
        obtain⟨eb,b0,b1⟩:=ty_int Tryd.underlying5 h3
        rw[ea,eb]
        exact law05_NotationBack_fx 400000000000 (ct_ok 400000000000) _ _ _ (law_nback d a.toInt b.toInt (wv_of h1) (wr_of h1) (by omega) a0 b0)
end Go.Proofs.YtmejbpmceflcjaaDoor
