/- Reading words and integers.
Reading lists and objects that were printed.
A printed value is read as the same value. -/
import Derived.Test.YtmejbpmceflcjaaGreatDoorNWr
import Derived.Test.YtmejbpmceflcjaaGreatDoorNSp
import Derived.Test.YtmejbpmceflcjaaGreatDoorNLit
import Derived.Lib.ValidLaws
import Derived.Test.YtmejbpmceflcjaaGreatDoorNF
import Derived.KernelRfl
set_option linter.unusedVariables false
set_option linter.unusedSimpArgs false
namespace Go.Proofs.YtmejbpmceflcjaaGreatDoor
open Go.Am
theorem dr_add {s:ByteArray} {i:Nat} {l k:List UInt8} (h:s.data.toList.drop i=l++k):s.data.toList.drop (i+l.length)=k:=by
 rw[←List.drop_drop,h,List.drop_left]
theorem dr_len {s:ByteArray} {i:Nat} {x:List UInt8} (h:s.data.toList.drop i=x) (hi:i≤s.size):i+x.length=s.size:=by
 have:=congrArg List.length h
 rw[List.length_drop,lenB] at this
 omega
theorem word_loop (m:Nat) (s:ByteArray) (n:Nat) (hs:s.size<1000000000000) (w:ByteArray) (rest:List UInt8) (hw:w.size<1000):∀(M k i:Nat),k≤w.size→w.size-k<M→s.data.toList.drop i=w.data.toList.drop k++rest→
  i24_l1 (m+1) M w (w.size:Int) (k:Int) (Q s i n)=some (true,Q s (i+(w.size-k)) n)
 |0,k,i,_,h,_=>by omega
 |M+1,k,i,hk,hM,hd=>by
  simp only[i24_l1,dlt]
  by_cases hlt:k<w.size
  ·have hc:=u8lt w[k]
   have hd2:s.data.toList.drop i=w[k]::(w.data.toList.drop (k+1)++rest):=by rw[hd,getB w k hlt];rfl
   obtain⟨hi,_,h1⟩:=dr_cons hd2
   have hp:=peek_at m (n:=n) hd2 hs
   have e:(((w[k]).toNat:Int) !=IntKind.wrap .i64 ((w[k]).toNat:Int))=false:=by rw[wrap64 (by omega) (by omega)];simp
   simp only[hlt,decide_true,cond_true,i24_j2,hp,Option.bind_some,idxS_lt hlt,e,cond_false,i24_j3,i24_j4,Q_adv (show i<9223372036854775807 by omega),wrapS (show k<9223372036854775807 by omega)]
   rw[word_loop m s n hs w rest hw M (k+1) (i+1) (by omega) (by omega) h1,show i+1+(w.size-(k+1))=i+(w.size-k) by omega]
  ·have:k=w.size:=by omega
   subst this
   simp only[hlt,decide_false,cond_false,i24_j5,Nat.sub_self,Nat.add_zero]
theorem word_eq (m:Nat) (s:ByteArray) (i n:Nat) (hs:s.size<1000000000000) (w:ByteArray) (rest:List UInt8) (hw:w.size<1000) (hm:w.size≤m) (hd:s.data.toList.drop i=w.data.toList++rest):i24 (m+2) w (Q s i n)=some (true,Q s (i+w.size) n):=by
 have:=word_loop m s n hs w rest hw (m+2) 0 i (by omega) (by omega) (by rw[List.drop_zero];exact hd)
 rw[i24]
 exact this
def vaD (a:Nat) (l:List UInt8):Nat:=l.foldl (fun a c=>10*a+(c.toNat-48)) a
theorem vaD_ge:∀(l:List UInt8) (a:Nat),a≤vaD a l
 | [],a=>Nat.le_refl _
 |c::r,a=>by
  have:=vaD_ge r (10*a+(c.toNat-48))
  show a≤vaD (10*a+(c.toNat-48)) r
  omega
theorem parseM_ok:∀(l:List UInt8) (a:Nat),(∀c∈l,48≤c.toNat∧c.toNat≤57)→vaD a l≤18446744073709551615→Lib.parseUintM 18446744073709551615 a l= .ok (vaD a l)
 | [],a,_,_=>rfl
 |c::r,a,hc,h=>by
  have h1:=hc c (List.mem_cons_self ..)
  have h2:vaD a (c::r)=vaD (a*10+(c.toNat-48)) r:=by rw[Nat.mul_comm a 10];rfl
  have h3:=vaD_ge r (a*10+(c.toNat-48))
  rw[h2] at h
  rw[h2,Lib.parseUintM,if_pos h1,if_neg (by omega),if_neg (by omega)]
  exact parseM_ok r _ (fun x hx=>hc x (List.mem_cons_of_mem _ hx)) h
theorem dec_headN:∀(u:Nat),1≤u→∀c r,Lib.decDigits u=c::r→c.toNat≠48:=by
 intro u
 induction u using Nat.strongRecOn with
 |_ u   ih=>
  intro hu c r h
  rw[Lib.decDigits] at h
  split at h
  · injection h with h1 h2
    rw[←h1,dig_toNat (by omega)];omega
  · cases hd:Lib.decDigits (u/10) with
    |nil=>exact absurd hd (dec_ne _)
    |   cons a b=>
        rw[hd,List.cons_append] at h
        injection h with h1 h2
        rw[←h1]
        exact ih (u/10) (by omega) (by omega) a b hd
theorem parse_dec (u:Nat) (h:u≤18446744073709551615):Lib.parseUintB 64 (Lib.decDigits u)= .ok u:=by
 have e:vaD 0 (Lib.decDigits u)=u:=valD_dec u
 have:=parseM_ok (Lib.decDigits u) 0 (dig_rng u) (by rw[e];exact h)
 rw[e] at this
 rw[Lib.parseUintB,if_neg (dec_ne u)]
 exact this
theorem parse_itoa (v:Int) (h1: -9223372036854775808≤v) (h2:v≤9223372036854775807):Lib.parseIntB 64 (Lib.itoa v)= .ok v:=by
 by_cases hn:v<0
 ·obtain⟨u,rfl⟩:∃u:Nat,v= -(u:Int):=⟨v.natAbs,by omega⟩
  have e45:(45:UInt8).toNat=45:=rfl
  rw[Lib.itoa_neg u (by omega),Lib.parseIntB]
  simp only[e45]
  rw[if_pos (.inr trivial),parse_dec u (by omega)]
  have hu:¬(True∧2^(64-1)<u):=fun h=>by have:=h.2;omega
  simp only[not_true_eq_false,false_and,if_false,true_and]
  rw[if_neg (by omega),if_pos trivial]
 ·obtain⟨u,rfl⟩:∃u:Nat,v=(u:Int):=⟨v.toNat,by omega⟩
  have hp:=parse_dec u (by omega)
  have hr:=dig_rng u
  rw[Lib.itoa_nonneg]
  cases hd:Lib.decDigits u with
  |nil=>exact absurd hd (dec_ne u)
  |cons c r=>
   rw[hd] at hp hr
   have hc:=hr c (List.mem_cons_self ..)
   have n45:¬c.toNat=45:=by omega
   rw[Lib.parseIntB]
   rw[if_neg (by omega),hp]
   simp only[n45,not_false_eq_true,true_and,false_and,if_false]
   rw[if_neg (by omega)]
theorem pint_eq (v:Int) (h1: -9223372036854775808≤v) (h2:v≤9223372036854775807):strconv_ParseInt ⟨(Lib.itoa v).toArray⟩ 10 64=some (v,true):=by
 have hl:=itoa_len v h1 h2
 have hb:Nat.ble (ByteArray.mk (List.toArray (Lib.itoa v))).size 1000000000=true:=ble_of (by rw[mkB_size];omega)
 have e:(ByteArray.mk (List.toArray (Lib.itoa v))).data.toList=Lib.itoa v:=by simp
 unfold strconv_ParseInt
 rw[hb,e,parse_itoa v h1 h2]
 show (bif (decide (-9223372036854775808≤v)&&decide (v≤9223372036854775807)) then some (v,true) else none)=_
 rw[decide_eq_true h1,decide_eq_true h2];rfl
def nodig:List UInt8→Prop
 | []=>True
 |c::_=>c.toNat<48∨57<c.toNat
theorem int_loop (m:Nat) (s:ByteArray) (n:Nat) (hs:s.size<1000000000000) (st:Int) (e0:Dt) (rest:List UInt8) (hrest:nodig rest):∀(l:List UInt8) (M i:Nat),s.data.toList.drop i=l++rest→i≤s.size→(∀c∈l,48≤c.toNat∧c.toNat≤57)→l.length<M→
   i25_l3 (m+1) M st (Q s i n) e0=i25_j5 (m+1) st (Q s (i+l.length) n) e0
 |_,0,_,_,_,_,h=>by omega
 | [],  M+1,i,hd,hi,_,_=>by
   have hd:s.data.toList.drop i=rest:=hd
   simp only[i25_l3,List.length_nil,Nat.add_zero]
   cases rest with
   |nil=>
    have hp:=peek_end m (s:=s) (i:=i) (n:=n) (by have:=dr_len hd hi;simpa using this)
    have e1:decide ((48:Int)≤ -1)=false:=rfl
    simp only[hp,Option.bind_some,e1,cond_false]
   |cons c r=>
    have hp:=peek_at m (n:=n) hd hs
    rcases hrest with h|h
    ·   have e1:decide ((48:Int)≤(c.toNat:Int))=false:=decide_eq_false (by omega)
        simp only[hp,Option.bind_some,e1,cond_false]
    ·   have e1:decide ((48:Int)≤(c.toNat:Int))=true:=decide_eq_true (by omega)
        have e2:decide ((c.toNat:Int)≤57)=false:=decide_eq_false (by omega)
        simp only[hp,Option.bind_some,e1,e2,cond_true,cond_false]
 | c::r,M+1,i,hd,hi,hc,hM=>by
   have h1:=hc c (List.mem_cons_self ..)
   have hd:s.data.toList.drop i=c::(r++rest):=hd
   obtain⟨hlt,_,h2⟩:=dr_cons hd
   have hp:=peek_at m (n:=n) hd hs
   have e1:decide ((48:Int)≤(c.toNat:Int))=true:=decide_eq_true (by omega)
   have e2:decide ((c.toNat:Int)≤57)=true:=decide_eq_true (by omega)
   rw[List.length_cons] at hM
   simp only[i25_l3,hp,Option.bind_some,e1,e2,cond_true,i25_j4,Q_adv (show i<9223372036854775807 by omega)]
   rw[int_loop m s n hs st e0 rest hrest r M (i+1) h2 (by omega) (fun x hx=>hc x (List.mem_cons_of_mem _ hx)) (by omega),List.length_cons,show i+1+r.length=i+(r.length+1) by omega]
def vInt (v:Int):Dt:=Dt.agg [Dt.int 3,Dt.int v,Dt.str (ByteArray.mk (List.toArray [])),Dt.lst [],Dt.lst []]
theorem int_j5 (m:Nat) (s:ByteArray) (i n:Nat) (v:Int) (h1: -9223372036854775808≤v) (h2:v≤9223372036854775807) (e0:Dt) (rest:List UInt8) (hd:s.data.toList.drop i=Lib.itoa v++rest) (hi:i≤s.size):
  i25_j5 m (i:Int) (Q s (i+(Lib.itoa v).length) n) e0=some (vInt v,true,Q s (i+(Lib.itoa v).length) n):=by
 have hl:=dr_len hd hi
 rw[List.length_append] at hl
 have hcut:cutS s (i:Int) ((i+(Lib.itoa v).length:Nat):Int)=some ⟨(Lib.itoa v).toArray⟩:=by
  rw[cutS_nat (by omega) (by omega)]
  congr 1
  refine nba_ext ?_
  rw[ByteArray.data_extract,Array.toList_extract]
  show (s.data.toList.drop i).take (i+(Lib.itoa v).length-i)=_
  rw[hd,show i+(Lib.itoa v).length-i=(Lib.itoa v).length by omega,List.take_left]
 show ((cutS s (i:Int) ((i+(Lib.itoa v).length:Nat):Int)).bind _)=_
 rw[hcut]
 show ((strconv_ParseInt ⟨(Lib.itoa v).toArray⟩ 10 64).bind _)=_
 rw[pint_eq v h1 h2]
 rfl
theorem integer_eq (m:Nat) (s:ByteArray) (i n:Nat) (v:Int) (h1: -9223372036854775808≤v) (h2:v≤9223372036854775807) (rest:List UInt8) (hd:s.data.toList.drop i=Lib.itoa v++rest) (hi:i≤s.size) (hs:s.size<1000000000000) (hrest:nodig rest):
  i25 (m+30) (Q s i n)=some (vInt v,true,Q s (i+(Lib.itoa v).length) n):=by
 have hj5:=fun e0=>int_j5 (m+29) s i n v h1 h2 e0 rest hd hi
 have hln:=itoa_len v h1 h2
 by_cases hn:v<0
 ·obtain⟨u,rfl⟩:∃u:Nat,v= -(u:Int):=⟨v.natAbs,by omega⟩
  have hit:=Lib.itoa_neg u (by omega)
  rw[hit] at hd hj5 hln ⊢
  obtain⟨hlt,_,h3⟩:=dr_cons (show s.data.toList.drop i=45::(Lib.decDigits u++rest) from hd)
  have hp:=peek_at (m+28) (n:=n) (show s.data.toList.drop i=45::(Lib.decDigits u++rest) from hd) hs
  have hr:=dig_rng u
  have hh:=dec_headN u (by omega)
  cases hdd:Lib.decDigits u with
  |nil=>exact absurd hdd (dec_ne u)
  |cons c r=>
   rw[hdd] at h3 hr hj5 hln
   have hc:=hr c (List.mem_cons_self ..)
   have hc48:=hh c r hdd
   obtain⟨hlt2,_,h4⟩:=dr_cons (show s.data.toList.drop (i+1)=c::(r++rest) from h3)
   have hp2:=peek_at (m+28) (n:=n) (show s.data.toList.drop (i+1)=c::(r++rest) from h3) hs
   have e1:decide ((c.toNat:Int)<48)=false:=decide_eq_false (by omega)
   have e2:decide ((57:Int)<(c.toNat:Int))=false:=decide_eq_false (by omega)
   have e3:((c.toNat:Int)==48)=false:=by rw[beq_eq_false_iff_ne];omega
   have e4:((c.toNat:Int) !=48)=true:=by unfold bne;rw[e3];rfl
   have hlp:=fun e0=>int_loop (m+28) s n hs (i:Int) e0 rest hrest r (m+30) (i+1+1) h4 (by omega) (fun x hx=>hr x (List.mem_cons_of_mem _ hx)) (by simp at hln;omega)
   rw[i25]
   simp only[hp,Option.bind_some]
   show i25_j0 (m+29) (i:Int) true (Dt.agg [Dt.str (Dt.S (Q s i n) 0),Dt.int (IntKind.wrap .i64 (Dt.I (Q s i n) 1+1)),Dt.int (Dt.I (Q s i n) 2),Dt.int (Dt.I (Q s i n) 3),Dt.int (Dt.I (Q s i n) 4)]) kza2373=_
   rw[Q_adv (by omega),i25_j0]
   simp only[hp2,Option.bind_some,e1,e2,e3,cond_false,cond_true,i25_j1,i25_j2,e4,Q_adv (show i+1<9223372036854775807 by omega)]
   show i25_l3 (m+29) (m+30) (i:Int) (Q s (i+1+1) n) kza2373=_
   rw[hlp,show i+1+1+r.length=i+(45::c::r).length by simp only[List.length_cons];omega]
   exact hj5 _
 ·obtain⟨u,rfl⟩:∃u:Nat,v=(u:Int):=⟨v.toNat,by omega⟩
  have hit:=Lib.itoa_nonneg u
  rw[hit] at hd hj5 hln ⊢
  have hr:=dig_rng u
  have hh:=dec_headN u
  cases hdd:Lib.decDigits u with
  |nil=>exact absurd hdd (dec_ne u)
  |cons c r=>
   rw[hdd] at hd hr hj5 hln
   have hc:=hr c (List.mem_cons_self ..)
   obtain⟨hlt2,_,h4⟩:=dr_cons (show s.data.toList.drop i=c::(r++rest) from hd)
   have hp2:=peek_at (m+28) (n:=n) (show s.data.toList.drop i=c::(r++rest) from hd) hs
   have e0:((c.toNat:Int)==45)=false:=by rw[beq_eq_false_iff_ne];omega
   have e1:decide ((c.toNat:Int)<48)=false:=decide_eq_false (by omega)
   have e2:decide ((57:Int)<(c.toNat:Int))=false:=decide_eq_false (by omega)
   rw[i25]
   simp only[hp2,Option.bind_some,e0,cond_false]
   show i25_j0 (m+29) (i:Int) false (Q s i n) kza2373=_
   rw[i25_j0]
   simp only[hp2,Option.bind_some,e1,e2,cond_false,i25_j1,i25_j2,Q_adv (show i<9223372036854775807 by omega)]
   by_cases h48:c.toNat=48
   ·    have e4:((c.toNat:Int) !=48)=false:=by rw[h48];rfl
        have hu:u=0:=by
         rcases Nat.eq_zero_or_pos u with h|h
         ·exact h
         ·exact absurd h48 (hh h c r hdd)
        have hr0:r=[]:=by
         rw[hu,Lib.decDigits_one (by omega)] at hdd
         injection hdd with _ h;exact h.symm
        subst hr0
        rw[e4,cond_false]
        exact hj5 _
   ·    have e4:((c.toNat:Int) !=48)=true:=by unfold bne;rw[Bool.not_eq_true',beq_eq_false_iff_ne];omega
        have hlp:=fun e0=>int_loop (m+28) s n hs (i:Int) e0 rest hrest r (m+30) (i+1) h4 (by omega) (fun x hx=>hr x (List.mem_cons_of_mem _ hx)) (by simp at hln;omega)
        rw[e4,cond_true]
        show i25_l3 (m+29) (m+30) (i:Int) (Q s (i+1) n) kza2373=_
        rw[hlp,show i+1+r.length=i+(c::r).length by simp only[List.length_cons];omega]
        exact hj5 _
def opn (c:UInt8):Prop:=c=91∨c=123∨c=110∨c=116∨c=102
theorem val_opn (m:Nat) (s:ByteArray) (i n:Nat) (lv:Int) (late:Bool) (c:UInt8) (r:List UInt8) (hd:s.data.toList.drop i=c::r) (hs:s.size<1000000000000) (hlv:lv≤16) (hn:n<1024) (hc:opn c):
  i7 (m+2) lv late (Q s i n)=i7_j3 (m+1) (i17 (m+1)) (i18 (m+1)) lv (c.toNat:Int) (Q s i (n+1)) kza2373:=by
 have hp:=peek_at m (n:=n) hd hs
 have hct:=count_eq' m s i n lv (i:Int) hlv hn
 rw[i7]
 simp only[hp,Option.bind_some]
 rcases hc with rfl|rfl|rfl|rfl|rfl<;>
 ·show ((i8 (m+1) lv (i:Int) (Q s i n)).bind _)=_
  rw[hct];rfl
theorem val_late (m:Nat) (s:ByteArray) (i n:Nat) (lv:Int) (late:Bool) (c:UInt8) (r:List UInt8) (hd:s.data.toList.drop i=c::r) (hs:s.size<1000000000000) (hln:late=false→lv≤16∧n<1024) (hc:c=34∨c=45∨(48≤c.toNat∧c.toNat≤57)):
  i7 (m+2) lv late (Q s i n)=i7_j3 (m+1) (i17 (m+1)) (i18 (m+1)) lv (c.toNat:Int) (Q s i (bif late then n else n+1)) kza2373:=by
 have hp:=peek_at m (n:=n) hd hs
 have key:i7_j1 (m+1) (i17 (m+1)) (i18 (m+1)) lv late (i:Int) (c.toNat:Int) true (Q s i n) kza2373=i7_j3 (m+1) (i17 (m+1)) (i18 (m+1)) lv (c.toNat:Int) (Q s i (bif late then n else n+1)) kza2373:=by
  simp only[i7_j1,cond_true]
  cases late
  ·have hct:=count_eq' m s i n lv (i:Int) (hln rfl).1 (hln rfl).2
   simp only[Bool.not_false,cond_true,hct,Option.bind_some,i7_j2,Bool.not_true,cond_false]
  ·simp only[Bool.not_true,cond_false,i7_j2,cond_true]
 rw[i7]
 simp only[hp,Option.bind_some]
 rcases hc with rfl|rfl|hc
 ·exact key
 ·exact key
 ·have e0:((c.toNat:Int)==45)=false:=by rw[beq_eq_false_iff_ne];omega
  have e1:decide ((48:Int)≤(c.toNat:Int))=true:=decide_eq_true (by omega)
  have e2:decide ((c.toNat:Int)≤57)=true:=decide_eq_true (by omega)
  have e3:((c.toNat:Int)==34)=false:=by rw[beq_eq_false_iff_ne];omega
  simp only[e0,e1,e2,cond_false,cond_true,i7_j0,e3]
  exact key
theorem val_int (m:Nat) (s:ByteArray) (i n:Nat) (lv:Int) (late:Bool) (v:Int) (h1: -9223372036854775808≤v) (h2:v≤9223372036854775807) (rest:List UInt8) (hd:s.data.toList.drop i=Lib.itoa v++rest) (hi:i≤s.size) (hs:s.size<1000000000000) (hrest:nodig rest) (hln:late=false→lv≤16∧n<1024):
  i7 (m+31) lv late (Q s i n)=some (vInt v,true,Q s (i+(Lib.itoa v).length) (bif late then n else n+1)):=by
 have hie:=integer_eq m s i (bif late then n else n+1) v h1 h2 rest hd hi hs hrest
 obtain⟨c,r,hcr,hc⟩:∃c r,Lib.itoa v=c::r∧(c=45∨(48≤c.toNat∧c.toNat≤57)):=by
  by_cases hn:v<0
  ·obtain⟨u,rfl⟩:∃u:Nat,v= -(u:Int):=⟨v.natAbs,by omega⟩
   exact⟨45,_,Lib.itoa_neg u (by omega),.inl rfl⟩
  ·obtain⟨u,rfl⟩:∃u:Nat,v=(u:Int):=⟨v.toNat,by omega⟩
   have hr:=dig_rng u
   cases hdd:Lib.decDigits u with
   |nil=>exact absurd hdd (dec_ne u)
   |    cons c r=>
        rw[hdd] at hr
        exact⟨c,r,by rw[Lib.itoa_nonneg,hdd],.inr (hr c (List.mem_cons_self ..))⟩
 have hd2:s.data.toList.drop i=c::(r++rest):=by rw[hd,hcr];rfl
 rw[val_late (m+29) s i n lv late c _ hd2 hs hln (.inr hc)]
 have hj:i7_j3 (m+30) (i17 (m+30)) (i18 (m+30)) lv (c.toNat:Int) (Q s i (bif late then n else n+1)) kza2373=(i25 (m+30) (Q s i (bif late then n else n+1))).bind fun r8=>some (r8.1,r8.2.1,r8.2.2):=by
  have f:∀k:Nat,c.toNat≠k→((c.toNat:Int)==(k:Int))=false:=fun k hk=>by rw[beq_eq_false_iff_ne];omega
  have hcn:c.toNat=45∨(48≤c.toNat∧c.toNat≤57):=by rcases hc with rfl|hc;exact .inl rfl;exact .inr hc
  have f1:((c.toNat:Int)==34)=false:=f 34 (by omega)
  have f2:((c.toNat:Int)==91)=false:=f 91 (by omega)
  have f3:((c.toNat:Int)==123)=false:=f 123 (by omega)
  have f4:((c.toNat:Int)==110)=false:=f 110 (by omega)
  have f5:((c.toNat:Int)==116)=false:=f 116 (by omega)
  have f6:((c.toNat:Int)==102)=false:=f 102 (by omega)
  simp only[i7_j3,f1,f2,f3,f4,f5,f6,cond_false,i7_j4]
 rw[hj,hie];rfl
theorem val_text (m:Nat) (s:ByteArray) (i n:Nat) (lv:Int) (late:Bool) (l rest:List UInt8) (hd:s.data.toList.drop i=qtL l++rest) (hs:s.size<1000000000000) (hl:l.length≤m) (hl2:l.length≤4096) (hv:Lib.validD l=true) (hln:late=false→lv≤16∧n<1024):
  i7 (m+12) lv late (Q s i n)=some (vText l,true,Q s (i+(qtL l).length) (bif late then n else n+1)):=by
 have hd2:s.data.toList.drop i=34::(qL l++(34::rest)):=by rw[hd];simp[qtL]
 have ht:=text_rd m s i (bif late then n else n+1) l rest hd hs hl hl2
 rw[hv,cond_true] at ht
 rw[val_late (m+10) s i n lv late 34 _ hd2 hs hln (.inl rfl)]
 show ((i10 (m+11) (Q s i (bif late then n else n+1))).bind _)=_
 rw[ht];rfl
end Go.Proofs.YtmejbpmceflcjaaGreatDoor
namespace Go.Proofs.YtmejbpmceflcjaaGreatDoor
open Go.Am
def nob (c:UInt8):Prop:=c.toNat≠9∧c.toNat≠10∧c.toNat≠13∧c.toNat≠32∧c.toNat≠93∧c.toNat≠125
def hdOK (l:List UInt8):Prop:=∃c r,l=c::r∧nob c
theorem blanks_hd (m:Nat) {s:ByteArray} {i n:Nat} {l k:List UInt8} (h:s.data.toList.drop i=l++k) (hl:hdOK l) (hs:s.size<1000000000000):i5 (m+2) (Q s i n)=some (Q s i n):=by
 obtain⟨c,r,rfl,hc⟩:=hl
 exact blanks_no m (show s.data.toList.drop i=c::(r++k) from h) hs ⟨hc.1,hc.2.1,hc.2.2.1,hc.2.2.2.1⟩
theorem peek_hd (m:Nat) {s:ByteArray} {i n:Nat} {l k:List UInt8} (h:s.data.toList.drop i=l++k) (hl:hdOK l) (hs:s.size<1000000000000):∃c:Int,c≠93∧c≠125∧i6 (m+1) (Q s i n)=some (c,Q s i n):=by
 obtain⟨c,r,rfl,hc⟩:=hl
 refine⟨(c.toNat:Int),?_,?_,peek_at m (show s.data.toList.drop i=c::(r++k) from h) hs⟩
 ·have:=hc.2.2.2.2.1;omega
 ·have:=hc.2.2.2.2.2;omega
def adj (late:Bool) (d:Dt):Nat:=bif late&&(Dt.I d 0==4||Dt.I d 0==3) then 1 else 0
def Rd (self:Int→Bool→Dt→Option (Dt×Bool×Dt)) (s:ByteArray) (lv:Int) (d:Dt) (t:List UInt8):Prop:=
 ∀(late:Bool) (n i:Nat) (rest:List UInt8),n+nds d≤1024→i≤s.size→s.data.toList.drop i=t++rest→nodig rest→self lv late (Q s i n)=some (d,true,Q s (i+t.length) (n+nds d-adj late d))
theorem nodig_c {c:UInt8} {r:List UInt8} (h:c.toNat<48∨57<c.toNat):nodig (c::r):=h
theorem lsF_pos (g:Dt→List UInt8) (k:Nat) (e:Dt) (r:List Dt):lsF g (k+1) (e::r)=44::(g e++lsF g (k+2) r):=by
 show (bif decide (0<k+1) then[44] else[])++(g e++lsF g (k+1+1) r)=_
 rw[decide_eq_true (by omega)];rfl
theorem lsF_shift (g:Dt→List UInt8):∀(r:List Dt) (k j:Nat),lsF g (k+1) r=lsF g (j+1) r
 | [],_,_=>rfl
 |e::r,k,j=>by rw[lsF_pos,lsF_pos,lsF_shift g r (k+1) (j+1)]
theorem list_loop (m:Nat) (self:Int→Bool→Dt→Option (Dt×Bool×Dt)) (s:ByteArray) (hs:s.size<1000000000000) (g:Dt→List UInt8) (lv:Int) (hlv:0≤lv∧lv≤100) (rest:List UInt8) (e0:Dt):∀(r:List Dt) (e:Dt) (acc:List Dt) (M i n k:Nat),
  s.data.toList.drop i=g e++(lsF g (k+1) r++(93::rest))→i≤s.size→r.length<M→(∀x∈e::r,Rd self s (lv+1) x (g x)∧hdOK (g x)∧1≤nds x)→n+((e::r).map nds).sum≤1024→acc.length+r.length+1≤137438953000→
  i17_l1 (m+3) self M lv (Q s i n) e0 6 0 (ByteArray.mk (List.toArray [])) acc []=some (Dt.agg [Dt.int 6,Dt.int 0,Dt.str (ByteArray.mk (List.toArray [])),Dt.lst (acc++e::r),Dt.lst []],true,Q s (i+(g e).length+(lsF g (k+1) r).length+1) (n+((e::r).map nds).sum))
 |_,_,_,0,_,_,_,_,_,h,_,_,_=>by omega
 |r,e,acc,M+1,i,n,k,hd,hi,hM,hx,hn,ha=>by
  obtain⟨hR,hH,_⟩:=hx e (List.mem_cons_self ..)
  simp only[List.map_cons,List.sum_cons] at hn ⊢
  have hdl:=dr_len hd hi
  rw[List.length_append] at hdl
  have hnd:nodig (lsF g (k+1) r++(93::rest)):=by
   cases r with
   |nil=>exact nodig_c (.inr (by decide))
   |cons e2 r2=>rw[lsF_pos];exact nodig_c (.inl (by decide))
  have h1:=hR false n i _ (by omega) hi hd hnd
  rw[show adj false e=0 from rfl,Nat.sub_zero] at h1
  have h2:=dr_add hd
  have w1:IntKind.wrap .i64 (lv+1)=lv+1:=wrap64 (by omega) (by omega)
  have ap:app acc [e]=some (acc++[e]):=app_le (by simp;omega)
  simp only[i17_l1,w1,h1,Option.bind_some,Bool.not_true,cond_false,i17_j2,ap]
  cases r with
  |nil=>
   have h3:s.data.toList.drop (i+(g e).length)=93::rest:=h2
   obtain⟨hlt,_,_⟩:=dr_cons h3
   have hb:=blanks_no (m+1) (n:=n+nds e) h3 hs (by decide)
   have hp:=peek_at (m+2) (n:=n+nds e) h3 hs
   have f1:(((93:UInt8).toNat:Int) !=44)=true:=rfl
   have f2:(((93:UInt8).toNat:Int) !=93)=false:=rfl
   have f3:(((93:UInt8).toNat:Int)==93)=true:=rfl
   simp only[hb,hp,Option.bind_some,f1,f2,f3,cond_true,cond_false,i17_j3,i17_j4,Q_adv (show i+(g e).length<9223372036854775807 by omega)]
   simp[lsF]
  |cons e2 r2=>
   have h3:s.data.toList.drop (i+(g e).length)=44::(g e2++(lsF g (k+2) r2++(93::rest))):=by rw[h2,lsF_pos];simp
   obtain⟨hlt,_,h4⟩:=dr_cons h3
   have hb:=blanks_no (m+1) (n:=n+nds e) h3 hs (by decide)
   have hp:=peek_at (m+2) (n:=n+nds e) h3 hs
   have f1:(((44:UInt8).toNat:Int) !=44)=false:=rfl
   have f3:(((44:UInt8).toNat:Int)==93)=false:=rfl
   obtain⟨_,hH2,_⟩:=hx e2 (by simp)
   have hb2:=blanks_hd (m+1) (n:=n+nds e) h4 hH2 hs
   rw[List.length_cons] at hM ha
   have ih:=list_loop m self s hs g lv hlv rest e0 r2 e2 (acc++[e]) M (i+(g e).length+1) (n+nds e) (k+1) h4 (by omega) (by omega) (fun x hx'=>hx x (List.mem_cons_of_mem _ hx')) (by omega) (by simp;omega)
   rw[show k+1+1=k+2 from rfl] at ih
   simp only[hb,hp,Option.bind_some,f1,f3,cond_false,i17_j3,i17_j4,Q_adv (show i+(g e).length<9223372036854775807 by omega),i17_j5,hb2,ih,List.append_assoc,List.singleton_append]
   rw[lsF_pos]
   simp only[List.length_cons,List.length_append,List.map_cons,List.sum_cons]
   congr 4
   ·omega
   ·omega
theorem list_rd (m:Nat) (s:ByteArray) (hs:s.size<1000000000000) (g:Dt→List UInt8) (lv:Int) (hlv:0≤lv∧lv≤100) (rest:List UInt8) (L:List Dt) (i n:Nat) (hd:s.data.toList.drop i=[91]++(lsF g 0 L++[93])++rest) (hi:i≤s.size) (hm:L.length≤m) (hL:L.length≤130000000000)
  (hx:∀x∈L,Rd (i7 (m+3)) s (lv+1) x (g x)∧hdOK (g x)∧1≤nds x) (hn:n+(L.map nds).sum≤1024):
  i17 (m+4) lv (Q s i n)=some (Dt.agg [Dt.int 6,Dt.int 0,Dt.str (ByteArray.mk (List.toArray [])),Dt.lst L,Dt.lst []],true,Q s (i+([91]++(lsF g 0 L++[93])).length) (n+(L.map nds).sum)):=by
 have hd1:s.data.toList.drop i=91::(lsF g 0 L++(93::rest)):=by rw[hd];simp
 obtain⟨hlt,_,h1⟩:=dr_cons hd1
 rw[i17]
 simp only[Q_adv (show i<9223372036854775807 by omega)]
 cases L with
 |nil=>
  have h2:s.data.toList.drop (i+1)=93::rest:=h1
  obtain⟨hlt2,_,_⟩:=dr_cons h2
  have hb:=blanks_no (m+1) (n:=n) h2 hs (by decide)
  have hp:=peek_at (m+2) (n:=n) h2 hs
  have f3:(((93:UInt8).toNat:Int)==93)=true:=rfl
  simp only[hb,hp,Option.bind_some,f3,cond_true,Q_adv (show i+1<9223372036854775807 by omega)]
  rfl
 |cons e r=>
  have h2:s.data.toList.drop (i+1)=g e++(lsF g (0+1) r++(93::rest)):=by rw[h1];simp[lsF]
  obtain⟨_,hH,_⟩:=hx e (List.mem_cons_self ..)
  have hb:=blanks_hd (m+1) (n:=n) h2 hH hs
  obtain⟨c,hc1,_,hp⟩:=peek_hd (m+2) (n:=n) h2 hH hs
  have f3:(c==93)=false:=beq_eq_false_iff_ne.2 hc1
  rw[List.length_cons] at hm hL
  have ih:=list_loop m (i7 (m+3)) s hs g lv hlv rest kza2373 r e [] (m+4) (i+1) n 0 h2 (by omega) (by omega) hx hn (by simp;omega)
  simp only[hb,hp,Option.bind_some,f3,cond_false,i17_j0]
  rw[ih]
  simp only[List.nil_append,lsF,Nat.lt_irrefl,decide_false,cond_false,List.length_append,List.length_cons,List.length_nil]
  congr 4
  omega
def isSp (nm:ByteArray):Bool:=eqb nm nmId||(eqb nm nmBytes||(eqb nm nmTime||(eqb nm nmMin||eqb nm nmMax)))
theorem isSp_eq (m:Nat) (nm:ByteArray):notation_isSpecial (m+1) nm=some (isSp nm):=by
 obtain⟨n1,n2,n3,n4,n5⟩:=nm_eqs nm
 simp only[notation_isSpecial,notation_isSpecial_j0,notation_isSpecial_j1,n1,n2,n3,n4,n5,isSp]
 cases eqb nm nmId<;>cases eqb nm nmBytes<;>cases eqb nm nmTime<;>cases eqb nm nmMin<;>cases eqb nm nmMax<;>rfl
theorem spRow_eq (m:Nat) (L:List Dt) (hb:∀f∈L,(Dt.S (Dt.fld f 1) 2).size≤m) (hb2:∀f∈L,(Dt.S (Dt.fld f 1) 2).size≤100000000000):∃x,i22 (m+2) L=some (x,spc L,L)∧∀f,L=[f]→spc L=true→x=spV f:=by
 rcases one_len L with⟨f,rfl⟩| ⟨h1,h2⟩
 ·have hx :=fromHex_eq m (Dt.fld f 1) (hb f (by simp)) (hb2 f (by simp))
  have hi:inL [f] 0=some ():=rfl
  have hg:([f]:List Dt)[0]? =some f:=rfl
  obtain⟨n1,n2,n3,n4,n5⟩:=nm_eqs (Dt.S f 0)
  have hone:((([f].length:Nat):Int) !=1)=false:=rfl
  simp only[i22,hone,cond_false,i22_j0,hi,hg,Option.bind_some,hx,n1,n2,n3,n4,n5,i22_j1]
  suffices H:∃x,_=some (x,spc [f],[f])∧(spc [f]=true→x=spV f) from by
   obtain⟨x,p,q⟩:=H
   exact⟨x,p,fun g hg hs=>by cases hg;exact q hs⟩
  show ∃x,_=some (x,spF f,[f])∧(spF f=true→x=spV f)
  unfold spF spV
  cases eqb (Dt.S f 0) nmId
  ·cases  eqb (Dt.S f 0) nmBytes
   ·    cases eqb (Dt.S f 0) nmTime
        ·cases eqb (Dt.S f 0) nmMin
         ·cases eqb (Dt.S f 0) nmMax
          ·exact⟨_,rfl,fun h=>by cases h⟩
          ·   cases (Dt.I (Dt.fld f 1) 0==3)
              ·exact⟨_,rfl,fun h=>by cases h⟩
              ·exact⟨_,rfl,fun _=>rfl⟩
         ·cases (Dt.I (Dt.fld f 1) 0==3)
          ·exact⟨_,rfl,fun h=>by cases h⟩
          ·exact⟨_,rfl,fun _=>rfl⟩
        ·cases (Dt.I (Dt.fld f 1) 0==3)
         ·exact⟨_,rfl,fun h=>by cases h⟩
         ·exact⟨_,rfl,fun _=>rfl⟩
   ·    cases (Dt.I (Dt.fld f 1) 0==4&&hexS (Dt.S (Dt.fld f 1) 2))
        ·exact⟨_,rfl,fun h=>by cases h⟩
        ·exact⟨_,rfl,fun _=>rfl⟩
  ·cases h4:(Dt.I (Dt.fld f 1) 0==4&&hexS (Dt.S (Dt.fld f 1) 2))
   ·exact⟨_,rfl,fun h=>by cases h⟩
   ·    simp only[cond_true,len12 _ ((Bool.and_eq_true_iff).1 h4).2,Bool.true_and]
        exact⟨_,rfl,fun _=>rfl⟩
 ·exact⟨kza2373,by simp only[i22,bne,h1,Bool.not_false,cond_true,h2],fun f hf=>by rw[hf] at h1;cases h1⟩
theorem spF_kind {f:Dt} (h:spF f=true):isSp (Dt.S f 0)=true∧(Dt.I (Dt.fld f 1) 0==4||Dt.I (Dt.fld f 1) 0==3)=true:=by
 unfold spF at h
 unfold isSp
 cases e1:eqb (Dt.S f 0) nmId
 ·cases  e2:eqb (Dt.S f 0) nmBytes
  ·cases  e3:eqb (Dt.S f 0) nmTime
   ·    cases e4:eqb (Dt.S f 0) nmMin
        ·cases e5:eqb (Dt.S f 0) nmMax
         ·rw[e1,e2,e3,e4,e5] at h;cases h
         ·rw[e1,e2,e3,e4,e5] at h
          exact⟨rfl,by rw[(Bool.and_eq_true_iff.1 h).1,Bool.or_true]⟩
        ·rw[e1,e2,e3,e4] at h
         exact⟨rfl,by rw[(Bool.and_eq_true_iff.1 h).1,Bool.or_true]⟩
   ·    rw[e1,e2,e3] at h
        exact⟨rfl,by rw[(Bool.and_eq_true_iff.1 h).1,Bool.or_true]⟩
  ·rw[e1,e2] at h
   exact⟨rfl,by rw[(Bool.and_eq_true_iff.1 h).1,Bool.true_or]⟩
 ·rw[e1] at h
  exact⟨rfl,by rw[(Bool.and_eq_true_iff.1 (Bool.and_eq_true_iff.1 h).1).1,Bool.true_or]⟩
theorem name_eq5 (m:Nat) (s:ByteArray) (hs:s.size<1000000000000) (i n:Nat) (nm:ByteArray) (mp:List Dt) (l k:List UInt8) (hd:s.data.toList.drop i=qtL nm.data.toList++(58::(l++k))) (hl:hdOK l) (hw:wd nm=true) (hm:(mgetD mp nm (Dt.bool false)).toBool=false) (hmm:200≤m):
  i19 (m+11) (Q s i n) mp=some (nm,true,Q s (i+(qtL nm.data.toList).length+1) n,mp):=by
 obtain⟨hw1,hw3⟩:=Bool.and_eq_true_iff.1 hw
 obtain⟨hw1,hw2⟩:=Bool.and_eq_true_iff.1 hw1
 have hw1:=of_decide_eq_true hw1
 have hw2:=of_decide_eq_true hw2
 have hd0:s.data.toList.drop i=34::(qL nm.data.toList++(34::(58::(l++k)))):=by rw[hd];simp[qtL]
 have hp:=peek_at (m+9) (n:=n) hd0 hs
 have hlit:=literal_eq m s i n nm.data.toList _ hd hs (by rw[lenB];omega) (by rw[lenB];omega)
 rw[mkB_self] at hlit
 have h2:=dr_add hd
 obtain⟨hlt,_,h3⟩:=dr_cons h2
 have hb:=blanks_no (m+8) (n:=n) h2 hs (by decide)
 have hp2:=peek_at (m+9) (n:=n) h2 hs
 have hb2:=blanks_hd (m+8) (n:=n) h3 hl hs
 have hf:=isField_eq (m+9) nm (by omega) (by omega)
 rw[hw3,decide_eq_true hw1] at hf
 have f0:(((34:UInt8).toNat:Int) !=34)=false:=rfl
 have f1:(((58:UInt8).toNat:Int) !=58)=false:=rfl
 have e1:decide ((128:Int)<(nm.size:Int))=false:=decide_eq_false (by omega)
 rw[i19]
 simp only[hp,Option.bind_some,f0,cond_false,i19_j0,hlit,Bool.not_true,i19_j1,e1,i19_j2,hf,Bool.and_self,hm,i19_j3,i19_j4,hb,hp2,f1,i19_j5,Q_adv (show i+(qtL nm.data.toList).length<9223372036854775807 by omega),hb2]
def ftx (g:Dt→List UInt8) (f:Dt):List UInt8:=qtL (Dt.S f 0).data.toList++([58]++g (Dt.fld f 1))
theorem ftx_hd (g:Dt→List UInt8) (f:Dt):hdOK (ftx g f):=⟨34,qL (Dt.S f 0).data.toList++[34]++([58]++g (Dt.fld f 1)),by simp[ftx,qtL],by unfold nob;decide⟩
theorem nob_hd {l:List UInt8} (h:hdOK l):l≠[]:=by obtain⟨c,r,rfl,_⟩:=h;simp
structure HF (sf:Int→Bool→Dt→Option (Dt×Bool×Dt)) (s:ByteArray) (lv:Int) (g:Dt→List UInt8) (m:Nat) (f:Dt):Prop where
 rd:Rd sf s (lv+1) (Dt.fld f 1) (g (Dt.fld f 1))
 hd:hdOK (g (Dt.fld f 1))
 one:1≤nds (Dt.fld f 1)
 sc:(Dt.I (Dt.fld f 1) 0==4||Dt.I (Dt.fld f 1) 0==3)=true→nds (Dt.fld f 1)=1
 eq:f=Dt.agg [Dt.str (Dt.S f 0),Dt.fld f 1]
 sz:(Dt.S (Dt.fld f 1) 2).size≤m∧(Dt.S (Dt.fld f 1) 2).size≤100000000000
theorem spc_app {dn r:List Dt} {f:Dt} (h:dn≠[]∨r≠[]):spc (dn++f::r)=false:=by
 match dn,r,h with
 | [],[],h=>simp at h
 | [],_::_,_=>rfl
 | [_],_,_=>rfl
 |_::_::_,_,_=>rfl
theorem j7_eq (m:Nat) (self:Int→Bool→Dt→Option (Dt×Bool×Dt)) (rec1:Int→Dt→Dt→Int→Int→ByteArray→List Dt→List Dt→List Dt→Option (Dt×Bool×Dt)) (lv:Int) (hlv:0≤lv∧lv+1≤16) (late:Bool) (st c:Int) (s:ByteArray) (i n:Nat) (e0:Dt) (x6 x7:Int) (x8:ByteArray) (x9 x10 x11:List Dt) (v:Dt) (hn:n+adj late v≤1024):
  i18_j7 (m+1) self rec1 lv late st c (Q s i n) e0 x6 x7 x8 x9 x10 x11 v=i18_j9 (m+1) self rec1 lv c (Q s i (n+adj late v)) e0 x6 x7 x8 x9 x10 x11:=by
 have w1:IntKind.wrap .i64 (lv+1)=lv+1:=wrap64 (by omega) (by omega)
 have hct:=fun(h:n<1024)=>count_eq' m s i n (lv+1) st hlv.2 h
 unfold adj at hn ⊢
 cases late
 ·simp only[i18_j7,i18_j8,cond_false,Bool.false_and,Nat.add_zero]
 ·simp only[i18_j7,cond_true,Bool.true_and,w1] at hn ⊢
  cases h4:(Dt.I v 0==4)
  ·cases h3:(Dt.I v 0==3)
   ·simp only[i18_j8,cond_false,Bool.or_self,Nat.add_zero]
   ·    rw[h4,h3] at hn
        have hc:=hct (by have h:n+1≤1024:=hn;omega)
        simp only[cond_false,cond_true,Bool.false_or,hc,Option.bind_some,Bool.not_true,i18_j8]
  ·rw[h4] at hn
   have hc:=hct (by have h:n+1≤1024:=hn;omega)
   simp only[cond_false,cond_true,Bool.true_or,hc,Option.bind_some,Bool.not_true,i18_j8]
theorem obj_loop (m:Nat) (hm:300≤m) (self:Int→Bool→Dt→Option (Dt×Bool×Dt)) (s:ByteArray) (hs:s.size<1000000000000) (g:Dt→List UInt8) (lv:Int) (hlv:0≤lv∧lv+1≤16) (rest:List UInt8) (e0:Dt):∀(r:List Dt) (f:Dt) (dn:List Dt) (M i n k:Nat) (mp:List Dt),
  s.data.toList.drop i=ftx g f++(lsF (ftx g) (k+1) r++(125::rest))→i≤s.size→r.length<M→fl wd (fun _=>true) (dn.map fun x=>Dt.S x 0) (f::r)=true→MapS mp (dn.map fun x=>Dt.S x 0)→(∀x∈dn++f::r,HF self s lv g m x)→
  n+((f::r).map fun x=>nds (Dt.fld x 1)).sum≤1024→dn.length+r.length+1≤137438953000→
  i18_l1 (m+11) self M lv (Q s i n) e0 5 0 (ByteArray.mk (List.toArray [])) [] dn mp=some (bif spc (dn++f::r) then(spV f,true,Q s (i+(ftx g f).length+(lsF (ftx g) (k+1) r).length+1) n) else(Dt.agg [Dt.int 5,Dt.int 0,Dt.str (ByteArray.mk (List.toArray [])),Dt.lst [],Dt.lst (dn++f::r)],true,Q s (i+(ftx g f).length+(lsF (ftx g) (k+1) r).length+1) (n+((f::r).map fun x=>nds (Dt.fld x 1)).sum)))
 |_,_,_,0,_,_,_,_,_,_,h,_,_,_,_,_=>by omega
 |r,f,   dn,M+1,i,n,k,mp,hd,hi,hM,hfl,hmp,hx,hn,ha=>by
  have hF:=hx f (by simp)
  simp only[List.map_cons,List.sum_cons] at hn ⊢
  simp only[fl,Bool.and_true] at hfl
  obtain⟨hfl1,hfl2⟩:=Bool.and_eq_true_iff.1 hfl
  obtain⟨hwd,hseen⟩:=Bool.and_eq_true_iff.1 hfl1
  have hdl:=dr_len hd hi
  rw[List.length_append] at hdl
  have hlen:(ftx g f).length=(qtL (Dt.S f 0).data.toList).length+1+(g (Dt.fld f 1)).length:=by simp[ftx];omega
  have hd1:s.data.toList.drop i=qtL (Dt.S f 0).data.toList++(58::(g (Dt.fld f 1)++(lsF (ftx g) (k+1) r++(125::rest)))):=by rw[hd];simp[ftx]
  have hmg:=hmp (Dt.S f 0)
  rw[show (dn.map fun x=>Dt.S x 0).any (eqb (Dt.S f 0))=false by simpa using hseen] at hmg
  have hnm:=name_eq5 m s hs i n (Dt.S f 0) mp _ _ hd1 hF.hd hwd hmg (by omega)
  have h2:=dr_add hd1
  obtain⟨hlt2,_,h3⟩:=dr_cons h2
  have hmp2:=mapS_put hmp (Dt.S f 0)
  have w1:IntKind.wrap .i64 (lv+1)=lv+1:=wrap64 (by omega) (by omega)
  have hnd:nodig (lsF (ftx g) (k+1) r++(125::rest)):=by
   cases r with
   |nil=>exact nodig_c (.inr (by decide))
   |cons e2 r2=>rw[lsF_pos];exact nodig_c (.inl (by decide))
  obtain⟨late,hlate⟩:∃late:Bool,late=(bif ((dn.length:Int)==0) then isSp (Dt.S f 0) else false):=⟨_,rfl⟩
  have hr:=hF.rd late n (i+(qtL (Dt.S f 0).data.toList).length+1) _ (by omega) (by omega) h3 hnd
  have h4:=dr_add h3
  have e4:i+(qtL (Dt.S f 0).data.toList).length+1+(g (Dt.fld f 1)).length=i+(ftx g f).length:=by rw[hlen];omega
  rw[e4] at h4 hr
  have hadj:adj late (Dt.fld f 1)≤nds (Dt.fld f 1):=by
   have:=hF.one
   unfold adj
   cases (late&&(Dt.I (Dt.fld f 1) 0==4||Dt.I (Dt.fld f 1) 0==3))<;>simp<;>omega
  have ap:app dn [Dt.agg [Dt.str (Dt.S f 0),Dt.fld f 1]]=some (dn++[f]):=by
   rw[←hF.eq];exact app_le (by simp;omega)
  have start:i18_l1 (m+11) self (M+1) lv (Q s i n) e0 5 0 (ByteArray.mk (List.toArray [])) [] dn mp=i18_j4 (m+11) self (i18_l1 (m+11) self M) lv (Dt.S f 0) late (Dt.I (Q s (i+(qtL (Dt.S f 0).data.toList).length+1) n) 1) (Q s (i+(ftx g f).length) (n+nds (Dt.fld f 1)-adj late (Dt.fld f 1))) e0 5 0 (ByteArray.mk (List.toArray [])) [] dn (mput mp (Dt.S f 0) (Dt.bool true)) (Dt.fld f 1):=by
   have hj3:i18_j3 (m+11) self (i18_l1 (m+11) self M) lv (Dt.S f 0) late (Q s (i+(qtL (Dt.S f 0).data.toList).length+1) n) e0 5 0 (ByteArray.mk (List.toArray [])) [] dn (mput mp (Dt.S f 0) (Dt.bool true))=i18_j4 (m+11) self (i18_l1 (m+11) self M) lv (Dt.S f 0) late (Dt.I (Q s (i+(qtL (Dt.S f 0).data.toList).length+1) n) 1) (Q s (i+(ftx g f).length) (n+nds (Dt.fld f 1)-adj late (Dt.fld f 1))) e0 5 0 (ByteArray.mk (List.toArray [])) [] dn (mput mp (Dt.S f 0) (Dt.bool true)) (Dt.fld f 1):=by
        simp only[i18_j3,w1,hr,Option.bind_some,Bool.not_true,cond_false]
   rw[←hj3]
   simp only[i18_l1,hnm,Option.bind_some,Bool.not_true,cond_false,i18_j2]
   rw[hlate]
   cases ((dn.length:Int)==0)
   ·rfl
   ·simp only[cond_true,isSp_eq,Option.bind_some]
  rw[start]
  simp only[i18_j4,ap,Option.bind_some]
  cases r with
  |nil   =>
   have h5:s.data.toList.drop (i+(ftx g f).length)=125::rest:=h4
   obtain⟨hlt,_,_⟩:=dr_cons h5
   have hb:=blanks_no (m+9) (n:=n+nds (Dt.fld f 1)-adj late (Dt.fld f 1)) h5 hs (by decide)
   have hp:=peek_at (m+10) (n:=n+nds (Dt.fld f 1)-adj late (Dt.fld f 1)) h5 hs
   have f1:(((125:UInt8).toNat:Int) !=44)=true:=rfl
   have f2:(((125:UInt8).toNat:Int) !=125)=false:=rfl
   have f3:(((125:UInt8).toNat:Int)==125)=true:=rfl
   obtain⟨x,hsp,hx2⟩:=spRow_eq (m+9) (dn++[f]) (fun y hy=>by have:=(hx y hy).sz.1;omega) (fun y hy=>(hx y hy).sz.2)
   have hj7:=j7_eq (m+10) self (i18_l1 (m+11) self M) lv hlv late (Dt.I (Q s (i+(qtL (Dt.S f 0).data.toList).length+1) n) 1) ((125:UInt8).toNat:Int) s (i+(ftx g f).length+1) (n+nds (Dt.fld f 1)-adj late (Dt.fld f 1)) e0 5 0 (ByteArray.mk (List.toArray [])) [] (dn++[f]) (mput mp (Dt.S f 0) (Dt.bool true)) (Dt.fld f 1) (by omega)
   simp only[hb,hp,Option.bind_some,f1,f2,f3,cond_true,i18_j5,cond_false,i18_j6,hsp,Q_adv (show i+(ftx g f).length<9223372036854775807 by omega),lsF,List.length_nil,Nat.add_zero]
   cases hsc:spc (dn++[f])
   ·    rw[cond_false,cond_false,hj7]
        simp only[i18_j9,f3,cond_true,List.map_nil,List.sum_nil,Nat.add_zero]
        rw[show n+nds (Dt.fld f 1)-adj late (Dt.fld f 1)+adj late (Dt.fld f 1)=n+nds (Dt.fld f 1) by omega]
   ·    have hdn:dn=[]:=by
         cases dn with
         |nil=>rfl
         |cons a b=>rw[spc_app (.inl (by simp))] at hsc;cases hsc
        subst hdn
        have hsf:spF f=true:=hsc
        obtain⟨k1,k2⟩:=spF_kind hsf
        have hl1:late=true:=by rw[hlate];exact k1
        have ha1:adj late (Dt.fld f 1)=1:=by unfold adj;rw[hl1,k2];rfl
        have hn1:=hF.sc k2
        rw[cond_true,cond_true,hx2 f rfl hsc,ha1,hn1,Nat.add_sub_cancel]
  |cons f2 r2=>
   have h5:s.data.toList.drop (i+(ftx g f).length)=44::(ftx g f2++(lsF (ftx g) (k+2) r2++(125::rest))):=by rw[h4,lsF_pos];simp
   obtain⟨hlt,_,h6⟩:=dr_cons h5
   have hb:=blanks_no (m+9) (n:=n+nds (Dt.fld f 1)-adj late (Dt.fld f 1)) h5 hs (by decide)
   have hp:=peek_at (m+10) (n:=n+nds (Dt.fld f 1)-adj late (Dt.fld f 1)) h5 hs
   have f1:(((44:UInt8).toNat:Int) !=44)=false:=rfl
   have f3:(((44:UInt8).toNat:Int)==125)=false:=rfl
   have hj7:=j7_eq (m+10) self (i18_l1 (m+11) self M) lv hlv late (Dt.I (Q s (i+(qtL (Dt.S f 0).data.toList).length+1) n) 1) ((44:UInt8).toNat:Int) s (i+(ftx g f).length+1) (n+nds (Dt.fld f 1)-adj late (Dt.fld f 1)) e0 5 0 (ByteArray.mk (List.toArray [])) [] (dn++[f]) (mput mp (Dt.S f 0) (Dt.bool true)) (Dt.fld f 1) (by omega)
   have hb2:=blanks_hd (m+9) (n:=n+nds (Dt.fld f 1)) h6 (ftx_hd g f2) hs
   rw[List.length_cons] at hM ha
   have et:((dn++[f]).map fun x=>Dt.S x 0)=(dn.map fun x=>Dt.S x 0)++[Dt.S f 0]:=by simp
   have ih:=obj_loop m hm self s hs g lv hlv rest e0 r2 f2 (dn++[f]) M (i+(ftx g f).length+1) (n+nds (Dt.fld f 1)) (k+1) (mput mp (Dt.S f 0) (Dt.bool true)) h6 (by omega) (by omega) (by rw[et];exact hfl2) (by rw[et];exact hmp2) (fun y hy=>hx y (by simpa using hy)) (by simp only[List.map_cons,List.sum_cons] at hn ⊢;omega) (by simp;omega)
   have ha':dn++[f]++f2::r2=dn++f::f2::r2:=by simp
   rw[show k+1+1=k+2 from rfl] at ih
   rw[ha',spc_app (.inr (by simp)),cond_false] at ih
   rw[spc_app (.inr (by simp)),cond_false]
   simp only[hb,hp,Option.bind_some,f1,f3,cond_false,i18_j5,i18_j6,Q_adv (show i+(ftx g f).length<9223372036854775807 by omega),hj7,i18_j9,i18_j10]
   rw[show n+nds (Dt.fld f 1)-adj late (Dt.fld f 1)+adj late (Dt.fld f 1)=n+nds (Dt.fld f 1) by omega]
   simp only[hb2,Option.bind_some,ih]
   rw[lsF_pos]
   simp only[List.length_cons,List.length_append,List.map_cons,List.sum_cons]
   congr 4
   ·omega
   ·omega
end Go.Proofs.YtmejbpmceflcjaaGreatDoor
namespace Go.Proofs.YtmejbpmceflcjaaGreatDoor
open Go.Am
theorem obj_rd (m:Nat) (hm:300≤m) (s:ByteArray) (hs:s.size<1000000000000) (g:Dt→List UInt8) (lv:Int) (rest:List UInt8) (L:List Dt) (i n:Nat) (hd:s.data.toList.drop i=[123]++(lsF (ftx g) 0 L++[125])++rest) (hi:i≤s.size) (hL:L.length≤130000000000) (hLm:L.length≤m)
  (hlv:L≠[]→0≤lv∧lv+1≤16) (hfl:fl wd (fun _=>true) [] L=true) (hx:∀x∈L,HF (i7 (m+11)) s lv g m x) (hn:n+(L.map fun x=>nds (Dt.fld x 1)).sum≤1024) (hsp:spc L=false):
  i18 (m+12) lv (Q s i n)=some (Dt.agg [Dt.int 5,Dt.int 0,Dt.str (ByteArray.mk (List.toArray [])),Dt.lst [],Dt.lst L],true,Q s (i+([123]++(lsF (ftx g) 0 L++[125])).length) (n+(L.map fun x=>nds (Dt.fld x 1)).sum)):=by
 have hd1:s.data.toList.drop i=123::(lsF (ftx g) 0 L++(125::rest)):=by rw[hd];simp
 obtain⟨hlt,_,h1⟩:=dr_cons hd1
 rw[i18]
 simp only[Q_adv (show i<9223372036854775807 by omega)]
 cases L with
 |nil=>
  have h2:s.data.toList.drop (i+1)=125::rest:=h1
  obtain⟨hlt2,_,_⟩:=dr_cons h2
  have hb:=blanks_no (m+9) (n:=n) h2 hs (by decide)
  have hp:=peek_at (m+10) (n:=n) h2 hs
  have f3:(((125:UInt8).toNat:Int)==125)=true:=rfl
  simp only[hb,hp,Option.bind_some,f3,cond_true,Q_adv (show i+1<9223372036854775807 by omega)]
  rfl
 |cons f r=>
  have h2:s.data.toList.drop (i+1)=ftx g f++(lsF (ftx g) (0+1) r++(125::rest)):=by rw[h1];simp[lsF]
  have hb:=blanks_hd (m+9) (n:=n) h2 (ftx_hd g f) hs
  obtain⟨c,_,hc1,hp⟩:=peek_hd (m+10) (n:=n) h2 (ftx_hd g f) hs
  have f3:(c==125)=false:=beq_eq_false_iff_ne.2 hc1
  rw[List.length_cons] at hL hLm
  have ih:=obj_loop m hm (i7 (m+11)) s hs g lv (hlv (by simp)) rest kza2373 r f [] (m+12) (i+1) n 0 [] h2 (by omega) (by omega) hfl mapS_nil hx hn (by simp;omega)
  rw[List.nil_append,hsp,cond_false] at ih
  simp only[hb,hp,Option.bind_some,f3,cond_false,i18_j0]
  rw[ih]
  simp only[lsF,Nat.lt_irrefl,decide_false,cond_false,List.length_append,List.length_cons,List.length_nil]
  congr 4
  omega
theorem sp_obj (m:Nat) (hm:300≤m) (s:ByteArray) (hs:s.size<1000000000000) (lv:Int) (hlv:0≤lv∧lv≤100) (rest:List UInt8) (nm:ByteArray) (v:Dt) (t:List UInt8) (i n:Nat) (hd:s.data.toList.drop i=[123]++(qtL nm.data.toList++([58]++(t++([125]++rest))))) (hi:i≤s.size) (hw:wd nm=true) (ht:hdOK t)
  (hsz:(Dt.S v 2).size≤m∧(Dt.S v 2).size≤100000000000) (hsf:spF (Dt.agg [Dt.str nm,v])=true)
  (hv:∀(j:Nat) (r:List UInt8),j≤s.size→s.data.toList.drop j=t++r→nodig r→i7 (m+11) (lv+1) true (Q s j n)=some (v,true,Q s (j+t.length) n)):
  i18 (m+12) lv (Q s i n)=some (spV (Dt.agg [Dt.str nm,v]),true,Q s (i+([123]++(qtL nm.data.toList++([58]++(t++[125])))).length) n):=by
 have hd1:s.data.toList.drop i=123::(qtL nm.data.toList++(58::(t++(125::rest)))):=by rw[hd];simp
 obtain⟨hlt,_,h1⟩:=dr_cons hd1
 have hq:hdOK (qtL nm.data.toList):=⟨34,qL nm.data.toList++[34],by simp[qtL],by unfold nob;decide⟩
 have hb:=blanks_hd (m+9) (n:=n) h1 hq hs
 obtain⟨c,_,hc1,hp⟩:=peek_hd (m+10) (n:=n) h1 hq hs
 have f3:(c==125)=false:=beq_eq_false_iff_ne.2 hc1
 have hnm:=name_eq5 m s hs (i+1) n nm [] t (125::rest) h1 ht hw rfl (by omega)
 have h2:=dr_add h1
 obtain⟨hlt2,_,h3⟩:=dr_cons h2
 have w1:IntKind.wrap .i64 (lv+1)=lv+1:=wrap64 (by omega) (by omega)
 have hval:=hv (i+1+(qtL nm.data.toList).length+1) _ (by omega) h3 (nodig_c (.inr (by decide)))
 have h4:s.data.toList.drop (i+1+(qtL nm.data.toList).length+1+t.length)=125::rest:=dr_add h3
 obtain⟨hlt4,_,_⟩:=dr_cons h4
 have hb4:=blanks_no (m+9) (n:=n) h4 hs (by decide)
 have hp4:=peek_at (m+10) (n:=n) h4 hs
 have f1:(((125:UInt8).toNat:Int) !=44)=true:=rfl
 have f2:(((125:UInt8).toNat:Int) !=125)=false:=rfl
 have f4:(((125:UInt8).toNat:Int)==125)=true:=rfl
 obtain⟨x,hsp,hx2⟩:=spRow_eq (m+9) [Dt.agg [Dt.str nm,v]] (fun y hy=>by rw[List.mem_singleton] at hy;subst hy;have:=hsz.1;show (Dt.S v 2).size≤_;omega) (fun y hy=>by rw[List.mem_singleton] at hy;subst hy;exact hsz.2)
 have hsc:spc [Dt.agg [Dt.str nm,v]]=true:=hsf
 have hx:=hx2 _ rfl hsc
 have hisp:isSp nm=true:=(spF_kind hsf).1
 have ap:app [] [Dt.agg [Dt.str nm,v]]=some [Dt.agg [Dt.str nm,v]]:=rfl
 have f0:((([]:List Dt).length:Int)==0)=true:=rfl
 subst hx
 rw[i18]
 simp only[Q_adv (show i<9223372036854775807 by omega),hb,hp,Option.bind_some,f3,cond_false,i18_j0]
 rw[i18_l1]
 simp only[hnm,Option.bind_some,Bool.not_true,cond_false,i18_j2,f0,cond_true,isSp_eq,hisp]
 simp only[i18_j3,w1,hval,Option.bind_some,Bool.not_true,cond_false]
 simp only[i18_j4,ap,hb4,hp4,Option.bind_some,f1,f2,cond_true]
 simp only[i18_j5,cond_false,i18_j6,f4,cond_true,hsp,Option.bind_some,hsc]
 rw[Q_adv (show i+1+(qtL nm.data.toList).length+1+t.length<9223372036854775807 by omega)]
 simp only[List.length_append,List.length_cons,List.length_nil]
 congr 4
 omega
theorem wv_eta {d:Dt} (hw:WV d):d= .agg [.int (Dt.I d 0),.int (Dt.I d 1),.str (Dt.S d 2),.lst (Dt.L d 3),.lst (Dt.L d 4)]:=by cases hw;rfl
theorem nds_sc {d:Dt} (hw:WV d) (h6:Dt.I d 0≠6) (h5:Dt.I d 0≠5):nds d=1:=by
 have hp:prts d=[]:=by
  unfold prts
  rw[beq_eq_false_iff_ne.2 h6,beq_eq_false_iff_ne.2 h5];rfl
 rw[nds_eq hw,hp];rfl
theorem nds_l {d:Dt} (hw:WV d) (h6:Dt.I d 0=6):nds d=1+((Dt.L d 3).map nds).sum:=by
 rw[nds_eq hw,prts6 (by rw[h6];rfl)]
theorem nds_d {d:Dt} (hw:WV d) (h5:Dt.I d 0=5):nds d=1+((Dt.L d 4).map fun x=>nds (Dt.fld x 1)).sum:=by
 rw[nds_eq hw,prts5 (by rw[h5];rfl) (by rw[h5];rfl),List.map_map];rfl
theorem mx_le {f:Dt→Nat}:∀{L:List Dt} {e:Dt},e∈L→f e≤mx f L
 |a::r,e,h=>by
  simp only[mx]
  rcases List.mem_cons.1 h with rfl|h
  ·omega
  ·have:=mx_le (f:=f) h;omega
theorem dpt_part {d e:Dt} (hw:WV d) (he:e∈prts d):dpt e+1≤dpt d:=by
 rw[dpt_eq hw]
 have:=mx_le (f:=dpt) he
 omega
theorem dpt_pos {d:Dt} (hw:WV d):1≤dpt d:=by rw[dpt_eq hw];omega
theorem str_nil {s:ByteArray} (h:(s.toList==[])=true):s=ByteArray.mk (List.toArray []):=by
 rw[ByteArray.toList_eq] at h
 exact nba_ext (by simpa using h)
theorem snd_int {p:ByteArray→Bool} {n:Nat} {d:Dt} (h:sndF p (n+1) d=true):(Dt.I d 0≠3→Dt.I d 0≠9→Dt.I d 0≠10→Dt.I d 1=0)∧(Dt.I d 0≠4→Dt.I d 0≠7→Dt.I d 0≠8→Dt.S d 2=ByteArray.mk (List.toArray [])):=by
 have hs:shp d=true:=by
  simp only[sndF] at h
  exact(Bool.and_eq_true_iff.1 h).1
 unfold shp at hs
 have s1:=(Bool.and_eq_true_iff.1 (Bool.and_eq_true_iff.1 (Bool.and_eq_true_iff.1 hs).1).1)
 refine⟨fun h3 h9 h10=>?_,fun h4 h7 h8=>?_⟩
 ·have:=s1.1
  rw[beq_eq_false_iff_ne.2 h3,beq_eq_false_iff_ne.2 h9,beq_eq_false_iff_ne.2 h10] at this
  simpa using this
 ·have:=s1.2
  rw[beq_eq_false_iff_ne.2 h4,beq_eq_false_iff_ne.2 h7,beq_eq_false_iff_ne.2 h8] at this
  exact str_nil (by simpa using this)
theorem snd_body {p:ByteArray→Bool} {n:Nat} {d:Dt} (h:sndF p (n+1) d=true):(Dt.I d 0=9→Dt.I d 1=0∨Dt.I d 1=1)∧(Dt.I d 0=10→0≤Dt.I d 1)∧(Dt.I d 0=4→(Dt.S d 2).size≤4096∧Lib.validD (Dt.S d 2).data.toList=true)∧(Dt.I d 0=8→(Dt.S d 2).size=12):=by
 simp only[sndF] at h
 have hb:=(Bool.and_eq_true_iff.1 h).2
 refine⟨fun e=>?_,fun e=>?_,fun e=>?_,fun e=>?_⟩
 ·rw[e] at hb
  have hb:(Dt.I d 1==0||Dt.I d 1==1)=true:=hb
  simpa using hb
 ·rw[e] at hb
  exact of_decide_eq_true (show decide ((0:Int)≤Dt.I d 1)=true from hb)
 ·rw[e] at hb
  have hb:(decide (((Dt.S d 2).size:Int)≤4096)&&Lib.validD (Dt.S d 2).data.toList)=true:=hb
  obtain⟨h1,h2⟩:=Bool.and_eq_true_iff.1 hb
  have:=of_decide_eq_true h1
  exact⟨by omega,h2⟩
 ·rw[e] at hb
  have hb:(((Dt.S d 2).size:Int)==12)=true:=hb
  have:((Dt.S d 2).size:Int)=12:=by simpa using hb
  omega
theorem erF_zero {g:Dt→Int}:∀{L:List Dt},erF g L=0→∀e∈L,g e=0
 |a::r,h,e,he=>by
  rw[erF_cons] at h
  cases h0:(g a==0)
  ·rw[h0,cond_false] at h
   rw[h] at h0;cases h0
  ·rw[h0,cond_true] at h
   rcases List.mem_cons.1 he with rfl|he
   ·simpa using h0
   ·exact erF_zero h e he
theorem hdg_rng {k:Nat} (h:k<16):(48≤(hdg k).toNat∧(hdg k).toNat≤57)∨(97≤(hdg k).toNat∧(hdg k).toNat≤102):=by
 obtain⟨h1,h2⟩:=hdg_num h
 rcases Nat.lt_or_ge k 10 with h3|h3
 ·have:=h1 h3;omega
 ·have:=h2 h3;omega
theorem qb_plain {c:UInt8} (h:(48≤c.toNat∧c.toNat≤57)∨(97≤c.toNat∧c.toNat≤102)):qb c=[c]:=by
 unfold qb
 have f:∀k:Nat,c.toNat≠k→((c.toNat:Int)==(k:Int))=false:=fun k hk=>by rw[beq_eq_false_iff_ne];omega
 have f1:((c.toNat:Int)==34)=false:=f 34 (by omega)
 have f2:((c.toNat:Int)==92)=false:=f 92 (by omega)
 have f3:((c.toNat:Int)==10)=false:=f 10 (by omega)
 have f4:((c.toNat:Int)==13)=false:=f 13 (by omega)
 have f5:((c.toNat:Int)==9)=false:=f 9 (by omega)
 have f6:((c.toNat:Int)==127)=false:=f 127 (by omega)
 have f7:decide ((c.toNat:Int)<32)=false:=decide_eq_false (by omega)
 rw[f1,f2,f3,f4,f5,f6,f7];rfl
theorem qL_hx:∀l:List UInt8,qL (hxL l)=hxL l
 | []=>rfl
 |c::r=>by
  have hc:=u8lt c
  show qb (hdg (c.toNat/16))++(qb (hdg (c.toNat%16))++qL (hxL r))=hdg (c.toNat/16)::hdg (c.toNat%16)::hxL r
  rw[qb_plain (hdg_rng (by omega)),qb_plain (hdg_rng (by omega)),qL_hx r];rfl
theorem hxd_hdg {k:Nat} (h:k<16):hxd (hdg k)=true∧hvN (hdg k)=k:=by
 obtain⟨h1,h2⟩:=hdg_num h
 rcases Nat.lt_or_ge k 10 with h3|h3
 ·have e:=h1 h3
  refine⟨?_,by rw[hvN_lo (by omega) (by omega)];omega⟩
  unfold hxd
  rw[decide_eq_true (show (48:Int)≤((hdg k).toNat:Int) by omega),decide_eq_true (show ((hdg k).toNat:Int)≤57 by omega)];rfl
 ·have e:=h2 h3
  refine⟨?_,by rw[hvN_hi (by omega)];omega⟩
  unfold hxd
  rw[decide_eq_true (show (97:Int)≤((hdg k).toNat:Int) by omega),decide_eq_true (show ((hdg k).toNat:Int)≤102 by omega)];simp
theorem unh_hx:∀l:List UInt8,unh (hxL l)=l
 | []=>rfl
 |c::r=>by
  have hc:=u8lt c
  show UInt8.ofNat (16*hvN (hdg (c.toNat/16))+hvN (hdg (c.toNat%16)))::unh (hxL r)=c::r
  rw[(hxd_hdg (by omega)).2,(hxd_hdg (by omega)).2,unh_hx r,show 16*(c.toNat/16)+c.toNat%16=c.toNat by omega]
  simp
theorem all_hx:∀l:List UInt8,(hxL l).all hxd=true
 | []=>rfl
 |c::r=>by
  have hc:=u8lt c
  show (hxd (hdg (c.toNat/16))&&(hxd (hdg (c.toNat%16))&&(hxL r).all hxd))=true
  rw[(hxd_hdg (by omega)).1,(hxd_hdg (by omega)).1,all_hx r];rfl
theorem hexS_hx (l:List UInt8):hexS ⟨(hxL l).toArray⟩=true:=by
 have hl:=hxL_len l
 unfold hexS
 rw[mkB_size,show (ByteArray.mk (List.toArray (hxL l))).data.toList=hxL l by simp,all_hx]
 rw[show (hxL l).length%2=0 by omega];rfl
theorem valid_hx (l:List UInt8):Lib.validD (hxL l)=true:=by
 have h:=Lib.validD_ascii (hxL l).length (hxL l) (fun b hb=>by
  rw[List.take_length] at hb
  rcases hxd_cases (List.all_eq_true.1 (all_hx l) b hb) with h|h<;>omega)
 rw[h,List.drop_length]
 exact Lib.validD_nil
theorem eqb_d (a b:ByteArray):eqb a b=(a.data.toList==b.data.toList):=by unfold eqb;rw[ByteArray.toList_eq,ByteArray.toList_eq]
theorem nm_facts:wd nmId=true∧wd nmBytes=true∧wd nmTime=true∧wd nmMin=true∧wd nmMax=true:=⟨by decide,by decide,by decide,by decide,by decide⟩
theorem nm_eqb:eqb nmId nmId=true∧eqb nmBytes nmId=false∧eqb nmBytes nmBytes=true∧eqb nmTime nmId=false∧eqb nmTime nmBytes=false∧eqb nmTime nmTime=true∧eqb nmMin nmId=false∧eqb nmMin nmBytes=false∧eqb nmMin nmTime=false∧eqb nmMin nmMin=true∧eqb nmMax nmId=false∧eqb nmMax nmBytes=false∧eqb nmMax nmTime=false∧eqb nmMax nmMin=false∧eqb nmMax nmMax=true:=by
 simp only[eqb_d]
 refine⟨?_,?_,?_,?_,?_,?_,?_,?_,?_,?_,?_,?_,?_,?_,?_⟩<;>decide
theorem itoa1:Lib.itoa 1=[49]:=by
 rw[show (1:Int)=((1:Nat):Int) from rfl,Lib.itoa_nonneg,Lib.decDigits_one (by omega)];rfl
theorem itoa_hd (v:Int):hdOK (Lib.itoa v):=by
 by_cases hn:v<0
 ·obtain⟨u,rfl⟩:∃u:Nat,v= -(u:Int):=⟨v.natAbs,by omega⟩
  exact⟨45,_,Lib.itoa_neg u (by omega),by unfold nob;decide⟩
 ·obtain⟨u,rfl⟩:∃u:Nat,v=(u:Int):=⟨v.toNat,by omega⟩
  have hr:=dig_rng u
  cases hdd:Lib.decDigits u with
  |nil=>exact absurd hdd (dec_ne u)
  |cons c r=>
   rw[hdd] at hr
   have:=hr c (List.mem_cons_self ..)
   exact⟨c,r,by rw[Lib.itoa_nonneg,hdd],by unfold nob;omega⟩
theorem qt_hd (l:List UInt8):hdOK (qtL l):=⟨34,qL l++[34],by simp[qtL],by unfold nob;decide⟩
theorem hd_app {l:List UInt8} (k:List UInt8) (h:hdOK l):hdOK (l++k):=by
 obtain⟨c,r,rfl,hc⟩:=h
 exact⟨c,r++k,rfl,hc⟩
theorem txt_hd (N:Nat) (d:Dt) (hk:1≤Dt.I d 0∧Dt.I d 0≤11):hdOK (txt (N+1) d):=by
 have lit:∀(c:UInt8) (r:List UInt8),nob c→hdOK (c::r):=fun c r h=>⟨c,r,rfl,h⟩
 have q0:∀(b:Bool) (x y:List UInt8),hdOK x→hdOK y→hdOK (bif b then x else y):=fun b x y h1 h2=>by cases b<;>assumption
 simp only[txt]
 refine q0 _ _ _ (lit 123 _ (by unfold nob;decide)) ?_
 refine q0 _ _ _ (lit 123 _ (by unfold nob;decide)) ?_
 refine q0 _ _ _ (lit 110 _ (by unfold nob;decide)) ?_
 refine q0 _ _ _ (q0 _ _ _ (lit 116 _ (by unfold nob;decide)) (lit 102 _ (by unfold nob;decide))) ?_
 refine q0 _ _ _ (itoa_hd _) ?_
 refine q0 _ _ _ (lit 123 _ (by unfold nob;decide)) ?_
 refine q0 _ _ _ (qt_hd _) ?_
 refine q0 _ _ _ (lit 123 _ (by unfold nob;decide)) ?_
 refine q0 _ _ _ (lit 123 _ (by unfold nob;decide)) ?_
 exact q0 _ _ _ (lit 91 _ (by unfold nob;decide)) (lit 123 _ (by unfold nob;decide))
theorem sp_val (m:Nat) (hm:5000≤m) (s:ByteArray) (hs:s.size<1000000000000) (lv:Int) (hlv:0≤lv∧lv≤16) (late:Bool) (nm:ByteArray) (v:Dt) (t rest:List UInt8) (i n:Nat) (hn:n<1024) (hi:i≤s.size) (T:List UInt8) (hT:T=[123]++(qtL nm.data.toList++([58]++(t++[125])))) (hd:s.data.toList.drop i=T++rest) (hw:wd nm=true) (hsf:spF (Dt.agg [Dt.str nm,v])=true)
  (hv:(∃x:Int,v=vInt x∧t=Lib.itoa x∧rgI x)∨(∃l:List UInt8,v=vText l∧t=qtL l∧l.length≤4096∧Lib.validD l=true)):
  i7 (m+20) lv late (Q s i n)=some (spV (Dt.agg [Dt.str nm,v]),true,Q s (i+T.length) (n+1)):=by
 subst hT
 have hd0:s.data.toList.drop i=123::(qtL nm.data.toList++([58]++(t++[125]))++rest):=hd
 have hd1:s.data.toList.drop i=[123]++(qtL nm.data.toList++([58]++(t++([125]++rest)))):=by rw[hd];simp
 rw[val_opn (m+18) s i n lv late 123 _ hd0 hs hlv.2 hn (by unfold opn;simp)]
 have ho:i18 (m+7+12) lv (Q s i (n+1))=some (spV (Dt.agg [Dt.str nm,v]),true,Q s (i+([123]++(qtL nm.data.toList++([58]++(t++[125])))).length) (n+1)):=by
  rcases hv with⟨x,rfl,rfl,hx⟩| ⟨l,rfl,rfl,hl,hva⟩
  ·exact sp_obj (m+7) (by omega) s hs lv ⟨hlv.1,by omega⟩ rest nm (vInt x) (Lib.itoa x) i (n+1) hd1 hi hw (itoa_hd x) ⟨Nat.zero_le _,by show (0:Nat)≤_;omega⟩ hsf fun j r hj hdj hr=>by
        have:=val_int (m-13) s j (n+1) (lv+1) true x hx.1 hx.2 r hdj hj hs hr (fun h=>by cases h)
        rw[show m-13+31=m+7+11 by omega] at this
        exact this
  ·have hsz:(Dt.S (vText l) 2).size=l.length:=mkB_size l
   exact sp_obj (m+7) (by omega) s hs lv ⟨hlv.1,by omega⟩ rest nm (vText l) (qtL l) i (n+1) hd1 hi hw (qt_hd l) ⟨by omega,by omega⟩ hsf fun j r hj hdj hr=>val_text (m+6) s j (n+1) (lv+1) true l r hdj hs (by omega) hl hva (fun h=>by cases h)
 show ((i18 (m+7+12) lv (Q s i (n+1))).bind _)=_
 rw[ho];rfl
theorem read_value:∀(N:Nat) (d:Dt),d.bulk≤N→N≤100000000→WV d→WR d→sndF wd N d=true→perr N d=0→∀(s:ByteArray),s.size<1000000000000→∀(lv m:Nat),lv+dpt d≤17→2*N+6000≤m→Rd (i7 m) s (lv:Int) d (txt N d)
 |0,d,h,_,_,_,_,_,_,_,_,_,_,_=>by have:=bulk_pos d;omega
 |N+    1,d,hb,hN,hw,hr,hsd,hpe,s,hs,lv,m,hlv,hm=>by
  obtain⟨m,rfl⟩:∃q,m=q+40:=⟨m-40,by omega⟩
  obtain⟨p1,p2,p3,p4⟩:=wv_parts hw
  obtain⟨r1,r3,r4⟩:=wr_parts hr
  obtain⟨hk,hs6,hs5⟩:=snd_kind hsd
  obtain⟨n3,n4⟩:=snd_shp hsd
  obtain⟨i1,i2⟩:=snd_int hsd
  obtain⟨b9,b10,b4,b8⟩:=snd_body hsd
  have hdp:=dpt_pos hw
  have eta:=wv_eta hw
  intro late n i rest hn hi hd hnd
  have hsc:=fun h6 h5=>nds_sc hw h6 h5
  have hnd1:=nds_pos hw
  have hadj0:∀k:Int,Dt.I d 0=k→k≠4→k≠3→adj late d=0:=fun k hk h4 h3=>by
   unfold adj
   rw[hk,beq_eq_false_iff_ne.2 h4,beq_eq_false_iff_ne.2 h3];simp
  have spc1:∀(nm:ByteArray) (v:Dt) (t:List UInt8) (T:List UInt8),txt (N+1) d=T→T=[123]++(qtL nm.data.toList++([58]++(t++[125])))→wd nm=true→spF (Dt.agg [Dt.str nm,v])=true→spV (Dt.agg [Dt.str nm,v])=d→Dt.I d 0≠6→Dt.I d 0≠5→Dt.I d 0≠4→Dt.I d 0≠3→
        ((∃x:Int,v=vInt x∧t=Lib.itoa x∧rgI x)∨(∃l:List UInt8,v=vText l∧t=qtL l∧l.length≤4096∧Lib.validD l=true))→i7 (m+40) (lv:Int) late (Q s i n)=some (d,true,Q s (i+(txt (N+1) d).length) (n+nds d-adj late d)):=fun nm v t T e1 e2 hwn hsf hsv k6 k5 k4 k3 hv=>by
   have h1:=hsc k6 k5
   rw[e1] at hd
   have:=sp_val (m+20) (by omega) s hs (lv:Int) ⟨by omega,by omega⟩ late nm v t rest i n (by omega) hi T e2 hd hwn hsf hv
   rw[hsv] at this
   rw[h1,hadj0 _ rfl k4 k3,e1]
   exact this
  obtain⟨q1,q2,q3,q4,q5⟩:=nm_facts
  obtain⟨z1,z2,z3,z4,z5,z6,z7,z8,z9,z10,z11,z12,z13,z14,z15⟩:=nm_eqb
  rcases kcase (Dt.I d 0) with e|e|e|e|e|e|e|e|e|e|e|hk2
  ·have hdv:d=kz2ef54:=by rw[eta,e,i1 (by omega) (by omega) (by omega),i2 (by omega) (by omega) (by omega),n3 (by omega),n4 (by omega)];rfl
   refine spc1 nmMin (vInt 1) (Lib.itoa 1) litMin (by simp only[txt];rw[e];rfl) (by rw[itoa1];decide) q4 ?_ ?_ (by omega) (by omega) (by omega) (by omega) (.inl ⟨1,rfl,rfl,by unfold rgI;omega⟩)
   ·    show (bif eqb nmMin nmId then _ else bif eqb nmMin nmBytes then _ else bif eqb nmMin nmTime then _ else bif eqb nmMin nmMin then _ else _)=true
        rw[z7,z8,z9,z10];rfl
   ·    rw[hdv]
        show (bif eqb nmMin nmId then _ else bif eqb nmMin nmBytes then _ else bif eqb nmMin nmTime then _ else bif eqb nmMin nmMin then _ else _)=_
        rw[z7,z8,z9,z10];rfl
  ·have hdv:d=kz3c25e:=by rw[eta,e,i1 (by omega) (by omega) (by omega),i2 (by omega) (by omega) (by omega),n3 (by omega),n4 (by omega)];rfl
   have ht:txt (N+1) d=litNull:=by simp only[txt];rw[e];rfl
   rw[ht] at hd
   have hwd:=word_eq (m+37) s i (n+1) hs (ByteArray.mk (List.toArray [110,117,108,108])) rest (by rw[mkB_size];decide) (by rw[mkB_size];simp) hd
   rw[hsc (by omega) (by omega),hadj0 _ e (by omega) (by omega),ht,val_opn (m+38) s i n (lv:Int) late 110 _ hd hs (by omega) (by omega) (by unfold opn;simp)]
   show ((i24 (m+39) (ByteArray.mk (List.toArray [110,117,108,108])) (Q s i (n+1))).bind _)=_
   rw[hwd,hdv];rfl
  ·have hdv:d=vInt (Dt.I d 1):=by
        conv=>lhs;rw[eta,e,i2 (by omega) (by omega) (by omega),n3 (by omega),n4 (by omega)]
        rfl
   have ht:txt (N+1) d=Lib.itoa (Dt.I d 1):=by simp only[txt];rw[e];rfl
   rw[ht] at hd
   have hv:=val_int (m+9) s i n (lv:Int) late (Dt.I d 1) r1.1 r1.2 rest hd hi hs hnd (fun _=>⟨by omega,by omega⟩)
   rw[hsc (by omega) (by omega),ht]
   show i7 (m+9+31) (lv:Int) late (Q s i n)=_
   rw[hv,←hdv]
   unfold adj
   rw[e]
   cases late<;>rfl
  ·obtain⟨c1,c2⟩:=b4 e
   have hdv:d=vText (Dt.S d 2).data.toList:=by
        conv=>lhs;rw[eta,e,i1 (by omega) (by omega) (by omega),n3 (by omega),n4 (by omega)]
        unfold vText
        rw[mkB_self]
   have ht:txt (N+1) d=qtL (Dt.S d 2).data.toList:=by simp only[txt];rw[e];rfl
   rw[ht] at hd
   have hv:=val_text (m+28) s i n (lv:Int) late (Dt.S d 2).data.toList rest hd hs (by rw[lenB];omega) (by rw[lenB];exact c1) c2 (fun _=>⟨by omega,by omega⟩)
   rw[hsc (by omega) (by omega),ht]
   show i7 (m+28+12) (lv:Int) late (Q s i n)=_
   rw[hv,←hdv]
   unfold adj
   rw[e]
   cases late<;>rfl
  ·have ht:txt (N+1) d=[123]++(lsF (ftx (txt N)) 0 (Dt.L d 4)++[125]):=by simp only[txt];rw[e];rfl
   have hpe2:spc (Dt.L d 4)=false∧erF (fun f=>perr N (Dt.fld f 1)) (Dt.L d 4)=0:=by
        simp only[perr] at hpe
        rw[e] at hpe
        have hpe:(bif spc (Dt.L d 4) then(4:Int) else erF (fun f=>perr N (Dt.fld f 1)) (Dt.L d 4))=0:=hpe
        cases hs:spc (Dt.L d 4)
        ·rw[hs] at hpe;exact⟨rfl,hpe⟩
        ·rw[hs] at hpe;cases hpe
   have hfl:fl wd (fun _=>true) [] (Dt.L d 4)=true:=by
        have h1:fl wd (sndF wd N) [] (Dt.L d 4)=true:=by
         have:=hsd
         rw[sndF_5 wd N d e] at this
         exact(Bool.and_eq_true_iff.1 this).2
        have key:∀(L:List Dt) (seen:List ByteArray),fl wd (sndF wd N) seen L=true→fl wd (fun _=>true) seen L=true:=by
         intro L
         induction L with
         |nil=>intro _ _;rfl
         |cons a r ih=>
          intro seen h
          simp only[fl,Bool.and_eq_true] at h ⊢
          exact⟨⟨h.1.1,trivial⟩,ih _ h.2⟩
        exact key _ _ h1
   have hmem:∀f∈Dt.L d 4,Dt.fld f 1∈prts d:=fun f hf=>by
        rw[prts5 (by rw[e];rfl) (by rw[e];rfl)]
        exact List.mem_map.2 ⟨f,hf,rfl⟩
   have hH:∀x∈Dt.L d 4,HF (i7 (m+38)) s (lv:Int) (txt N) (m+27) x:=fun x hx=>by
        obtain⟨hwx,hbx⟩:=p4 x hx
        have hdx:=dpt_part hw (hmem x hx)
        have hsx:=hs5 e x hx
        obtain⟨N',rfl⟩:∃q,N=q+1:=⟨N-1,by have:=bulk_pos (Dt.fld x 1);omega⟩
        have hkx:=(snd_kind hsx).1
        have hzx:=wv_size hwx
        refine⟨?_,txt_hd N' _ hkx,nds_pos hwx,fun h=>?_,?_,?_⟩
        ·have:=read_value (N'+1) (Dt.fld x 1) (by omega) (by omega) hwx (r4 x hx) hsx (erF_zero hpe2.2 x hx) s hs (lv+1) (m+38) (by omega) (by omega)
         exact this
        ·refine nds_sc hwx (fun h6=>?_) (fun h5=>?_)
         ·rw[h6] at h;cases h
         ·rw[h5] at h;cases h
        ·cases hw with
         |mk hl hdd=>
          cases hdd x hx with
          |mk hv=>rfl
        ·exact⟨by omega,by omega⟩
   rw[ht] at hd
   have hnn:=nds_d hw e
   have hob:=obj_rd (m+27) (by omega) s hs (txt N) (lv:Int) rest (Dt.L d 4) i (n+1) hd hi (by omega) (by omega) (fun hne=>by
        obtain⟨f,r,hfr⟩:=List.exists_cons_of_ne_nil hne
        have hdx:=dpt_part hw (hmem f (by rw[hfr];simp))
        have:=dpt_pos (p4 f (by rw[hfr];simp)).1
        exact⟨by omega,by omega⟩) hfl hH (by omega) hpe2.1
   rw[val_opn (m+38) s i n (lv:Int) late 123 _ hd hs (by omega) (by omega) (by unfold opn;simp)]
   show ((i18 (m+27+12) (lv:Int) (Q s i (n+1))).bind _)=_
   rw[hob,hadj0 _ e (by omega) (by omega),ht,hnn]
   have hdv:Dt.agg [Dt.int 5,Dt.int 0,Dt.str (ByteArray.mk (List.toArray [])),Dt.lst [],Dt.lst (Dt.L d 4)]=d:=by
        conv=>rhs;rw[eta,e,i1 (by omega) (by omega) (by omega),i2 (by omega) (by omega) (by omega),n3 (by omega)]
   rw[hdv,show n+1+((Dt.L d 4).map fun x=>nds (Dt.fld x 1)).sum=n+(1+((Dt.L d 4).map fun x=>nds (Dt.fld x 1)).sum)-0 by omega]
   rfl
  ·have ht:txt (N+1) d=[91]++(lsF (txt N) 0 (Dt.L d 3)++[93]):=by simp only[txt];rw[e];rfl
   have hpe2:erF (perr N) (Dt.L d 3)=0:=by
        simp only[perr] at hpe
        rw[e] at hpe
        exact hpe
   have hmem:∀f∈Dt.L d 3,f∈prts d:=fun f hf=>by
        rw[prts6 (by rw[e];rfl)]
        exact hf
   have hH:∀x∈Dt.L d 3,Rd (i7 (m+38)) s ((lv:Int)+1) x (txt N x)∧hdOK (txt N x)∧1≤nds x:=fun x hx=>by
        obtain⟨hwx,hbx⟩:=p3 x hx
        have hdx:=dpt_part hw (hmem x hx)
        have hsx:=hs6 e x hx
        obtain⟨N',rfl⟩:∃q,N=q+1:=⟨N-1,by have:=bulk_pos x;omega⟩
        have hkx:=(snd_kind hsx).1
        refine⟨?_,txt_hd N' _ hkx,nds_pos hwx⟩
        have:=read_value (N'+1) x (by omega) (by omega) hwx (r3 x hx) hsx (erF_zero hpe2 x hx) s hs (lv+1) (m+38) (by omega) (by omega)
        exact this
   rw[ht] at hd
   have hnn:=nds_l hw e
   have hob:=list_rd (m+35) s hs (txt N) (lv:Int) ⟨by omega,by omega⟩ rest (Dt.L d 3) i (n+1) hd hi (by omega) (by omega) hH (by omega)
   rw[val_opn (m+38) s i n (lv:Int) late 91 _ hd hs (by omega) (by omega) (by unfold opn;simp)]
   show ((i17 (m+35+4) (lv:Int) (Q s i (n+1))).bind _)=_
   rw[hob,hadj0 _ e (by omega) (by omega),ht,hnn]
   have hdv:Dt.agg [Dt.int 6,Dt.int 0,Dt.str (ByteArray.mk (List.toArray [])),Dt.lst (Dt.L d 3),Dt.lst []]=d:=by
        conv=>rhs;rw[eta,e,i1 (by omega) (by omega) (by omega),i2 (by omega) (by omega) (by omega),n4 (by omega)]
   rw[hdv,show n+1+((Dt.L d 3).map nds).sum=n+(1+((Dt.L d 3).map nds).sum)-0 by omega]
   rfl
  ·have hpe2:(Dt.S d 2).size≤2048:=by
        simp only[perr] at hpe
        rw[e] at hpe
        have hpe:(bif decide ((2048:Int)<((Dt.S d 2).size:Int)) then(2:Int) else 0)=0:=hpe
        cases h:decide ((2048:Int)<((Dt.S d 2).size:Int))
        ·have:=of_decide_eq_false h;omega
        ·rw[h] at hpe;cases hpe
   have hxl:=hxL_len (Dt.S d 2).data.toList
   rw[lenB] at hxl
   have hdv:d=Dt.agg [Dt.int 7,Dt.int 0,Dt.str (Dt.S d 2),Dt.lst [],Dt.lst []]:=by
        conv=>lhs;rw[eta,e,i1 (by omega) (by omega) (by omega),n3 (by omega),n4 (by omega)]
   have hqh:qtL (hxL (Dt.S d 2).data.toList)=[34]++(hxL (Dt.S d 2).data.toList++[34]):=by unfold qtL;rw[qL_hx]
   refine spc1 nmBytes (vText (hxL (Dt.S d 2).data.toList)) (qtL (hxL (Dt.S d 2).data.toList)) (litBytes++(hxL (Dt.S d 2).data.toList++litEnd)) (by simp only[txt];rw[e];rfl) ?_ q2 ?_ ?_ (by omega) (by omega) (by omega) (by omega) (.inr ⟨_,rfl,rfl,by omega,valid_hx _⟩)
   ·    rw[hqh]
        simp only[List.append_assoc]
        rfl
   ·    show (bif eqb nmBytes nmId then _ else bif eqb nmBytes nmBytes then(true&&hexS ⟨(hxL (Dt.S d 2).data.toList).toArray⟩) else _)=true
        rw[z2,z3,hexS_hx];rfl
   ·    show (bif eqb nmBytes nmId then _ else bif eqb nmBytes nmBytes then Dt.agg [Dt.int 7,Dt.int 0,Dt.str ⟨(unh (ByteArray.mk (List.toArray (hxL (Dt.S d 2).data.toList))).data.toList).toArray⟩,Dt.lst [],Dt.lst []] else _)=d
        rw[z2,z3,show (ByteArray.mk (List.toArray (hxL (Dt.S d 2).data.toList))).data.toList=hxL (Dt.S d 2).data.toList by simp,unh_hx,mkB_self]
        exact hdv.symm
  ·have h12:=b8 e
   have hxl:=hxL_len (Dt.S d 2).data.toList
   rw[lenB] at hxl
   have hdv:d=Dt.agg [Dt.int 8,Dt.int 0,Dt.str (Dt.S d 2),Dt.lst [],Dt.lst []]:=by
        conv=>lhs;rw[eta,e,i1 (by omega) (by omega) (by omega),n3 (by omega),n4 (by omega)]
   have hqh:qtL (hxL (Dt.S d 2).data.toList)=[34]++(hxL (Dt.S d 2).data.toList++[34]):=by unfold qtL;rw[qL_hx]
   refine spc1 nmId (vText (hxL (Dt.S d 2).data.toList)) (qtL (hxL (Dt.S d 2).data.toList)) (litId++(hxL (Dt.S d 2).data.toList++litEnd)) (by simp only[txt];rw[e];rfl) ?_ q1 ?_ ?_ (by omega) (by omega) (by omega) (by omega) (.inr ⟨_,rfl,rfl,by omega,valid_hx _⟩)
   ·    rw[hqh]
        simp only[List.append_assoc]
        rfl
   ·    show (bif eqb nmId nmId then(true&&hexS ⟨(hxL (Dt.S d 2).data.toList).toArray⟩&&Nat.beq (ByteArray.mk (List.toArray (hxL (Dt.S d 2).data.toList))).size 24) else _)=true
        rw[z1,hexS_hx,mkB_size,hxl,h12];rfl
   ·    show (bif eqb nmId nmId then Dt.agg [Dt.int 8,Dt.int 0,Dt.str ⟨(unh (ByteArray.mk (List.toArray (hxL (Dt.S d 2).data.toList))).data.toList).toArray⟩,Dt.lst [],Dt.lst []] else _)=d
        rw[z1,show (ByteArray.mk (List.toArray (hxL (Dt.S d 2).data.toList))).data.toList=hxL (Dt.S d 2).data.toList by simp,unh_hx,mkB_self]
        exact hdv.symm
  ·have hdv:d=Dt.agg [Dt.int 9,Dt.int (Dt.I d 1),Dt.str (ByteArray.mk (List.toArray [])),Dt.lst [],Dt.lst []]:=by
        conv=>lhs;rw[eta,e,i2 (by omega) (by omega) (by omega),n3 (by omega),n4 (by omega)]
   rcases b9 e with h0|h0
   ·    have ht:txt (N+1) d=litFalse:=by simp only[txt];rw[e,h0];rfl
        rw[ht] at hd
        have hwd:=word_eq (m+37) s i (n+1) hs (ByteArray.mk (List.toArray [102,97,108,115,101])) rest (by rw[mkB_size];decide) (by rw[mkB_size];simp) hd
        rw[hsc (by omega) (by omega),hadj0 _ e (by omega) (by omega),ht,val_opn (m+38) s i n (lv:Int) late 102 _ hd hs (by omega) (by omega) (by unfold opn;simp)]
        show ((i24 (m+39) (ByteArray.mk (List.toArray [102,97,108,115,101])) (Q s i (n+1))).bind _)=_
        rw[hwd,hdv,h0];rfl
   ·    have ht:txt (N+1) d=litTrue:=by simp only[txt];rw[e,h0];rfl
        rw[ht] at hd
        have hwd:=word_eq (m+37) s i (n+1) hs (ByteArray.mk (List.toArray [116,114,117,101])) rest (by rw[mkB_size];decide) (by rw[mkB_size];simp) hd
        rw[hsc (by omega) (by omega),hadj0 _ e (by omega) (by omega),ht,val_opn (m+38) s i n (lv:Int) late 116 _ hd hs (by omega) (by omega) (by unfold opn;simp)]
        show ((i24 (m+39) (ByteArray.mk (List.toArray [116,114,117,101])) (Q s i (n+1))).bind _)=_
        rw[hwd,hdv,h0];rfl
  ·have hdv:d=Dt.agg [Dt.int 10,Dt.int (Dt.I d 1),Dt.str (ByteArray.mk (List.toArray [])),Dt.lst [],Dt.lst []]:=by
        conv=>lhs;rw[eta,e,i2 (by omega) (by omega) (by omega),n3 (by omega),n4 (by omega)]
   have h0:=b10 e
   refine spc1 nmTime (vInt (Dt.I d 1)) (Lib.itoa (Dt.I d 1)) (litTime++(Lib.itoa (Dt.I d 1)++[125])) (by simp only[txt];rw[e];rfl) ?_ q3 ?_ ?_ (by omega) (by omega) (by omega) (by omega) (.inl ⟨_,rfl,rfl,r1⟩)
   ·    rw[show [123]++(qtL nmTime.data.toList++([58]++(Lib.itoa (Dt.I d 1)++[125])))=([123]++(qtL nmTime.data.toList++[58]))++(Lib.itoa (Dt.I d 1)++[125]) by simp]
        congr 1
   ·    show (bif eqb nmTime nmId then _ else bif eqb nmTime nmBytes then _ else bif eqb nmTime nmTime then(true&&decide ((0:Int)≤Dt.I d 1)) else _)=true
        rw[z4,z5,z6,decide_eq_true h0];rfl
   ·    show (bif eqb nmTime nmId then _ else bif eqb nmTime nmBytes then _ else bif eqb nmTime nmTime then Dt.agg [Dt.int 10,Dt.int (Dt.I d 1),Dt.str (ByteArray.mk (List.toArray [])),Dt.lst [],Dt.lst []] else _)=d
        rw[z4,z5,z6]
        exact hdv.symm
  ·have hdv:d=kzedecf:=by rw[eta,e,i1 (by omega) (by omega) (by omega),i2 (by omega) (by omega) (by omega),n3 (by omega),n4 (by omega)];rfl
   refine spc1 nmMax (vInt 1) (Lib.itoa 1) litMax (by simp only[txt];rw[e];rfl) (by rw[itoa1];decide) q5 ?_ ?_ (by omega) (by omega) (by omega) (by omega) (.inl ⟨1,rfl,rfl,by unfold rgI;omega⟩)
   ·    show (bif eqb nmMax nmId then _ else bif eqb nmMax nmBytes then _ else bif eqb nmMax nmTime then _ else bif eqb nmMax nmMin then _ else bif eqb nmMax nmMax then _ else _)=true
        rw[z11,z12,z13,z14,z15];rfl
   ·    rw[hdv]
        show (bif eqb nmMax nmId then _ else bif eqb nmMax nmBytes then _ else bif eqb nmMax nmTime then _ else bif eqb nmMax nmMin then _ else _)=_
        rw[z11,z12,z13,z14];rfl
  ·omega
end Go.Proofs.YtmejbpmceflcjaaGreatDoor
