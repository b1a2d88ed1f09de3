/- Reading string literals. -/
import Derived.Test.YtmejbpmceflcjaaGreatDoorNE
set_option linter.unusedVariables false
set_option linter.unusedSimpArgs false
namespace Go.Proofs.YtmejbpmceflcjaaGreatDoor
open Go.Am
abbrev Q (s:ByteArray) (a n:Nat):Dt:=Dt.agg [Dt.str s,Dt.int (a:Int),Dt.int (n:Int),Dt.int 0,Dt.int 0]
theorem dr_cons {s:ByteArray} {i:Nat} {c:UInt8} {r:List UInt8} (h:s.data.toList.drop i=c::r):∃hi:i<s.size,s[i]=c∧s.data.toList.drop (i+1)=r:=by
 have hi:i<s.size:=by
  rcases Nat.lt_or_ge i s.size with hi|hi
  ·exact hi
  ·rw[List.drop_eq_nil_of_le (by rw[lenB];exact hi)] at h;cases h
 rw[getB s i hi] at h
 injection h with h1 h2
 exact⟨hi,h1,h2⟩
theorem Q_adv {s:ByteArray} {i n:Nat} (hi:i<9223372036854775807):Dt.agg [Dt.str (Dt.S (Q s i n) 0),Dt.int (IntKind.wrap .i64 (Dt.I (Q s i n) 1+1)),Dt.int (Dt.I (Q s i n) 2),Dt.int (Dt.I (Q s i n) 3),Dt.int (Dt.I (Q s i n) 4)]=Q s (i+1) n:=by
 show Dt.agg [Dt.str s,Dt.int (IntKind.wrap .i64 ((i:Int)+1)),Dt.int (n:Int),Dt.int 0,Dt.int 0]=_
 rw[wrapS hi]
theorem peek_at (m:Nat) {s:ByteArray} {i n:Nat} {c:UInt8} {r:List UInt8} (h:s.data.toList.drop i=c::r) (hs:s.size<1000000000000):i6 (m+1) (Q s i n)=some ((c.toNat:Int),Q s i n):=by
 obtain⟨hi,rfl,_⟩:=dr_cons h
 have hc:=u8lt s[i]
 have e:((i:Int)==(s.size:Int))=false:=by rw[beq_eq_false_iff_ne];omega
 show (bif ((i:Int)==(s.size:Int)) then _ else i6_j0 m (Q s i n))=_
 rw[e,cond_false]
 show ((idxS s (i:Int)).bind fun v0=>some (IntKind.wrap .i64 v0,Q s i n))=_
 rw[idxS_lt hi,Option.bind_some,wrap64 (by omega) (by omega)]
theorem peek_end (m:Nat) {s:ByteArray} {i n:Nat} (h:i=s.size):i6 (m+1) (Q s i n)=some (-1,Q s i n):=by
 have e:((i:Int)==(s.size:Int))=true:=by rw[h,beq_self_eq_true]
 show (bif ((i:Int)==(s.size:Int)) then some (-1,Q s i n) else _)=_
 rw[e,cond_true]
theorem hdg_num {k:Nat} (h:k<16):(k<10→(hdg k).toNat=48+k)∧(10≤k→(hdg k).toNat=87+k):=by
 unfold hdg
 refine⟨fun h1=>?_,fun h1=>?_⟩
 ·have:Nat.blt k 10=true:=by rw[Nat.blt_eq];exact h1
  rw[this,cond_true,UInt8.toNat_ofNat'];omega
 ·have:Nat.blt k 10=false:=by rw[←Bool.not_eq_true,Nat.blt_eq];omega
  rw[this,cond_false,UInt8.toNat_ofNat'];omega
theorem wrap32 {n:Int} (h1:0≤n) (h2:n<2147483648):IntKind.wrap IntKind.i32 n=n:=by
 unfold IntKind.wrap
 simp only[IntKind.bits,IntKind.signed,Bool.true_and,Nat.add_one_sub_one]
 split<;>rename_i h<;>simp only[ge_iff_le,decide_eq_true_eq] at h<;>omega
theorem or32_eq {a b:Nat} (ha:a<16) (hb:b<16):orI .i32 (shlI .i32 (a:Int) 4) (IntKind.wrap .i32 (b:Int))=((16*a+b:Nat):Int):=by
 have e1:shlI .i32 (a:Int) 4=((16*a:Nat):Int):=by
  unfold shlI
  have h4:Nat.min (Int.toNat 4) IntKind.i32.bits=4:=rfl
  rw[h4,wrap32 (by omega) (by omega)];omega
 rw[e1,wrap32 (n:=(b:Int)) (by omega) (by omega)]
 have e2:(BitVec.ofInt 32 ((16*a:Nat):Int)|||BitVec.ofInt 32 (b:Int)).toNat=16*a+b:=by
  rw[BitVec.toNat_or,BitVec.ofInt_natCast,BitVec.ofInt_natCast,BitVec.toNat_ofNat,BitVec.toNat_ofNat,Nat.mod_eq_of_lt (by omega),Nat.mod_eq_of_lt (by omega)]
  have:=Nat.two_pow_add_eq_or_of_lt (i:=4) (b:=b) (by omega) a
  rw[show 16*a=2^4*a by omega]
  exact this.symm
 show IntKind.wrap .i32 (((BitVec.ofInt 32 ((16*a:Nat):Int)|||BitVec.ofInt 32 (b:Int)).toNat:Nat):Int)=_
 rw[e2,wrap32 (by omega) (by omega)]
theorem code_j4_eq (m:Nat) (rec1:Int→Int→Dt→Option (Int×Bool×Dt)) (s:ByteArray) (i n r k d:Nat) (hd:d<16) (hr16:r<16) (hk:k<4) (hr:k=1→r≠13) (hi:i<9223372036854775807):
  i13_j4 m rec1 (r:Int) (k:Int) (d:Int) (k:Int) (Q s i n)=rec1 ((16*r+d:Nat):Int) ((k+1:Nat):Int) (Q s (i+1) n):=by
 have d0:decide ((d:Int)<0)=false:=decide_eq_false (by omega)
 have h6:i13_j5 m rec1 (r:Int) (d:Int) (k:Int) false (Q s i n)=rec1 ((16*r+d:Nat):Int) ((k+1:Nat):Int) (Q s (i+1) n):=by
  simp only[i13_j5,i13_j6,i13_j7,cond_false,Q_adv hi,wrapS (show k<9223372036854775807 by omega),or32_eq hr16 hd]
 simp only[i13_j4,d0,cond_false]
 by_cases h1:k=1
 ·have hr':=hr h1
  have e1:((k:Int)==1)=true:=by rw[h1];rfl
  have e2:((r:Int)==13)=false:=by rw[beq_eq_false_iff_ne];omega
  rw[e1,cond_true,e2,cond_false,h6]
 ·have e1:((k:Int)==1)=false:=by rw[beq_eq_false_iff_ne];omega
  rw[e1,cond_false,h6]
theorem code_step (m M:Nat) (s:ByteArray) (i n r k d:Nat) (rest:List UInt8) (h:s.data.toList.drop i=hdg d::rest) (hd:d<16) (hr16:r<16) (hk:k<4) (hr:k=1→r≠13) (hs:s.size<1000000000000):
  i13_l1 (m+1) (M+1) (r:Int) (k:Int) (Q s i n)=i13_l1 (m+1) M ((16*r+d:Nat):Int) ((k+1:Nat):Int) (Q s (i+1) n):=by
 obtain⟨hi,_,_⟩:=dr_cons h
 have hp:=peek_at m (n:=n) h hs
 have k4:decide ((k:Int)<4)=true:=decide_eq_true (by omega)
 have hj:=code_j4_eq (m+1) (i13_l1 (m+1) M) s i n r k d hd hr16 hk hr (by omega)
 obtain⟨n1,n2⟩:=hdg_num hd
 simp only[i13_l1,k4,cond_true,i13_j2,hp,Option.bind_some]
 clear hp h
 generalize (hdg d).toNat=c at n1 n2 ⊢
 by_cases h10:d<10
 ·have e:=n1 h10
  have e1:decide ((48:Int)≤(c:Int))=true:=decide_eq_true (by omega)
  have e2:decide ((c:Int)≤57)=true:=decide_eq_true (by omega)
  have ev:IntKind.wrap .i64 ((c:Int)-48)=(d:Int):=by rw[wrap64 (by omega) (by omega)];omega
  simp only[e1,e2,cond_true,i13_j3,ev,hj]
 ·have e:=n2 (by omega)
  have e1:decide ((48:Int)≤(c:Int))=true:=decide_eq_true (by omega)
  have e2:decide ((c:Int)≤57)=false:=decide_eq_false (by omega)
  have e3:decide ((97:Int)≤(c:Int))=true:=decide_eq_true (by omega)
  have e4:decide ((c:Int)≤102)=true:=decide_eq_true (by omega)
  have ev:IntKind.wrap .i64 (IntKind.wrap .i64 ((c:Int)-97)+10)=(d:Int):=by
   rw[wrap64 (n:=(c:Int)-97) (by omega) (by omega),wrap64 (by omega) (by omega)];omega
  rw[e1,cond_true,e2,i13_j3,cond_false,e3,cond_true,e4,i13_j8,cond_true,ev,hj]
theorem code_eq (m:Nat) (s:ByteArray) (i n a b:Nat) (rest:List UInt8) (h:s.data.toList.drop i=48::48::hdg a::hdg b::rest) (ha:a<16) (hb:b<16) (hs:s.size<1000000000000):
  i13 (m+6) (Q s i n)=some (((16*a+b:Nat):Int),true,Q s (i+4) n):=by
 obtain⟨_,_,h1⟩:=dr_cons h
 obtain⟨_,_,h2⟩:=dr_cons h1
 obtain⟨_,_,h3⟩:=dr_cons h2
 have s0:=code_step (m+4) (m+5) s i n 0 0 0 _ h (by omega) (by omega) (by omega) (by omega) hs
 have s1:=code_step (m+4) (m+4) s (i+1) n 0 1 0 _ h1 (by omega) (by omega) (by omega) (by omega) hs
 have s2:=code_step (m+4) (m+3) s (i+2) n 0 2 a _ h2 ha (by omega) (by omega) (by omega) hs
 have s3:=code_step (m+4) (m+2) s (i+3) n a 3 b _ h3 hb ha (by omega) (by omega) hs
 have s4:i13_l1 (m+5) (m+2) ((16*a+b:Nat):Int) ((4:Nat):Int) (Q s (i+4) n)=some (((16*a+b:Nat):Int),true,Q s (i+4) n):=rfl
 show i13_l1 (m+5) (m+5+1) ((0:Nat):Int) ((0:Nat):Int) (Q s i n)=_
 rw[s0]
 show i13_l1 (m+5) (m+4+1) ((0:Nat):Int) ((1:Nat):Int) (Q s (i+1) n)=_
 rw[s1]
 show i13_l1 (m+5) (m+3+1) ((0:Nat):Int) ((2:Nat):Int) (Q s (i+2) n)=_
 rw[s2,show 16*0+a=a by omega]
 show i13_l1 (m+5) (m+2+1) (a:Int) ((3:Nat):Int) (Q s (i+3) n)=_
 rw[s3,←s4]
theorem esc_eq (m:Nat) (s:ByteArray) (i n:Nat) (c:UInt8) (r:List UInt8) (h:s.data.toList.drop i=c::r) (hs:s.size<1000000000000):
  (c=34∨c=92→i12 (m+8) (Q s i n)=some ((c.toNat:Int),true,Q s (i+1) n))∧
  (c=110→i12 (m+8) (Q s i n)=some (10,true,Q s (i+1) n))∧
  (c=114→i12 (m+8) (Q s i n)=some (13,true,Q s (i+1) n))∧
  (c=116→i12 (m+8) (Q s i n)=some (9,true,Q s (i+1) n))∧
  (∀a b r',c=117→r=48::48::hdg a::hdg b::r'→a<16→b<16→i12 (m+8) (Q s i n)=some (((16*a+b:Nat):Int),true,Q s (i+5) n)):=by
 obtain⟨hi,_,h1⟩:=dr_cons h
 have hp:=peek_at (m+6) (n:=n) h hs
 have hq:=Q_adv (s:=s) (i:=i) (n:=n) (by omega)
 have hc:=u8lt c
 refine⟨?_,?_,?_,?_,?_⟩
 ·rintro(rfl|rfl)
  ·rw[i12]
   simp only[hp,Option.bind_some]
   show some (IntKind.wrap IntKind.i32 _,true,_)=_
   rw[hq];rfl
  ·rw[i12]
   simp only[hp,Option.bind_some]
   show some (IntKind.wrap IntKind.i32 _,true,_)=_
   rw[hq];rfl
 ·rintro rfl
  rw[i12]
  simp only[hp,Option.bind_some]
  show some (_,true,_)=_
  rw[hq]
 ·rintro rfl
  rw[i12]
  simp only[hp,Option.bind_some]
  show some (_,true,_)=_
  rw[hq]
 ·rintro rfl
  rw[i12]
  simp only[hp,Option.bind_some]
  show some (_,true,_)=_
  rw[hq]
 ·rintro a b r' rfl rfl ha hb
  have hcd:=code_eq (m+1) s (i+1) n a b r' h1 ha hb hs
  rw[i12]
  simp only[hp,Option.bind_some]
  show ((i13 (m+7) (Dt.agg [Dt.str (Dt.S (Q s i n) 0),Dt.int (IntKind.wrap .i64 (Dt.I (Q s i n) 1+1)),Dt.int (Dt.I (Q s i n) 2),Dt.int (Dt.I (Q s i n) 3),Dt.int (Dt.I (Q s i n) 4)])).bind _)=_
  rw[hq,hcd]
  rfl
theorem rune_eq (m c:Nat) (a:List UInt8) (hc:c<128) (ha:a.length≤137438953000):i14 (m+1) (c:Int) (bytesI a)=some (bytesI (a++[UInt8.ofNat c])):=by
 have w:IntKind.wrap IntKind.u32 (c:Int)=(c:Int):=by
  unfold IntKind.wrap
  simp only[IntKind.bits,IntKind.signed,Bool.false_and,Bool.false_eq_true,if_false]
  omega
 have w8:IntKind.wrap IntKind.u8 (c:Int)=(c:Int):=by
  unfold IntKind.wrap
  simp only[IntKind.bits,IntKind.signed,Bool.false_and,Bool.false_eq_true,if_false]
  omega
 have e:decide ((c:Int)≤127)=true:=decide_eq_true (by omega)
 have hn:(UInt8.ofNat c).toNat=c:=by simp only[UInt8.toNat_ofNat'];omega
 have a1:app (bytesI a) [Dt.int (c:Int)]=some (bytesI (a++[UInt8.ofNat c])):=by
  have:=apI a [UInt8.ofNat c] (by simp;omega)
  have e2:bytesI [UInt8.ofNat c]=[Dt.int (c:Int)]:=by
   show [Dt.int (((UInt8.ofNat c).toNat:Nat):Int)]=_
   rw[hn]
  rw[e2] at this
  exact this
 simp only[i14,w,w8,e,cond_true,a1,Option.bind_some]
theorem qb_cases (c:UInt8):(qb c=[92,c]∧(c=34∨c=92))∨(c=10∧qb c=[92,110])∨(c=13∧qb c=[92,114])∨(c=9∧qb c=[92,116])∨(qb c=[92,117,48,48]++hx2 c∧c.toNat<128)∨(qb c=[c]∧32≤c.toNat∧c.toNat≠34∧c.toNat≠92):=by
 have q:∀k:Nat,k<256→((c.toNat:Int)==(k:Int))=decide (c.toNat=k):=fun k _=>by rw[Bool.eq_iff_iff];simp;omega
 have ext:∀d:UInt8,c.toNat=d.toNat→c=d:=fun d h=>UInt8.toNat_inj.1 h
 unfold qb
 by_cases h34:c.toNat=34
 ·have e:((c.toNat:Int)==34)=true:=by rw[h34];rfl
  rw[e];exact .inl ⟨rfl,.inl (ext 34 h34)⟩
 have e34:((c.toNat:Int)==34)=false:=by rw[beq_eq_false_iff_ne];omega
 by_cases h92:c.toNat=92
 ·have e:((c.toNat:Int)==92)=true:=by rw[h92];rfl
  rw[e34,e];exact .inl ⟨rfl,.inr (ext 92 h92)⟩
 have e92:((c.toNat:Int)==92)=false:=by rw[beq_eq_false_iff_ne];omega
 by_cases h10:c.toNat=10
 ·have e:((c.toNat:Int)==10)=true:=by rw[h10];rfl
  rw[e34,e92,e];exact .inr (.inl ⟨ext 10 h10,rfl⟩)
 have e10:((c.toNat:Int)==10)=false:=by rw[beq_eq_false_iff_ne];omega
 by_cases h13:c.toNat=13
 ·have e:((c.toNat:Int)==13)=true:=by rw[h13];rfl
  rw[e34,e92,e10,e];exact .inr (.inr (.inl ⟨ext 13 h13,rfl⟩))
 have e13:((c.toNat:Int)==13)=false:=by rw[beq_eq_false_iff_ne];omega
 by_cases h9:c.toNat=9
 ·have e:((c.toNat:Int)==9)=true:=by rw[h9];rfl
  rw[e34,e92,e10,e13,e];exact .inr (.inr (.inr (.inl ⟨ext 9 h9,rfl⟩)))
 have e9:((c.toNat:Int)==9)=false:=by rw[beq_eq_false_iff_ne];omega
 rw[e34,e92,e10,e13,e9]
 by_cases h32:c.toNat<32
 ·have e:decide ((c.toNat:Int)<32)=true:=decide_eq_true (by omega)
  rw[e];exact .inr (.inr (.inr (.inr (.inl ⟨rfl,by omega⟩))))
 have e32:decide ((c.toNat:Int)<32)=false:=decide_eq_false (by omega)
 by_cases h127:c.toNat=127
 ·have e:((c.toNat:Int)==127)=true:=by rw[h127];rfl
  rw[e32,e];exact .inr (.inr (.inr (.inr (.inl ⟨rfl,by omega⟩))))
 have e127:((c.toNat:Int)==127)=false:=by rw[beq_eq_false_iff_ne];omega
 rw[e32,e127]
 exact .inr (.inr (.inr (.inr (.inr ⟨rfl,by omega,h34,h92⟩))))
theorem lit_loop (m:Nat) (s:ByteArray) (n:Nat) (hs:s.size<1000000000000) (rest:List UInt8):∀(l:List UInt8) (M i:Nat) (a:List UInt8),s.data.toList.drop i=qL l++(34::rest)→l.length<M→a.length+l.length≤137438952000→
   i11_l1 (m+9) M (Q s i n) (bytesI a)=some (⟨(a++l).toArray⟩,true,Q s (i+(qL l).length+1) n)
 |_,0,_,_,_,h,_=>by omega
 | [],M+1,i,a,hd,_,ha=>by
   have hd:s.data.toList.drop i=34::rest:=hd
   obtain⟨hi,_,_⟩:=dr_cons hd
   have hp:=peek_at (m+8) (n:=n) hd hs
   have hb:Nat.ble (bytesI a).length 137438953472=true:=ble_of (by rw[bytesI_len];omega)
   rw[i11_l1]
   simp only[hp,Option.bind_some]
   show i11_j2 (m+9) _ (bytesI a)=_
   rw[Q_adv (by omega)]
   simp only[i11_j2,hb,cond_true,strI_ok,Option.bind_some,List.append_nil]
   rfl
 | c::r,M+1,i,a,hd,hM,ha=>by
   have hd:s.data.toList.drop i=qb c++(qL r++(34::rest)):=by rw[hd,qL,List.append_assoc]
   rw[List.length_cons] at hM ha
   have hcl:=u8lt c
   have ih:=fun(k:Nat) (hk:s.data.toList.drop (i+k)=qL r++(34::rest))=>lit_loop m s n hs rest r M (i+k) (a++[c]) hk (by omega) (by simp;omega)
   have fin:∀k:Nat,(qb c).length=k→(some ((⟨((a++[c])++r).toArray⟩:ByteArray),true,Q s (i+k+(qL r).length+1) n):Option (ByteArray×Bool×Dt))=some (⟨(a++c::r).toArray⟩,true,Q s (i+(qL (c::r)).length+1) n):=fun k hk=>by
    rw[qL,List.length_append,hk,List.append_assoc,show i+k+(qL r).length+1=i+(k+(qL r).length)+1 by omega];rfl
   have step:∀(x:Nat) (e:List UInt8) (i':Nat),x<128→UInt8.ofNat x=c→s.data.toList.drop i=92::e→i12 (m+9) (Q s (i+1) n)=some ((x:Int),true,Q s i' n)→i11_l1 (m+9) (M+1) (Q s i n) (bytesI a)=i11_l1 (m+9) M (Q s i' n) (bytesI (a++[c])):=fun x e i' hx hxc h1 h2=>by
    obtain⟨hi,_,_⟩:=dr_cons h1
    have hp:=peek_at (m+8) (n:=n) h1 hs
    have hr:=rune_eq (m+8) x a hx (by omega)
    rw[hxc] at hr
    rw[i11_l1]
    simp only[hp,Option.bind_some]
    show ((i12 (m+9) (Dt.agg [Dt.str (Dt.S (Q s i n) 0),Dt.int (IntKind.wrap .i64 (Dt.I (Q s i n) 1+1)),Dt.int (Dt.I (Q s i n) 2),Dt.int (Dt.I (Q s i n) 3),Dt.int (Dt.I (Q s i n) 4)])).bind _)=_
    rw[Q_adv (by omega),h2]
    simp only[Option.bind_some,Bool.not_true,cond_false,i11_j3,hr]
   have e1:∀l k:List UInt8,s.data.toList.drop i=l++k→s.data.toList.drop (i+l.length)=k:=fun l k h=>by
    rw[←List.drop_drop,h,List.drop_left]
   have hend:=e1 _ _ hd
   rcases qb_cases c with⟨q,hc⟩| ⟨rfl,q⟩| ⟨rfl,q⟩| ⟨rfl,q⟩| ⟨q,hc⟩| ⟨q,h32,h34,h92⟩
   ·rw[q] at hd hend
    obtain⟨_,_,h1⟩:=dr_cons (show s.data.toList.drop i=92::(c::(qL r++(34::rest))) from hd)
    have he:=(esc_eq (m+1) s (i+1) n c _ h1 hs).1 hc
    rw[step c.toNat _ (i+2) (by rcases hc with rfl|rfl<;>decide) (by simp) hd he,ih 2 hend]
    exact fin 2 (by rw[q];rfl)
   ·rw[q] at hd hend
    obtain⟨_,_,h1⟩:=dr_cons (show s.data.toList.drop i=92::(110::(qL r++(34::rest))) from hd)
    have he:=(esc_eq (m+1) s (i+1) n 110 _ h1 hs).2.1 rfl
    rw[step 10 _ (i+2) (by omega) rfl hd he,ih 2 hend]
    exact fin 2 (by rw[q];rfl)
   ·rw[q] at hd hend
    obtain⟨_,_,h1⟩:=dr_cons (show s.data.toList.drop i=92::(114::(qL r++(34::rest))) from hd)
    have he:=(esc_eq (m+1) s (i+1) n 114 _ h1 hs).2.2.1 rfl
    rw[step 13 _ (i+2) (by omega) rfl hd he,ih 2 hend]
    exact fin 2 (by rw[q];rfl)
   ·rw[q] at hd hend
    obtain⟨_,_,h1⟩:=dr_cons (show s.data.toList.drop i=92::(116::(qL r++(34::rest))) from hd)
    have he:=(esc_eq (m+1) s (i+1) n 116 _ h1 hs).2.2.2.1 rfl
    rw[step 9 _ (i+2) (by omega) rfl hd he,ih 2 hend]
    exact fin 2 (by rw[q];rfl)
   ·rw[q] at hd hend
    have hd2:s.data.toList.drop i=92::(117::(48::48::hdg (c.toNat/16)::hdg (c.toNat%16)::(qL r++(34::rest)))):=hd
    obtain⟨_,_,h1⟩:=dr_cons hd2
    have he:=(esc_eq (m+1) s (i+1) n 117 _ h1 hs).2.2.2.2 (c.toNat/16) (c.toNat%16) _ rfl rfl (by omega) (by omega)
    rw[show 16*(c.toNat/16)+c.toNat%16=c.toNat by omega] at he
    rw[step c.toNat _ (i+6) hc (by simp) hd2 he,ih 6 hend]
    exact fin 6 (by rw[q];rfl)
   ·rw[q] at hd hend
    have hd2:s.data.toList.drop i=c::(qL r++(34::rest)):=hd
    obtain⟨hi,_,_⟩:=dr_cons hd2
    have hp:=peek_at (m+8) (n:=n) hd2 hs
    have b34:((c.toNat:Int)==34)=false:=by rw[beq_eq_false_iff_ne];omega
    have b92:((c.toNat:Int)==92)=false:=by rw[beq_eq_false_iff_ne];omega
    have b32:decide ((c.toNat:Int)<32)=false:=decide_eq_false (by omega)
    have w8:IntKind.wrap IntKind.u8 (c.toNat:Int)=(c.toNat:Int):=by
        unfold IntKind.wrap
        simp only[IntKind.bits,IntKind.signed,Bool.false_and,Bool.false_eq_true,if_false]
        omega
    have a1:app (bytesI a) [Dt.int (c.toNat:Int)]=some (bytesI (a++[c])):=apI a [c] (by simp;omega)
    rw[i11_l1]
    simp only[hp,Option.bind_some,b34,b92,b32,cond_false,w8,a1,Q_adv (show i<9223372036854775807 by omega)]
    rw[ih 1 hend]
    exact fin 1 (by rw[q];rfl)
theorem literal_eq (m:Nat) (s:ByteArray) (i n:Nat) (l rest:List UInt8) (hd:s.data.toList.drop i=qtL l++rest) (hs:s.size<1000000000000) (hl:l.length≤m) (hl2:l.length≤130000000000):
  i11 (m+10) (Q s i n)=some (⟨l.toArray⟩,true,Q s (i+(qtL l).length) n):=by
 have hd2:s.data.toList.drop i=34::(qL l++(34::rest)):=by rw[hd];simp[qtL]
 obtain⟨hi,_,h1⟩:=dr_cons hd2
 have hlp:=lit_loop m s n hs rest l (m+10) (i+1) [] h1 (by omega) (by simp;omega)
 rw[i11]
 show i11_l1 (m+9) (m+10) (Dt.agg [Dt.str (Dt.S (Q s i n) 0),Dt.int (IntKind.wrap .i64 (Dt.I (Q s i n) 1+1)),Dt.int (Dt.I (Q s i n) 2),Dt.int (Dt.I (Q s i n) 3),Dt.int (Dt.I (Q s i n) 4)]) (bytesI [])=_
 rw[Q_adv (by omega),hlp,List.nil_append]
 have:i+1+(qL l).length+1=i+(qtL l).length:=by simp[qtL];omega
 rw[this]
abbrev QE (s:ByteArray) (a n:Nat) (e o:Int):Dt:=Dt.agg [Dt.str s,Dt.int (a:Int),Dt.int (n:Int),Dt.int e,Dt.int o]
def vText (l:List UInt8):Dt:=Dt.agg [Dt.int 4,Dt.int 0,Dt.str ⟨l.toArray⟩,Dt.lst [],Dt.lst []]
theorem text_rd (m:Nat) (s:ByteArray) (i n:Nat) (l rest:List UInt8) (hd:s.data.toList.drop i=qtL l++rest) (hs:s.size<1000000000000) (hl:l.length≤m) (hl2:l.length≤4096):
  i10 (m+11) (Q s i n)=bif Lib.validD l then some (vText l,true,Q s (i+(qtL l).length) n) else some (kza2373,false,QE s (i+(qtL l).length) n 4 (i:Int)):=by
 have h1:=literal_eq m s i n l rest hd hs hl (by omega)
 have e1:decide ((4096:Int)<((ByteArray.size ⟨l.toArray⟩:Nat):Int))=false:=decide_eq_false (by rw[mkB_size];omega)
 rw[i10]
 simp only[h1,Option.bind_some,Bool.not_true,cond_false,i10_j0,e1,i10_j1,utf8_ValidString]
 show (bif !(Lib.validD l) then _ else _)=_
 cases Lib.validD l
 ·rfl
 ·rfl
theorem blanks_no (m:Nat) {s:ByteArray} {i n:Nat} {c:UInt8} {r:List UInt8} (h:s.data.toList.drop i=c::r) (hs:s.size<1000000000000) (hc:c.toNat≠9∧c.toNat≠10∧c.toNat≠13∧c.toNat≠32):i5 (m+2) (Q s i n)=some (Q s i n):=by
 have hp:=peek_at m (n:=n) h hs
 have b1:((c.toNat:Int)==9)=false:=by rw[beq_eq_false_iff_ne];omega
 have b2:((c.toNat:Int)==10)=false:=by rw[beq_eq_false_iff_ne];omega
 have b3:((c.toNat:Int)==13)=false:=by rw[beq_eq_false_iff_ne];omega
 have b4:((c.toNat:Int)==32)=false:=by rw[beq_eq_false_iff_ne];omega
 show i5_l0 (m+1) (m+1+1) (Q s i n)=_
 simp only[i5_l0,hp,Option.bind_some,b1,b2,b3,b4,cond_false,i5_j1]
theorem blanks_end (m:Nat) {s:ByteArray} {i n:Nat} (h:i=s.size):i5 (m+2) (Q s i n)=some (Q s i n):=by
 have hp:=peek_end m (n:=n) h
 show i5_l0 (m+1) (m+1+1) (Q s i n)=_
 simp only[i5_l0,hp,Option.bind_some]
 rfl
theorem count_eq' (m:Nat) (s:ByteArray) (i n:Nat) (lv:Int) (o:Int) (hlv:lv≤16) (hn:n<1024):i8 (m+1) lv o (Q s i n)=some (true,Q s i (n+1)):=by
 have e1:decide (16<lv)=false:=decide_eq_false (by omega)
 have e2:((n:Int)==1024)=false:=by rw[beq_eq_false_iff_ne];omega
 show (bif decide (16<lv) then _ else i8_j0 m o ((n:Int)==1024) (Q s i n))=_
 rw[e1,e2]
 show some (true,Dt.agg [Dt.str s,Dt.int (i:Int),Dt.int (IntKind.wrap .i64 ((n:Int)+1)),Dt.int 0,Dt.int 0])=_
 rw[wrapS (show n<9223372036854775807 by omega)]
theorem value_text (m:Nat) (s:ByteArray) (i n:Nat) (lv:Int) (l rest:List UInt8) (hd:s.data.toList.drop i=qtL l++rest) (hs:s.size<1000000000000) (hl:l.length≤m) (hl2:l.length≤4096) (hlv:lv≤16) (hn:n<1024):
  i7 (m+12) lv false (Q s i n)=bif Lib.validD l then some (vText l,true,Q s (i+(qtL l).length) (n+1)) else some (kza2373,false,QE s (i+(qtL l).length) (n+1) 4 (i:Int)):=by
 have hd2:s.data.toList.drop i=34::(qL l++(34::rest)):=by rw[hd];simp[qtL]
 have hp:=peek_at (m+10) (n:=n) hd2 hs
 have hc:=count_eq' (m+10) s i n lv (i:Int) hlv hn
 have ht:=text_rd m s i (n+1) l rest hd hs hl hl2
 rw[i7]
 simp only[hp,Option.bind_some]
 show ((i8 (m+11) lv (i:Int) (Q s i n)).bind _)=_
 rw[hc,Option.bind_some]
 show ((i10 (m+11) (Q s i (n+1))).bind _)=_
 rw[ht]
 cases Lib.validD l<;>rfl
end Go.Proofs.YtmejbpmceflcjaaGreatDoor
