/- Special values: the program and the reference see the same ones. -/
import Derived.Test.YtmejbpmceflcjaaGreatDoorNE
set_option linter.unusedVariables false
set_option linter.unusedSimpArgs false
namespace Go.Proofs.YtmejbpmceflcjaaGreatDoor
open Go.Am
def hvN (c:UInt8):Nat:=bif Nat.ble 97 c.toNat then c.toNat-87 else c.toNat-48
def unh:List UInt8→List UInt8
 |a::b::r=>UInt8.ofNat (16*hvN a+hvN b)::unh r
 |_=>[]
theorem hvN_lo {c:UInt8} (h1:48≤c.toNat) (h2:c.toNat≤57):hvN c=c.toNat-48:=by
 unfold hvN
 have:Nat.ble 97 c.toNat=false:=by rw[←Bool.not_eq_true,Nat.ble_eq];omega
 rw[this];rfl
theorem hvN_hi {c:UInt8} (h1:97≤c.toNat):hvN c=c.toNat-87:=by
 unfold hvN
 rw[ble_of h1];rfl
theorem hxd_cases {c:UInt8} (h:hxd c=true):(48≤c.toNat∧c.toNat≤57)∨(97≤c.toNat∧c.toNat≤102):=by
 unfold hxd at h
 simp only[Bool.or_eq_true,Bool.and_eq_true,decide_eq_true_eq] at h
 omega
theorem hvN_lt {c:UInt8} (h:hxd c=true):hvN c<16:=by
 rcases hxd_cases h with h|h
 ·rw[hvN_lo h.1 h.2];omega
 ·rw[hvN_hi h.1];omega
theorem orT_ok:((List.range 16).all fun a=>(List.range 16).all fun b=>orI .u8 (shlI .u8 (a:Int) 4) (IntKind.wrap .u8 (b:Int))==((16*a+b:Nat):Int))=true:=by kernel_rfl
theorem or_eq {a b:Nat} (ha:a<16) (hb:b<16):orI .u8 (shlI .u8 (a:Int) 4) (IntKind.wrap .u8 (b:Int))=((16*a+b:Nat):Int):=
 eq_of_beq (List.all_eq_true.1 (List.all_eq_true.1 orT_ok a (List.mem_range.2 ha)) b (List.mem_range.2 hb))
theorem wrap8 {n:Int} (h1:0≤n) (h2:n<256):IntKind.wrap IntKind.u8 n=n:=by
 unfold IntKind.wrap
 simp only[IntKind.bits,IntKind.signed,Bool.false_and,Bool.false_eq_true,if_false]
 omega
theorem half_i {i:Nat} (h:i<9223372036854775807):IntKind.wrap IntKind.i64 (Int.tdiv (i:Int) 2)=((i/2:Nat):Int):=by
 rw[Int.tdiv_eq_ediv_of_nonneg (by omega),wrap64 (by omega) (by omega)];omega
theorem fh_good (m:Nat) (rec3:Int→Int→Dt→List Dt→Option (ByteArray×Bool)) (z:Int) (i h a:Nat) (d:Dt) (R:List Dt) (hi:i<9223372036854775806) (hR:i/2<R.length) (hh:h<16) (ha:a<16) (hg:R[i/2]=Dt.int (a:Int)):
  notation_fromHex_j6 m rec3 (i:Int) (h:Int) z (i:Int) d R=rec3 z ((i+1:Nat):Int) d (R.set (i/2) (Dt.int ((16*a+h:Nat):Int))):=by
 have d0:decide ((h:Int)<0)=false:=decide_eq_false (by omega)
 simp only[notation_fromHex_j6,d0,cond_false,notation_fromHex_j7,notation_fromHex_j8,half_i (show i<9223372036854775807 by omega),inL_lt hR,Option.bind_some,Int.toNat_natCast,List.getElem?_eq_getElem hR,hg,wrapS (show i<9223372036854775807 by omega)]
 show rec3 z _ d (R.set (i/2) (Dt.int (orI .u8 (shlI .u8 (a:Int) 4) (IntKind.wrap .u8 (h:Int)))))=_
 rw[or_eq ha hh]
theorem fh_bad (m:Nat) (rec3:Int→Int→Dt→List Dt→Option (ByteArray×Bool)) (x z y:Int) (d:Dt) (R:List Dt):notation_fromHex_j6 m rec3 x (-1) z y d R=some (ByteArray.mk (List.toArray []),false):=rfl
theorem fh_step (m M i a:Nat) (d:Dt) (R:List Dt) (hi:i<(Dt.S d 2).size) (hs:(Dt.S d 2).size<9223372036854775806) (hR:i/2<R.length) (ha:a<16) (hg:R[i/2]=Dt.int (a:Int)):
  notation_fromHex_l3 m (M+1) ((Dt.S d 2).size:Int) (i:Int) d R=bif hxd (Dt.S d 2)[i] then notation_fromHex_l3 m M ((Dt.S d 2).size:Int) ((i+1:Nat):Int) d (R.set (i/2) (Dt.int ((16*a+hvN (Dt.S d 2)[i]:Nat):Int))) else some (ByteArray.mk (List.toArray []),false):=by
 have hc:=u8lt (Dt.S d 2)[i]
 simp only[notation_fromHex_l3,dlt,hi,decide_true,cond_true,notation_fromHex_j4,notation_fromHex_j5,notation_fromHex_j9,idxS_lt hi,Option.bind_some]
 generalize (Dt.S d 2)[i]=c at*
 have q:=hxd_cases (c:=c)
 have G:=fun h hh=>fh_good m (notation_fromHex_l3 m M) ((Dt.S d 2).size:Int) i h a d R (by omega) hR hh ha hg
 unfold hxd at q ⊢
 by_cases h1:48≤c.toNat
 ·have e1 :decide ((48:Int)≤(c.toNat:Int))=true:=decide_eq_true (by omega)
  by_cases h2:c.toNat≤57
  ·have e2:decide ((c.toNat:Int)≤57)=true:=decide_eq_true (by omega)
   have ev:IntKind.wrap .i64 (IntKind.wrap .u8 ((c.toNat:Int)-48))=((hvN c:Nat):Int):=by
        rw[hvN_lo h1 h2,wrap8 (by omega) (by omega),wrap64 (by omega) (by omega)];omega
   simp only[e1,e2,cond_true,Bool.and_true,Bool.true_or]
   rw[ev,G _ (by rw[hvN_lo h1 h2];omega)]
  ·have e2:decide ((c.toNat:Int)≤57)=false:=decide_eq_false (by omega)
   by_cases h3:97≤c.toNat
   ·    have e3:decide ((97:Int)≤(c.toNat:Int))=true:=decide_eq_true (by omega)
        by_cases h4:c.toNat≤102
        ·have e4:decide ((c.toNat:Int)≤102)=true:=decide_eq_true (by omega)
         have ev:IntKind.wrap .i64 (IntKind.wrap .i64 (IntKind.wrap .u8 ((c.toNat:Int)-97))+10)=((hvN c:Nat):Int):=by
          rw[hvN_hi h3,wrap8 (by omega) (by omega),wrap64 (n:=(c.toNat:Int)-97) (by omega) (by omega),wrap64 (by omega) (by omega)];omega
         simp only[e1,e2,e3,e4,cond_true,cond_false,Bool.and_true,Bool.and_false,Bool.false_or]
         rw[ev,G _ (by rw[hvN_hi h3];omega)]
        ·have e4:decide ((c.toNat:Int)≤102)=false:=decide_eq_false (by omega)
         simp only[e1,e2,e3,e4,cond_true,cond_false,Bool.and_false,Bool.false_or,fh_bad]
   ·    have e3:decide ((97:Int)≤(c.toNat:Int))=false:=decide_eq_false (by omega)
        simp only[e1,e2,e3,cond_true,cond_false,Bool.and_false,Bool.false_and,Bool.false_or,fh_bad]
 ·have e1:decide ((48:Int)≤(c.toNat:Int))=false:=decide_eq_false (by omega)
  have e3:decide ((97:Int)≤(c.toNat:Int))=false:=decide_eq_false (by omega)
  simp only[e1,e3,cond_false,Bool.false_and,Bool.false_or,fh_bad]
theorem bytesI_one (v:Nat) (h:v<256):bytesI [UInt8.ofNat v]=[Dt.int (v:Int)]:=by
 have:(UInt8.ofNat v).toNat=v:=by simp only[UInt8.toNat_ofNat'];omega
 show [Dt.int (((UInt8.ofNat v).toNat:Nat):Int)]=_
 rw[this]
theorem fh_loop (m n:Nat) (d:Dt) (hsz:(Dt.S d 2).size=2*n) (hn:n≤137438953472):∀(k M j:Nat) (U:List UInt8),k+j=n→2*k<M→U.length=j→
  notation_fromHex_l3 m M ((Dt.S d 2).size:Int) ((2*j:Nat):Int) d (bytesI U++List.replicate k (Dt.int 0))=bif ((Dt.S d 2).data.toList.drop (2*j)).all hxd then some (⟨(U++unh ((Dt.S d 2).data.toList.drop (2*j))).toArray⟩,true) else some (ByteArray.mk (List.toArray []),false)
 |_,0,_,_,_,h,_=>by omega
 |0,M+1,j,U,hk,_,hU=>by
  have hj:j=n:=by omega
  have hlt:¬2*j<(Dt.S d 2).size:=by omega
  rw[List.drop_eq_nil_of_le (by rw[lenB];omega)]
  have hb:Nat.ble (bytesI U).length 137438953472=true:=ble_of (by rw[bytesI_len];omega)
  simp only[notation_fromHex_l3,dlt,hlt,decide_false,cond_false,notation_fromHex_j10,List.replicate_zero,List.append_nil,hb,cond_true,strI_ok,Option.bind_some,List.all_nil,unh]
 |k+1,1,j,U,hk,h,hU=>by omega
 |k+1,M+2,j,U,hk,hM,hU=>by
  have i1:2*j<(Dt.S d 2).size:=by omega
  have i2:2*j+1<(Dt.S d 2).size:=by omega
  have e1:2*j/2=j:=by omega
  have e2:(2*j+1)/2=j:=by omega
  have lU:(bytesI U).length=j:=by rw[bytesI_len,hU]
  have setU:∀(x y:Dt),(bytesI U++(x::List.replicate k (Dt.int 0))).set j y=bytesI U++(y::List.replicate k (Dt.int 0)):=fun x y=>by
   rw[List.set_append_right _ _ (by omega),lU,Nat.sub_self];rfl
  have hl1:2*j/2<(bytesI U++List.replicate (k+1) (Dt.int 0)).length:=by rw[List.length_append,lU,List.length_replicate,e1];omega
  have g1:(bytesI U++List.replicate (k+1) (Dt.int 0))[2*j/2]=Dt.int ((0:Nat):Int):=by
   rw[List.getElem_append_right (by omega),List.getElem_replicate];rfl
  have hl2:∀x,(2*j+1)/2<(bytesI U++(x::List.replicate k (Dt.int 0))).length:=fun x=>by rw[List.length_append,lU,List.length_cons,e2];omega
  have g2:∀x,(bytesI U++(x::List.replicate k (Dt.int 0)))[(2*j+1)/2]'(hl2 x)=x:=fun x=>by
   rw[List.getElem_append_right (by omega)]
   simp[lU,e2]
  have dr:(Dt.S d 2).data.toList.drop (2*j)=(Dt.S d 2)[2*j]::(Dt.S d 2)[2*j+1]::(Dt.S d 2).data.toList.drop (2*(j+1)):=by
   rw[getB _ _ i1,getB _ _ i2];rfl
  rw[fh_step m (M+1) (2*j) 0 d _ i1 (by omega) hl1 (by omega) g1,dr,e1,show List.replicate (k+1) (Dt.int 0)=Dt.int 0::List.replicate k (Dt.int 0) from rfl,setU]
  cases x1:hxd (Dt.S d 2)[2*j]
  ·simp only[List.all_cons,x1,Bool.false_and,cond_false]
  have v1:=hvN_lt x1
  rw[cond_true,fh_step m M (2*j+1) (hvN (Dt.S d 2)[2*j]) d _ i2 (by omega) (hl2 _) v1 (by rw[g2];congr 1;omega),e2,setU]
  cases x2:hxd (Dt.S d 2)[2*j+1]
  ·simp only[List.all_cons,x1,x2,Bool.false_and,Bool.and_false,cond_false]
  have v2:=hvN_lt x2
  have e3:bytesI U++(Dt.int ((16*hvN (Dt.S d 2)[2*j]+hvN (Dt.S d 2)[2*j+1]:Nat):Int)::List.replicate k (Dt.int 0))=bytesI (U++[UInt8.ofNat (16*hvN (Dt.S d 2)[2*j]+hvN (Dt.S d 2)[2*j+1])])++List.replicate k (Dt.int 0):=by
   rw[bytesI_app,bytesI_one _ (by omega),List.append_assoc];rfl
  rw[cond_true,e3,show 2*j+1+1=2*(j+1) by omega,fh_loop m n d hsz hn k M (j+1) _ (by omega) (by omega) (by simp[hU])]
  simp only[List.all_cons,x1,x2,Bool.true_and,unh]
  simp
theorem fromHex_eq (m:Nat) (d:Dt) (hm:(Dt.S d 2).size≤m) (hs:(Dt.S d 2).size≤100000000000):notation_fromHex (m+1) d=some (bif Dt.I d 0==4&&hexS (Dt.S d 2) then(⟨(unh (Dt.S d 2).data.toList).toArray⟩,true) else(ByteArray.mk (List.toArray []),false)):=by
 simp only[notation_fromHex,bne]
 cases h4:(Dt.I d 0==4)
 ·rfl
 have et:Int.tmod ((Dt.S d 2).size:Int) 2=(((Dt.S d 2).size%2:Nat):Int):=by rw[Int.tmod_eq_emod_of_nonneg (by omega)];omega
 rw[et]
 unfold hexS
 by_cases hp:(Dt.S d 2).size%2=0
 ·have e1:((((Dt.S d 2).size%2:Nat):Int)==0)=true:=by rw[hp];rfl
  have e2:Nat.beq ((Dt.S d 2).size%2) 0=true:=by rw[hp];rfl
  obtain⟨n,hn⟩:∃n,(Dt.S d 2).size=2*n:=⟨(Dt.S d 2).size/2,by omega⟩
  have e3:IntKind.wrap .i64 (Int.tdiv ((Dt.S d 2).size:Int) 2)=((n:Nat):Int):=by rw[half_i (by omega)];congr 1;omega
  have hl:=fh_loop m n d hn (by omega) n (m+1) 0 [] (by omega) (by omega) rfl
  have hl':notation_fromHex_l3 m (Nat.succ m) ((Dt.S d 2).size:Int) 0 d (List.replicate n (Dt.int 0))=_:=hl
  simp only[e1,e2,Bool.not_true,cond_false,notation_fromHex_j0,notation_fromHex_j1,e3,mkL_nat (show n≤137438953472 by omega),Option.bind_some,notation_fromHex_j2,hl',Bool.true_and,Nat.mul_zero,List.drop_zero,List.nil_append]
  cases (Dt.S d 2).data.toList.all hxd<;>rfl
 ·have e1:((((Dt.S d 2).size%2:Nat):Int)==0)=false:=by rw[beq_eq_false_iff_ne];omega
  have e2:Nat.beq ((Dt.S d 2).size%2) 0=false:=by rw[←Bool.not_eq_true,Nat.beq_eq];exact hp
  simp only[e1,e2,Bool.not_false,cond_true,notation_fromHex_j0,Bool.false_and,Bool.and_false,cond_false]
  rfl
def plI (c:UInt8):Int:=bif hxd c then(hvN c:Int) else -1
theorem plT_ok (m M:Nat):((List.range 256).all fun n=>ref05_place_l1 m (M+17) (n:Int) 0==some (plI (UInt8.ofNat n)))=true:=by kernel_rfl
theorem place_eq (m:Nat) (c:UInt8) (hm:17≤m):ref05_place (m+1) (c.toNat:Int)=some (plI c):=by
 obtain⟨M,hM⟩:∃M,m+1=M+17:=⟨m-16,by omega⟩
 have h:=eq_of_beq (List.all_eq_true.1 (plT_ok m M) c.toNat (List.mem_range.2 (UInt8.toNat_lt c)))
 have e:UInt8.ofNat c.toNat=c:=by simp
 rw[e] at h
 simp only[ref05_place,ref05_place_j0]
 rw[show Nat.succ m=M+17 from hM]
 exact h
theorem plI_neg (c:UInt8):decide (plI c<0)=!(hxd c):=by
 unfold plI
 cases hxd c
 ·rfl
 ·exact decide_eq_false (by show ¬((hvN c:Int)<0);omega)
theorem unhex_loop (m:Nat) (hm:18≤m) (s:ByteArray) (n:Nat) (hsz:s.size=2*n) (hn:n≤137438953472):∀(k M j:Nat) (U:List UInt8),k+j=n→k<M→U.length=j→
  ref05_unhex_l2 m M s (ByteArray.mk (List.toArray U)) ((2*j:Nat):Int)=bif (s.data.toList.drop (2*j)).all hxd then some (⟨(U++unh (s.data.toList.drop (2*j))).toArray⟩,true) else some (ByteArray.mk (List.toArray []),false)
 |_,0,_,_,_,h,_=>by omega
 |0,M+1,j,U,hk,_,hU=>by
  have hlt:¬2*j<s.size:=by omega
  rw[List.drop_eq_nil_of_le (by rw[lenB];omega)]
  simp only[ref05_unhex_l2,dlt,hlt,decide_false,cond_false,ref05_unhex_j7,List.all_nil,unh,cond_true,List.append_nil]
 |k+1,M+1,j,U,hk,hM,hU=>by
  obtain⟨m,rfl⟩:∃q,m=q+1:=⟨m-1,by omega⟩
  have i1:2*j<s.size:=by omega
  have i2:2*j+1<s.size:=by omega
  have dr:s.data.toList.drop (2*j)=s[2*j]::s[2*j+1]::s.data.toList.drop (2*(j+1)):=by
   rw[getB _ _ i1,getB _ _ i2];rfl
  have w1:IntKind.wrap .i64 (((2*j:Nat):Int)+1)=((2*j+1:Nat):Int):=wrapS (by omega)
  have w2:IntKind.wrap .i64 (((2*j:Nat):Int)+2)=((2*(j+1):Nat):Int):=by rw[wrap64 (by omega) (by omega)];omega
  rw[dr]
  simp only[ref05_unhex_l2,dlt,i1,decide_true,cond_true,ref05_unhex_j3,idxS_lt i1,w1,idxS_lt i2,Option.bind_some,place_eq m _ (by omega),plI_neg]
  cases x1:hxd s[2*j]
  ·simp only[List.all_cons,x1,Bool.not_false,cond_true,ref05_unhex_j4,Bool.false_and,cond_false]
  cases x2:hxd s[2*j+1]
  ·simp only[List.all_cons,x1,x2,Bool.not_true,Bool.not_false,cond_true,ref05_unhex_j4,Bool.false_and,Bool.and_false,cond_false]
  have v1:=hvN_lt x1
  have v2:=hvN_lt x2
  have p1:plI s[2*j]=((hvN s[2*j]:Nat):Int):=by unfold plI;rw[x1];rfl
  have p2:plI s[2*j+1]=((hvN s[2*j+1]:Nat):Int):=by unfold plI;rw[x2];rfl
  have e3:strOfNums [IntKind.wrap IntKind.u8 (IntKind.wrap .i64 (IntKind.wrap .i64 (16*((hvN s[2*j]:Nat):Int))+((hvN s[2*j+1]:Nat):Int)))]=ByteArray.mk (List.toArray [UInt8.ofNat (16*hvN s[2*j]+hvN s[2*j+1])]):=by
   rw[wrap64 (n:=16*((hvN s[2*j]:Nat):Int)) (by omega) (by omega),wrap64 (by omega) (by omega),wrap8 (by omega) (by omega)]
   have:(16*((hvN s[2*j]:Nat):Int)+((hvN s[2*j+1]:Nat):Int))=((16*hvN s[2*j]+hvN s[2*j+1]:Nat):Int):=by omega
   rw[this];rfl
  simp only[Bool.not_true,cond_false,ref05_unhex_j4,ref05_unhex_j5,p1,p2,e3,mkB_app,mkB_size,List.length_cons,List.length_nil,ble_of (show U.length+(0+1)≤1152921504606846976 by omega),cond_true,ref05_unhex_j6,w2]
  rw[unhex_loop (m+1) hm s n hsz hn k M (j+1) _ (by omega) (by omega) (by simp[hU])]
  simp only[List.all_cons,x1,x2,Bool.true_and,unh]
  simp
theorem unhex_eq (m:Nat) (s:ByteArray) (hm:s.size+20≤m) (hs:s.size≤100000000000):ref05_unhex (m+1) s=some (bif hexS s then(⟨(unh s.data.toList).toArray⟩,true) else(ByteArray.mk (List.toArray []),false)):=by
 have et:Int.tmod (s.size:Int) 2=((s.size%2:Nat):Int):=by rw[Int.tmod_eq_emod_of_nonneg (by omega)];omega
 simp only[ref05_unhex,et]
 unfold hexS
 by_cases hp:s.size%2=0
 ·have e1:(((s.size%2:Nat):Int)==1)=false:=by rw[hp];rfl
  have e2:Nat.beq (s.size%2) 0=true:=by rw[hp];rfl
  obtain⟨n,hn⟩:∃n,s.size=2*n:=⟨s.size/2,by omega⟩
  have hl:=unhex_loop m (by omega) s n hn (by omega) n (m+1) 0 [] (by omega) (by omega) rfl
  have hl':ref05_unhex_l2 m (Nat.succ m) s (ByteArray.mk (List.toArray [])) 0=_:=hl
  simp only[e1,e2,cond_false,ref05_unhex_j0,ref05_unhex_j1,hl',Bool.true_and,Nat.mul_zero,List.drop_zero,List.nil_append]
  cases s.data.toList.all hxd<;>rfl
 ·have e1:(((s.size%2:Nat):Int)==1)=true:=by rw[show s.size%2=1 by omega];rfl
  have e2:Nat.beq (s.size%2) 0=false:=by rw[←Bool.not_eq_true,Nat.beq_eq];exact hp
  simp only[e1,e2,cond_true,Bool.false_and,cond_false]
theorem unh_len:∀(k:Nat) (l:List UInt8),l.length=2*k→(unh l).length=k
 |0,[],_=>rfl
 |k+1,a::b::r,h=>by simp only[unh,List.length_cons];rw[unh_len k r (by simp at h;omega)]
 |k+1,[a],h=>by simp at h;omega
 |k+1,[],h=>by simp at h
 |0,a::r,h=>by simp at h
theorem len12 (s:ByteArray) (h:hexS s=true):(((ByteArray.mk (List.toArray (unh s.data.toList))).size:Int)==12)=Nat.beq s.size 24:=by
 unfold hexS at h
 have hp:=Nat.eq_of_beq_eq_true ((Bool.and_eq_true_iff).1 h).1
 rw[mkB_size,unh_len (s.size/2) _ (by rw[lenB];omega),Bool.eq_iff_iff,Nat.beq_eq,beq_iff_eq]
 omega
def spV (f:Dt):Dt:=
 bif eqb (Dt.S f 0) nmId then Dt.agg [(Dt.int 8),(Dt.int 0),(Dt.str ⟨(unh (Dt.S (Dt.fld f 1) 2).data.toList).toArray⟩),(Dt.lst []),(Dt.lst [])] else
 bif eqb (Dt.S f 0) nmBytes then Dt.agg [(Dt.int 7),(Dt.int 0),(Dt.str ⟨(unh (Dt.S (Dt.fld f 1) 2).data.toList).toArray⟩),(Dt.lst []),(Dt.lst [])] else
 bif eqb (Dt.S f 0) nmTime then Dt.agg [(Dt.int 10),(Dt.int (Dt.I (Dt.fld f 1) 1)),(Dt.str (ByteArray.mk (List.toArray []))),(Dt.lst []),(Dt.lst [])] else
 bif eqb (Dt.S f 0) nmMin then kz2ef54 else kzedecf
theorem nmT_ok:nmId.toList=[36,105,100]∧nmBytes.toList=[36,98,121,116,101,115]∧nmTime.toList=[36,116,105,109,101]∧nmMin.toList=[36,109,105,110]∧nmMax.toList=[36,109,97,120]:=by
 simp only[ByteArray.toList_eq]
 exact⟨rfl,rfl,rfl,rfl,rfl⟩
theorem nm_eqs (s:ByteArray):(s.toList==[36,105,100])=eqb s nmId∧(s.toList==[36,98,121,116,101,115])=eqb s nmBytes∧(s.toList==[36,116,105,109,101])=eqb s nmTime∧(s.toList==[36,109,105,110])=eqb s nmMin∧(s.toList==[36,109,97,120])=eqb s nmMax:=by
 obtain⟨h1,h2,h3,h4,h5⟩:=nmT_ok
 unfold eqb
 rw[h1,h2,h3,h4,h5]
 exact⟨rfl,rfl,rfl,rfl,rfl⟩
theorem one_len (L:List Dt):(∃f,L=[f])∨((((L.length:Int)==1):Bool)=false∧spc L=false):=by
 match L with
 | []=>exact .inr ⟨rfl,rfl⟩
 | [f]=>exact .inl ⟨f,rfl⟩
 |a::b::r=>exact .inr ⟨by rw[beq_eq_false_iff_ne];simp only[List.length_cons];omega,rfl⟩
end Go.Proofs.YtmejbpmceflcjaaGreatDoor
