/- Names, in plain Lean.
UTF-8:the library's decoder and the reference's test agree,in plain Lean.
UTF-8:the reference's test is the library's.
Sets of strings as maps:what a map of 'true' holds is what was put in. -/
import Derived.Test.YtpifchdngodgjaaGreatDoorSh
import Derived.Test.YtpifchdngodgjaaGreatDoorMA
import Derived.Lib.MapLaws
import Derived.Lib.ValidU
set_option linter.unusedVariables false
set_option linter.unusedSimpArgs false
namespace Go.Proofs.YtpifchdngodgjaaGreatDoor
open Go.Am
def okB (c:UInt8):Bool:=!(decide ((c.toNat:Int)<33)||decide ((126:Int)<c.toNat)||((c.toNat:Int)==46))
def nmL (l:List UInt8):Bool:=match l with
 | []=>false
 |c::r=>decide (r.length<32)&&!((c.toNat:Int)==36)&&(c::r).all okB
def nm (s:ByteArray):Bool:=nmL s.data.toList
theorem getB (s:ByteArray) (i:Nat) (h:i<s.size):s.data.toList.drop i=s[i]::s.data.toList.drop (i+1):=by
 rw[List.drop_eq_getElem_cons (show i<s.data.toList.length by simpa using h)]
 rfl
theorem lenB (s:ByteArray):s.data.toList.length=s.size:=by rw[Array.length_toList];rfl
theorem name_loop (m:Nat) (s:ByteArray) (hs:s.size<9223372036854775807):∀(M i:Nat),i≤s.size→s.size-i<M→qR_l3 m M s (i:Int)=some ((s.data.toList.drop i).all okB)
 |0,i,_,h=>by omega
 |M+1,i,hi,h=>by
  simp only[qR_l3,dlt]
  by_cases hlt:i<s.size
  ·rw[getB s i hlt]
   simp only[hlt,decide_true,cond_true,qR_j6,qR_j5,qR_j4,qR_j7,qR_j2,qR_j1,qR_j0,idxS_lt hlt,Option.bind_some,wrapS (show i<9223372036854775807 by omega),name_loop m s hs M (i+1) (by omega) (by omega),List.all_cons,okB]
   cases decide (((s[i]).toNat:Int)<33)<;>cases decide ((126:Int)<((s[i]).toNat:Int))<;>cases (((s[i]).toNat:Int)==46)<;>rfl
  ·have:i=s.size:=by omega
   subst this
   rw[List.drop_eq_nil_of_le (by rw[lenB];omega)]
   simp[qR_j6,qR_j5,qR_j4,qR_j7,qR_j2,qR_j1,qR_j0]
theorem nm_parts (s:ByteArray) (h1:1≤s.size) (h2:s.size≤32):nm s=(!(((s[0]).toNat:Int)==36)&&s.data.toList.all okB):=by
 have e:=getB s 0 (by omega)
 have hl:(s.data.toList.drop 1).length<32:=by rw[List.length_drop,lenB];omega
 rw[List.drop_zero] at e
 unfold nm
 rw[e]
 simp only[Nat.zero_add] at hl ⊢
 unfold nmL
 simp only[hl,decide_true,Bool.true_and]
theorem nm_short (s:ByteArray) (h:s.size<1):nm s=false:=by
 unfold nm
 have:s.data.toList=[]:=List.eq_nil_of_length_eq_zero (by rw[lenB];omega)
 rw[this];rfl
theorem nm_long (s:ByteArray) (h:32<s.size):nm s=false:=by
 have e:=getB s 0 (by omega)
 have hl:¬(s.data.toList.drop 1).length<32:=by rw[List.length_drop,lenB];omega
 rw[List.drop_zero] at e
 unfold nm
 rw[e]
 simp only[Nat.zero_add]
 unfold nmL
 simp only[hl,decide_false,Bool.false_and]
theorem name_eq (m:Nat) (hm:33≤m) (s:ByteArray):qR (m+1) s=some (nm s):=by
 simp only[qR]
 by_cases h1:s.size<1
 ·have:decide ((s.size:Int)<1)=true:=by simp;omega
  simp only[this,cond_true,qR_j6,qR_j5,qR_j4,qR_j7,qR_j2,qR_j1,qR_j0,nm_short s h1]
 have e1:decide ((s.size:Int)<1)=false:=by simp;omega
 by_cases h2:32<s.size
 ·have:decide ((32:Int)<(s.size:Int))=true:=by simp;omega
  simp only[e1,this,cond_true,cond_false,qR_j6,qR_j5,qR_j4,qR_j7,qR_j2,qR_j1,qR_j0,nm_long s h2]
 have e2:decide ((32:Int)<(s.size:Int))=false:=by simp;omega
 have hx:=idxS_lt (s:=s) (i:=0) (by omega)
 have hl:=name_loop m s (by omega) (m+1) 0 (by omega) (by omega)
 rw[List.drop_zero] at hl
 have hl':qR_l3 m (Nat.succ m) s 0=some (s.data.toList.all okB):=hl
 simp only[e1,e2,cond_false,show idxS s 0=_ from hx,Option.bind_some,qR_j6,qR_j5,qR_j4,qR_j7,qR_j2,qR_j1,qR_j0,hl',nm_parts s (by omega) (by omega)]
 cases (((s[0]).toNat:Int)==36)<;>rfl
end Go.Proofs.YtpifchdngodgjaaGreatDoor
namespace Go.Proofs.YtpifchdngodgjaaGreatDoor
open Go.Am
def contB (b:UInt8):Bool:=decide (128≤b.toNat)&&decide (b.toNat≤191)
def tlU (n:Nat) (r:List UInt8):Bool:=decide (n≤r.length)&&(r.take n).all contB
def hdN (r:List UInt8):Nat:=(r.getD 0 0).toNat
def okU (b:Nat) (r:List UInt8):Option Nat:=
 if b<128 then some 0
 else if 194≤b∧b≤223 then(if tlU 1 r=true then some 1 else none)
 else if 224≤b∧b≤239 then(if tlU 2 r=true∧¬(b=224∧hdN r<160)∧¬(b=237∧159<hdN r) then some 2 else none)
 else if 240≤b∧b≤244 then(if tlU 3 r=true∧¬(b=240∧hdN r<144)∧¬(b=244∧143<hdN r) then some 3 else none)
 else none
theorem tl1 (r:List UInt8):tlU 1 r=true↔1≤r.length∧128≤(r.getD 0 0).toNat∧(r.getD 0 0).toNat≤191:=by
 unfold tlU contB
 match r with
 | []=>simp
 |a::r=>simp
theorem tl2 (r:List UInt8):tlU 2 r=true↔2≤r.length∧(128≤(r.getD 0 0).toNat∧(r.getD 0 0).toNat≤191)∧128≤(r.getD 1 0).toNat∧(r.getD 1 0).toNat≤191:=by
 unfold tlU contB
 match r with
 | []=>simp
 | [a]=>simp
 |a::b::r=>simp
theorem tl3 (r:List UInt8):tlU 3 r=true↔3≤r.length∧(128≤(r.getD 0 0).toNat∧(r.getD 0 0).toNat≤191)∧(128≤(r.getD 1 0).toNat∧(r.getD 1 0).toNat≤191)∧128≤(r.getD 2 0).toNat∧(r.getD 2 0).toNat≤191:=by
 unfold tlU contB
 match r with
 | []=>simp
 | [a]=>simp
 | [a,b]=>simp
 |a::b::c::r=>simp
theorem decN_ok (n b0 b1 b2 b3:Nat) (k0:b0<256) (k1:b1<256) (k2:b2<256) (k3:b3<256) (k:Nat) (h:(b0<128∧k=0)∨(194≤b0∧b0≤223∧1<n∧128≤b1∧b1≤191∧k=1)∨(224≤b0∧b0≤239∧2<n∧(128≤b1∧b1≤191)∧(128≤b2∧b2≤191)∧¬(b0=224∧b1<160)∧¬(b0=237∧159<b1)∧k=2)∨(240≤b0∧b0≤244∧3<n∧(128≤b1∧b1≤191)∧(128≤b2∧b2≤191)∧(128≤b3∧b3≤191)∧¬(b0=240∧b1<144)∧¬(b0=244∧143<b1)∧k=3)):
  ¬((Lib.decodeN n b0 b1 b2 b3).1=65533∧(Lib.decodeN n b0 b1 b2 b3).2=1)∧(Lib.decodeN n b0 b1 b2 b3).2=k+1:=by
 rcases h with⟨h1,rfl⟩| ⟨h1,h2,h3,h4,h5,rfl⟩| ⟨h1,h2,h3,h4,h5,h6,h7,rfl⟩| ⟨h1,h2,h3,h4,h5,h6,h7,h8,rfl⟩
 ·unfold Lib.decodeN
  rw[if_pos h1]
  exact⟨fun h=>by have:=h.1;dsimp only at this;omega,rfl⟩
 ·unfold Lib.decodeN
  rw[if_neg (by omega),if_pos (by omega),if_pos (by omega)]
  exact⟨fun h=>by have:=h.2;dsimp only at this;omega,rfl⟩
 ·unfold Lib.decodeN
  rw[if_neg (by omega),if_neg (by omega),if_pos (by omega),if_pos (by omega)]
  exact⟨fun h=>by have:=h.2;dsimp only at this;omega,rfl⟩
 ·unfold Lib.decodeN
  rw[if_neg (by omega),if_neg (by omega),if_neg (by omega),if_pos (by omega),if_pos (by omega)]
  exact⟨fun h=>by have:=h.2;dsimp only at this;omega,rfl⟩
theorem decN_no (n b0 b1 b2 b3:Nat) (k0:b0<256) (k1:b1<256) (k2:b2<256) (k3:b3<256) (h1:¬b0<128) (h2:¬(194≤b0∧b0≤223∧1<n∧128≤b1∧b1≤191)) (h3:¬(224≤b0∧b0≤239∧2<n∧(128≤b1∧b1≤191)∧(128≤b2∧b2≤191)∧¬(b0=224∧b1<160)∧¬(b0=237∧159<b1))) (h4:¬(240≤b0∧b0≤244∧3<n∧(128≤b1∧b1≤191)∧(128≤b2∧b2≤191)∧(128≤b3∧b3≤191)∧¬(b0=240∧b1<144)∧¬(b0=244∧143<b1))):
  Lib.decodeN n b0 b1 b2 b3=(65533,1):=by
 unfold Lib.decodeN
 rw[if_neg h1]
 split
 ·rw[if_neg (by omega)]
 ·split
  ·rw[if_neg (by omega)]
  ·split
   ·rw[if_neg (by omega)]
   ·rfl
theorem dec_step (b:UInt8) (r:List UInt8):(∀n,okU b.toNat r=some n→¬((Lib.decodeL (b::r)).1=65533∧(Lib.decodeL (b::r)).2=1)∧(Lib.decodeL (b::r)).2=n+1)∧(okU b.toNat r=none→(Lib.decodeL (b::r)).1=65533∧(Lib.decodeL (b::r)).2=1):=by
 rw[Lib.decodeL_N]
 have k0:=b.toNat_lt
 have k1:=(r.getD 0 0).toNat_lt
 have k2:=(r.getD 1 0).toNat_lt
 have k3:=(r.getD 2 0).toNat_lt
 have e0:((b::r).getD 0 0)=b:=rfl
 have e1:((b::r).getD 1 0)=r.getD 0 0:=rfl
 have e2:((b::r).getD 2 0)=r.getD 1 0:=rfl
 have e3:((b::r).getD 3 0)=r.getD 2 0:=rfl
 rw[e0,e1,e2,e3,List.length_cons]
 have t1:=tl1 r
 have t2:=tl2 r
 have t3:=tl3 r
 unfold okU hdN
 generalize tlU 1 r=u1 at*
 generalize tlU 2 r=u2 at*
 generalize tlU 3 r=u3 at*
 generalize (r.getD 0 0).toNat=c1 at*
 generalize (r.getD 1 0).toNat=c2 at*
 generalize (r.getD 2 0).toNat=c3 at*
 generalize b.toNat=c0 at*
 refine⟨fun n hn=>?_,fun hn=>?_⟩
 ·refine decN_ok _ _ _ _ _ k0 k1 k2 k3 n ?_
  split at hn
  ·simp only[Option.some.injEq] at hn;omega
  ·split  at hn
   ·    split at hn
        ·rename_i h;have:=t1.1 h;simp only[Option.some.injEq] at hn;omega
        ·cases hn
   ·    split at hn
        ·split at hn
         ·rename_i h;have:=t2.1 h.1;simp only[Option.some.injEq] at hn;omega
         ·cases hn
        ·split at hn
         ·split at hn
          ·rename_i h;have:=t3.1 h.1;simp only[Option.some.injEq] at hn;omega
          ·cases hn
         ·cases hn
 ·have key:Lib.decodeN (r.length+1) c0 c1 c2 c3=(65533,1):=by
   refine decN_no _ _ _ _ _ k0 k1 k2 k3 ?_ ?_ ?_ ?_<;>intro h
   ·rw[if_pos h] at hn;cases hn
   ·rw[if_neg (by omega),if_pos (by omega),if_pos (t1.2 (by omega))] at hn;cases hn
   ·rw[if_neg (by omega),if_neg (by omega),if_pos (by omega),if_pos ⟨t2.2 (by omega),by omega,by omega⟩] at hn;cases hn
   ·rw[if_neg (by omega),if_neg (by omega),if_neg (by omega),if_pos (by omega),if_pos ⟨t3.2 (by omega),by omega,by omega⟩] at hn;cases hn
  rw[key]
  exact⟨rfl,rfl⟩
theorem validGo_cons (k:Nat) (b:UInt8) (r:List UInt8):Lib.validGoD (k+1) (b::r)=match okU b.toNat r with
  |some n=>Lib.validGoD k (r.drop n)
  |none=>false:=by
 obtain⟨h1,h2⟩:=dec_step b r
 have hd:Lib.validGoD (k+1) (b::r)=if(b::r:List UInt8)=[] then true else if(Lib.decodeL (b::r)).1=65533∧(Lib.decodeL (b::r)).2=1 then false else Lib.validGoD k ((b::r).drop (Lib.decodeL (b::r)).2):=rfl
 rw[hd,if_neg (by simp)]
 cases e:okU b.toNat r with
 |none=>
  rw[if_pos (h2 e)]
 |some n=>
  obtain⟨h3,h4⟩:=h1 n e
  rw[if_neg h3,h4,List.drop_succ_cons]
theorem validGo_nil:∀k,Lib.validGoD k []=true
 |0=>rfl
 |k+1=>by unfold Lib.validGoD;rw[if_pos rfl]
end Go.Proofs.YtpifchdngodgjaaGreatDoor
namespace Go.Proofs.YtpifchdngodgjaaGreatDoor
open Go.Am
theorem tail_loop (m:Nat) (s:ByteArray) (i n:Nat) (hin:i+n≤s.size) (hs:s.size<4611686018427387904):∀(M k:Nat),k≤n→n-k<M→zA_l2 m M s (i:Int) (n:Int) (k:Int)=some (((s.data.toList.drop (i+k)).take (n-k)).all contB)
 |0,k,_,h=>by omega
 |M+    1,k,hk,h=>by
  simp only[zA_l2,dlt]
  by_cases hlt:k<n
  ·have w1:IntKind.wrap IntKind.i64 ((i:Int)+(k:Int))=((i+k:Nat):Int):=by rw[wrap64 (by omega) (by omega)];omega
   rw[getB s (i+k) (by omega),show n-k=(n-(k+1))+1 by omega,List.take_succ_cons,List.all_cons]
   simp only[hlt,decide_true,cond_true,zA_j5,zA_j4,zA_j3,zA_j6,zA_j1,zA_j0,w1,idxS_lt (show i+k<s.size by omega),Option.bind_some,wrapS (show k<9223372036854775807 by omega),tail_loop m s i n hin hs M (k+1) (by omega) (by omega),contB]
   rw[show i+k+1=i+(k+1) by omega]
   generalize (s[i+k]).toNat=b
   by_cases h1:b<128
   ·    have e1:decide ((b:Int)<128)=true:=by simp;omega
        have e2:decide (128≤b)=false:=by simp;omega
        simp only[e1,e2,cond_true,Bool.false_and]
   ·    have e1:decide ((b:Int)<128)=false:=by simp;omega
        have e2:decide (128≤b)=true:=by simp;omega
        by_cases h2:191<b
        ·have e3:decide ((191:Int)<(b:Int))=true:=by simp;omega
         have e4:decide (b≤191)=false:=by simp;omega
         simp only[e1,e2,e3,e4,cond_true,cond_false,Bool.true_and,Bool.false_and]
        ·have e3:decide ((191:Int)<(b:Int))=false:=by simp;omega
         have e4:decide (b≤191)=true:=by simp;omega
         simp only[e1,e2,e3,e4,cond_true,cond_false,Bool.true_and]
  ·have:k=n:=by omega
   subst this
   simp[zA_j5,zA_j4,zA_j3,zA_j6,zA_j1,zA_j0]
theorem tail_eq (m:Nat) (hm:4≤m) (s:ByteArray) (hs:s.size<4611686018427387904) (i n:Nat) (hn:n≤3) (hi:i≤s.size):zA (m+1) s (i:Int) (n:Int)=some (tlU n (s.data.toList.drop i)):=by
 have w1:IntKind.wrap IntKind.i64 ((i:Int)+(n:Int))=((i+n:Nat):Int):=by rw[wrap64 (by omega) (by omega)];omega
 have hl:(s.data.toList.drop i).length=s.size-i:=by rw[List.length_drop,lenB]
 simp only[zA,w1,dlt,tlU,hl]
 by_cases h:s.size<i+n
 ·have e:decide (n≤s.size-i)=false:=by simp;omega
  simp only[h,e,decide_true,cond_true,Bool.false_and]
 ·have e:decide (n≤s.size-i)=true:=by simp;omega
  have:=tail_loop m s i n (by omega) hs (m+1) 0 (by omega) (by omega)
  rw[Nat.add_zero,Nat.sub_zero] at this
  simp only[h,e,decide_false,cond_false,Bool.true_and,zA_j5,zA_j4,zA_j3,zA_j6,zA_j1,zA_j0]
  exact this
theorem hd_idx (s:ByteArray) (i:Nat) (h:i<s.size):idxS s (i:Int)=some ((hdN (s.data.toList.drop i):Nat):Int):=by
 rw[idxS_lt h,getB s i h]
 rfl
theorem bN (b k:Nat):(((b:Nat):Int)==((k:Nat):Int))=decide (b=k):=by rw[Bool.eq_iff_iff];simp;omega
def badU (b h:Nat):Bool:=(decide (b=224)&&decide (h<160))||(decide (b=237)&&decide (159<h))||(decide (b=240)&&decide (h<144))||(decide (b=244)&&decide (143<h))
theorem utf_j4 (m:Nat) (rec1:ByteArray→Int→Option Bool) (s:ByteArray) (hs:s.size<4611686018427387904) (i b n:Nat) (hn:n≤3) (hi:i<s.size) (hb:b<128∨i+1<s.size):qN_j4 m rec1 s (i:Int) (b:Int) (n:Int)=bif badU b (hdN (s.data.toList.drop (i+1))) then some false else rec1 s ((i+n+1:Nat):Int):=by
 have q1:(((b:Nat):Int)==224)=decide (b=224):=bN b 224
 have q2:(((b:Nat):Int)==237)=decide (b=237):=bN b 237
 have q3:(((b:Nat):Int)==240)=decide (b=240):=bN b 240
 have q4:(((b:Nat):Int)==244)=decide (b=244):=bN b 244
 have w0:IntKind.wrap IntKind.i64 ((IntKind.wrap IntKind.i64 ((i:Int)+(n:Int)))+1)=((i+n+1:Nat):Int):=by
  have wa:IntKind.wrap IntKind.i64 ((i:Int)+(n:Int))=((i+n:Nat):Int):=by rw[wrap64 (by omega) (by omega)];omega
  rw[wa,wrapS (by omega)]
 have w1:IntKind.wrap IntKind.i64 ((i:Int)+1)=((i+1:Nat):Int):=wrapS (by omega)
 simp only[qN_j4,qN_j5,qN_j6,q1,q2,q3,q4,w0,w1,badU]
 by_cases hlt:i+1<s.size
 ·rw[hd_idx s (i+1) hlt]
  generalize hdN (s.data.toList.drop (i+1))=h
  have d1:decide (((h:Nat):Int)<160)=decide (h<160):=dlt (j:=160)
  have d2:decide ((159:Int)<((h:Nat):Int))=decide (159<h):=dlt (i:=159)
  have d3:decide (((h:Nat):Int)<144)=decide (h<144):=dlt (j:=144)
  have d4:decide ((143:Int)<((h:Nat):Int))=decide (143<h):=dlt (i:=143)
  simp only[Option.bind_some,d1,d2,d3,d4]
  cases decide (b=224)<;>cases decide (b=237)<;>cases decide (b=240)<;>cases decide (b=244)<;>cases decide (h<160)<;>cases decide (159<h)<;>cases decide (h<144)<;>cases decide (143<h)<;>rfl
 ·have hb':b<128:=by omega
  have c1:decide (b=224)=false:=by simp;omega
  have c2:decide (b=237)=false:=by simp;omega
  have c3:decide (b=240)=false:=by simp;omega
  have c4:decide (b=244)=false:=by simp;omega
  simp only[c1,c2,c3,c4,cond_false,Bool.false_and,Bool.or_false]
theorem utf_j3 (m:Nat) (hm:4≤m) (rec1:ByteArray→Int→Option Bool) (s:ByteArray) (hs:s.size<4611686018427387904) (i b n:Nat) (hn:n≤3) (hi:i<s.size) (hb:b<128∨1≤n):qN_j3 (m+1) rec1 s (i:Int) (b:Int) (n:Int)=bif tlU n (s.data.toList.drop (i+1)) then(bif badU b (hdN (s.data.toList.drop (i+1))) then some false else rec1 s ((i+n+1:Nat):Int)) else some false:=by
 have w1:IntKind.wrap IntKind.i64 ((i:Int)+1)=((i+1:Nat):Int):=wrapS (by omega)
 simp only[qN_j3,w1,tail_eq m hm s hs (i+1) n hn (by omega),Option.bind_some]
 cases ht:tlU n (s.data.toList.drop (i+1))
 ·simp only[Bool.not_false,cond_true,cond_false]
 ·have h1:i+1+n≤s.size:=by
   unfold tlU at ht
   have:=of_decide_eq_true (Bool.and_eq_true_iff.1 ht).1
   rw[List.length_drop,lenB] at this
   omega
  simp only[Bool.not_true,cond_true,cond_false,utf_j4 (m+1) rec1 s hs i b n hn hi (by omega)]
theorem utf_step (m:Nat) (hm:4≤m) (rec1:ByteArray→Int→Option Bool) (s:ByteArray) (hs:s.size<4611686018427387904) (i:Nat) (hi:i<s.size):qN_j2 (m+1) rec1 s (i:Int)=match okU (s[i]).toNat (s.data.toList.drop (i+1)) with
  |some n=>rec1 s ((i+n+1:Nat):Int)
  |none=>some false:=by
 have hlt:=(s[i]).toNat_lt
 simp only[qN_j2,idxS_lt hi,Option.bind_some]
 generalize (s[i]).toNat=b at hlt
 have t0:tlU 0 (s.data.toList.drop (i+1))=true:=by simp[tlU]
 have r:=utf_j3 m hm rec1 s hs i b
 have r0:=fun h=>r 0 (by omega) hi h
 have r1:=fun h=>r 1 (by omega) hi h
 have r2:=fun h=>r 2 (by omega) hi h
 have r3:=fun h=>r 3 (by omega) hi h
 rw[t0] at r0
 have d128:decide (((b:Nat):Int)<128)=decide (b<128):=dlt (j:=128)
 have d194:decide ((194:Int)≤((b:Nat):Int))=decide (194≤b):=dle (i:=194)
 have d223:decide (((b:Nat):Int)≤223)=decide (b≤223):=dle (j:=223)
 have d224:decide ((224:Int)≤((b:Nat):Int))=decide (224≤b):=dle (i:=224)
 have d239:decide (((b:Nat):Int)≤239)=decide (b≤239):=dle (j:=239)
 have d240:decide ((240:Int)≤((b:Nat):Int))=decide (240≤b):=dle (i:=240)
 have d244:decide (((b:Nat):Int)≤244)=decide (b≤244):=dle (j:=244)
 simp only[d128,d194,d223,d224,d239,d240,d244]
 unfold okU
 by_cases h1:b<128
 ·have hr:=r0 (.inl h1)
  have hbad:badU b (hdN (s.data.toList.drop (i+1)))=false:=by
   simp only[badU,show decide (b=224)=false by simp;omega,show decide (b=237)=false by simp;omega,show decide (b=240)=false by simp;omega,show decide (b=244)=false by simp;omega,Bool.false_and,Bool.or_false]
  rw[if_pos h1]
  simp only[h1,decide_true,cond_true]
  rw[show (0:Int)=((0:Nat):Int) from rfl,hr,hbad]
  rfl
 rw[if_neg h1]
 simp only[h1,decide_false,cond_false,qN_j7,qN_j8,qN_j9,d224,d239,d240,d244]
 by_cases h2:194≤b∧b≤223
 ·have hr:=r1 (.inr (by omega))
  have hbad:badU b (hdN (s.data.toList.drop (i+1)))=false:=by
   simp only[badU,show decide (b=224)=false by simp;omega,show decide (b=237)=false by simp;omega,show decide (b=240)=false by simp;omega,show decide (b=244)=false by simp;omega,Bool.false_and,Bool.or_false]
  rw[if_pos h2]
  simp only[h2.1,h2.2,decide_true,cond_true]
  rw[show (1:Int)=((1:Nat):Int) from rfl,hr,hbad]
  cases tlU 1 (s.data.toList.drop (i+1))<;>rfl
 rw[if_neg h2]
 have e2:(bif decide (194≤b) then decide (b≤223) else false)=false:=by
  by_cases h:194≤b
  ·simp only[h,decide_true,cond_true];simp;omega
  ·simp[h]
 have k2:∀{X:Type} (f:Bool→X),(bif decide (194≤b) then f (decide (b≤223)) else f false)=f false:=fun f=>by
  by_cases h:194≤b
  ·have:decide (b≤223)=false:=by simp;omega
   simp only[h,decide_true,cond_true,this]
  ·simp only[h,decide_false,cond_false]
 have k3:=fun {X:Type} (f:Bool→X) (h:¬(224≤b∧b≤239))=>show (bif decide (224≤b) then f (decide (b≤239)) else f false)=f false by
  by_cases h':224≤b
  ·have:decide (b≤239)=false:=by simp;omega
   simp only[h',decide_true,cond_true,this]
  ·simp only[h',decide_false,cond_false]
 have k4:=fun {X:Type} (f:Bool→X) (h:¬(240≤b∧b≤244))=>show (bif decide (240≤b) then f (decide (b≤244)) else f false)=f false by
  by_cases h':240≤b
  ·have:decide (b≤244)=false:=by simp;omega
   simp only[h',decide_true,cond_true,this]
  ·simp only[h',decide_false,cond_false]
 by_cases h3:224≤b∧b≤239
 ·have hr:=r2 (.inr (by omega))
  have hg:decide (194≤b)=true:=by simp;omega
  have hg2:decide (b≤223)=false:=by simp;omega
  rw[if_pos h3]
  simp only[hg,hg2,h3.1,h3.2,decide_true,cond_true,cond_false]
  rw[show (2:Int)=((2:Nat):Int) from rfl,hr]
  simp only[badU,show decide (b=240)=false by simp;omega,show decide (b=244)=false by simp;omega,Bool.false_and,Bool.or_false]
  generalize hdN (s.data.toList.drop (i+1))=h
  cases tlU 2 (s.data.toList.drop (i+1))
  ·rw[if_neg (by simp)];rfl
  ·by_cases hb1:b=224∧h<160
   ·    rw[if_neg (by simp;omega)]
        simp only[hb1.1,hb1.2,decide_true,Bool.true_and,Bool.true_or,cond_true]
   ·    by_cases hb2:b=237∧159<h
        ·rw[if_neg (by simp;omega)]
         simp only[hb2.1,hb2.2,decide_true,Bool.true_and,Bool.or_true,cond_true]
        ·rw[if_pos ⟨rfl,hb1,hb2⟩]
         have e1:(decide (b=224)&&decide (h<160))=false:=by rw[Bool.and_eq_false_iff];simp;omega
         have e3:(decide (b=237)&&decide (159<h))=false:=by rw[Bool.and_eq_false_iff];simp;omega
         simp only[e1,e3,Bool.or_false,cond_true,cond_false]
 rw[if_neg h3]
 by_cases h4:240≤b∧b≤244
 ·have hr:=r3 (.inr (by omega))
  have hg:decide (194≤b)=true:=by simp;omega
  have hg2:decide (b≤223)=false:=by simp;omega
  have hg3:decide (224≤b)=true:=by simp;omega
  have hg4:decide (b≤239)=false:=by simp;omega
  rw[if_pos h4]
  simp only[hg,hg2,hg3,hg4,h4.1,h4.2,decide_true,cond_true,cond_false]
  rw[show (3:Int)=((3:Nat):Int) from rfl,hr]
  simp only[badU,show decide (b=224)=false by simp;omega,show decide (b=237)=false by simp;omega,Bool.false_and,Bool.false_or]
  generalize hdN (s.data.toList.drop (i+1))=h
  cases tlU 3 (s.data.toList.drop (i+1))
  ·rw[if_neg (by simp)];rfl
  ·by_cases hb1:b=240∧h<144
   ·    rw[if_neg (by simp;omega)]
        simp only[hb1.1,hb1.2,decide_true,Bool.true_and,Bool.true_or,cond_true]
   ·    by_cases hb2:b=244∧143<h
        ·rw[if_neg (by simp;omega)]
         simp only[hb2.1,hb2.2,decide_true,Bool.true_and,Bool.or_true,cond_true]
        ·rw[if_pos ⟨rfl,hb1,hb2⟩]
         have e1:(decide (b=240)&&decide (h<144))=false:=by rw[Bool.and_eq_false_iff];simp;omega
         have e3:(decide (b=244)&&decide (143<h))=false:=by rw[Bool.and_eq_false_iff];simp;omega
         simp only[e1,e3,Bool.or_false,cond_true,cond_false]
 rw[if_neg h4]
 by_cases g1:194≤b<;>by_cases g2:224≤b<;>by_cases g3:240≤b
 all_goals by_cases g4:b≤223<;>by_cases g5:b≤239<;>by_cases g6:b≤244
 all_goals first|(exfalso;omega)|(simp only[g1,g2,g3,g4,g5,g6,decide_true,decide_false,cond_true,cond_false])
theorem utf_loop (m:Nat) (hm:4≤m) (s:ByteArray) (hs:s.size<4611686018427387904):∀(M i k:Nat),i≤s.size→s.size-i<M→s.size-i≤k→qN_l1 (m+1) M s (i:Int)=some (Lib.validGoD k (s.data.toList.drop i))
 |0,i,_,_,h,_=>by omega
 |M+    1,i,k,hi,h,hk=>by
  simp only[qN_l1,dlt]
  by_cases hlt:i<s.size
  ·obtain⟨  k,rfl⟩:∃q,k=q+1:=⟨k-1,by omega⟩
   simp only[hlt,decide_true,cond_true]
   rw[utf_step m hm _ s hs i hlt,getB s i hlt,validGo_cons]
   cases e:okU (s[i]).toNat (s.data.toList.drop (i+1)) with
   |none=>rfl
   |    some n=>
        have hn:  n≤(s.data.toList.drop (i+1)).length:=by
         unfold okU at e
         split at e
         ·simp only[Option.some.injEq] at e;omega
         ·split   at e
          · split at e
            ·rename_i h;have:=(tl1 _).1 h;simp only[Option.some.injEq] at e;omega
            ·cases e
          · split at e
            ·  split at e
               ·rename_i h;have:=(tl2 _).1 h.1;simp only[Option.some.injEq] at e;omega
               ·cases e
            ·  split at e
               ·  split at e
                  ·rename_i h;have:=(tl3 _).1 h.1;simp only[Option.some.injEq] at e;omega
                  ·cases e
               ·cases e
        rw[List.length_drop,lenB] at hn
        show qN_l1 (m+1) M s ((i+n+1:Nat):Int)=_
        rw[utf_loop m hm s hs M (i+n+1) k (by omega) (by omega) (by omega)]
        show _=some (Lib.validGoD k (List.drop n (List.drop (i+1) s.data.toList)))
        rw[List.drop_drop,show i+1+n=i+n+1 by omega]
  ·rw[List.drop_eq_nil_of_le (by rw[lenB];omega),validGo_nil]
   simp only[hlt,decide_false,cond_false]
   simp[qN_j10]
theorem utf_eq (m:Nat) (s:ByteArray) (hs:s.size<4611686018427387904) (hm:s.size+5≤m):qN (m+1) s=some (Lib.validD s.data.toList):=by
 obtain⟨m,rfl⟩:∃q,m=q+1:=⟨m-1,by omega⟩
 have:=utf_loop m (by omega) s hs (m+2) 0 s.size (by omega) (by omega) (by omega)
 rw[List.drop_zero] at this
 unfold Lib.validD
 rw[lenB]
 exact this
end Go.Proofs.YtpifchdngodgjaaGreatDoor
namespace Go.Proofs.YtpifchdngodgjaaGreatDoor
open Go.Am
def eqb (a b:ByteArray):Bool:=a.toList==b.toList
theorem eqb_iff (a b:ByteArray):eqb a b=true↔a=b:=by
 unfold eqb
 rw[ByteArray.toList_eq,ByteArray.toList_eq,beq_iff_eq]
 refine⟨fun h=>?_,fun h=>by rw[h]⟩
 cases a with|mk x=>cases b with|mk y=>
 have:x=y:=Array.ext' h
 rw[this]
theorem eqb_comm (a b:ByteArray):eqb a b=eqb b a:=by
 rw[Bool.eq_iff_iff,eqb_iff,eqb_iff]
 exact eq_comm
theorem eqb_bb (a b:ByteArray):eqb a b=(a==b):=by rw[Bool.eq_iff_iff,eqb_iff,ba_beq_iff]
theorem mget_put (s t:ByteArray) (v:Dt):∀es:List Dt,mget (mput es s v) t=bif s==t then some v else mget es t
 | []=>by
   simp only[mput,mget]
   rfl
 | e::r=>by
   simp only[mput]
   cases h:(e.S 0)==s
   ·simp only[cond_false,mget,mget_put s t v r]
    cases h2:(e.S 0)==t
    ·rfl
    ·   have:(s==t)=false:=ba_beq_ne fun e1=>by
         subst e1
         rw[h] at h2;cases h2
        rw[this];rfl
   ·have e1:=(ba_beq_iff _ _).1 h
    simp only[cond_true,mget,e1]
    show (bif s==t then some v else mget r t)=bif s==t then some v else(bif s==t then some (e.fld 1) else mget r t)
    cases (s==t)<;>rfl
def MapS (mp:List Dt) (seen:List ByteArray):Prop:=∀s,(mgetD mp s (.bool false)).toBool=seen.any (eqb s)
theorem mapS_nil:MapS [] []:=fun s=>rfl
theorem mapS_put {mp:List Dt} {seen:List ByteArray} (h:MapS mp seen) (s:ByteArray):MapS (mput mp s (.bool true)) (seen++[s]):=fun t=>by
 have:=h t
 unfold mgetD at this ⊢
 rw[mget_put,List.any_append,←this]
 simp only[List.any_cons,List.any_nil,Bool.or_false]
 rw[eqb_comm t s,eqb_bb]
 cases (s==t)
 ·simp
 ·simp[Dt.toBool]
end Go.Proofs.YtpifchdngodgjaaGreatDoor
