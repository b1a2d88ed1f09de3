/- Names, in plain Lean.
UTF-8:the library's decoder and the reference's test agree,in plain Lean.
UTF-8:the reference's test is the library's.
Sets of strings as maps:what a map of 'true' holds is what was put in. -/
import Derived.Test.YtjnkagkoolbodaaGreatDoorSh
import Derived.Test.YtjnkagkoolbodaaGreatDoorMA
import Derived.Lib.MapLaws
import Derived.Lib.ValidU
set_option linter.unusedVariables false
set_option linter.unusedSimpArgs false
namespace Go.Proofs.YtjnkagkoolbodaaGreatDoor
open Go.Am
def okB (c:UInt8):Bool:=!(decide ((c.toNat:Int)<33)||decide ((126:Int)<c.toNat)||((c.toNat:Int)==46))
def nmL (l:List UInt8):Bool:=match l with
 | []=>false
 |c::r=>decide (r.length<32)&&!((c.toNat:Int)==36)&&(c::r).all okB
def nm (s:ByteArray):Bool:=nmL s.data.toList
theorem Qw (s:ByteArray) (i:Nat) (h:i<s.size):s.data.toList.drop i=s[i]::s.data.toList.drop (i+1):=by
 rw[List.drop_eq_getElem_cons (show i<s.data.toList.length by simpa using h)]
 rfl
theorem DI (s:ByteArray):s.data.toList.length=s.size:=by rw[Array.length_toList];rfl
theorem Ew (m:Nat) (s:ByteArray) (hs:s.size<9223372036854775807):∀(M i:Nat),i≤s.size→s.size-i<M→BK m M s (i:Int)=some ((s.data.toList.drop i).all okB)
 |0,i,_,h=>by omega
 |M+1,i,hi,h=>by
  simp only[BK,dlt]
  by_cases hlt:i<s.size
  ·rw[Qw s i hlt]
   simp only[hlt,decide_true,cond_true,BH,rz,BI,BJ,BL,BM,rA,ig hlt,Option.bind_some,aF (show i<9223372036854775807 by omega),Ew m s hs M (i+1) (by omega) (by omega),List.all_cons,okB]
   cases decide (((s[i]).toNat:Int)<33)<;>cases decide ((126:Int)<((s[i]).toNat:Int))<;>cases (((s[i]).toNat:Int)==46)<;>rfl
  ·have:i=s.size:=by omega
   subst this
   rw[List.drop_eq_nil_of_le (by rw[DI];omega)]
   simp[BH,rz,BI,BJ,BL,BM,rA]
theorem aa1 (s:ByteArray) (h1:1≤s.size) (h2:s.size≤32):nm s=(!(((s[0]).toNat:Int)==36)&&s.data.toList.all okB):=by
 have e:=Qw s 0 (by omega)
 have hl:(s.data.toList.drop 1).length<32:=by rw[List.length_drop,DI];omega
 rw[List.drop_zero] at e
 unfold nm
 rw[e]
 simp only[Nat.zero_add] at hl ⊢
 unfold nmL
 simp only[hl,decide_true,Bool.true_and]
theorem aa2 (s:ByteArray) (h:s.size<1):nm s=false:=by
 unfold nm
 have:s.data.toList=[]:=List.eq_nil_of_length_eq_zero (by rw[DI];omega)
 rw[this];rfl
theorem aqR (s:ByteArray) (h:32<s.size):nm s=false:=by
 have e:=Qw s 0 (by omega)
 have hl:¬(s.data.toList.drop 1).length<32:=by rw[List.length_drop,DI];omega
 rw[List.drop_zero] at e
 unfold nm
 rw[e]
 simp only[Nat.zero_add]
 unfold nmL
 simp only[hl,decide_false,Bool.false_and]
theorem lS (m:Nat) (hm:33≤m) (s:ByteArray):zE (m+1) s=some (nm s):=by
 simp only[zE]
 by_cases h1:s.size<1
 ·have:decide ((s.size:Int)<1)=true:=by simp;omega
  simp only[this,cond_true,BH,rz,BI,BJ,BL,BM,rA,aa2 s h1]
 have e1:decide ((s.size:Int)<1)=false:=by simp;omega
 by_cases h2:32<s.size
 ·have:decide ((32:Int)<(s.size:Int))=true:=by simp;omega
  simp only[e1,this,cond_true,cond_false,BH,rz,BI,BJ,BL,BM,rA,aqR s h2]
 have e2:decide ((32:Int)<(s.size:Int))=false:=by simp;omega
 have hx:=ig (s:=s) (i:=0) (by omega)
 have hl:=Ew m s (by omega) (m+1) 0 (by omega) (by omega)
 rw[List.drop_zero] at hl
 have hl':BK m (Nat.succ m) s 0=some (s.data.toList.all okB):=hl
 simp only[e1,e2,cond_false,show idxS s 0=_ from hx,Option.bind_some,BH,rz,BI,BJ,BL,BM,rA,hl',aa1 s (by omega) (by omega)]
 cases (((s[0]).toNat:Int)==36)<;>rfl
end Go.Proofs.YtjnkagkoolbodaaGreatDoor
namespace Go.Proofs.YtjnkagkoolbodaaGreatDoor
open Go.Am
def Ey (b:UInt8):Bool:=decide (128≤b.toNat)&&decide (b.toNat≤191)
def tlU (n:Nat) (r:List UInt8):Bool:=decide (n≤r.length)&&(r.take n).all Ey
def hdN (r:List UInt8):Nat:=(r.getD 0 0).toNat
def okU (b:Nat) (r:List UInt8):Option Nat:=
 if b<128 then some 0
 else if 194≤b∧b≤223 then(if tlU 1 r=true then some 1 else none)
 else if 224≤b∧b≤239 then(if tlU 2 r=true∧¬(b=224∧hdN r<160)∧¬(b=237∧159<hdN r) then some 2 else none)
 else if 240≤b∧b≤244 then(if tlU 3 r=true∧¬(b=240∧hdN r<144)∧¬(b=244∧143<hdN r) then some 3 else none)
 else none
theorem tl1 (r:List UInt8):tlU 1 r=true↔1≤r.length∧128≤(r.getD 0 0).toNat∧(r.getD 0 0).toNat≤191:=by
 unfold tlU Ey
 match r with
 | []=>simp
 |a::r=>simp
theorem tl2 (r:List UInt8):tlU 2 r=true↔2≤r.length∧(128≤(r.getD 0 0).toNat∧(r.getD 0 0).toNat≤191)∧128≤(r.getD 1 0).toNat∧(r.getD 1 0).toNat≤191:=by
 unfold tlU Ey
 match r with
 | []=>simp
 | [a]=>simp
 |a::b::r=>simp
theorem tl3 (r:List UInt8):tlU 3 r=true↔3≤r.length∧(128≤(r.getD 0 0).toNat∧(r.getD 0 0).toNat≤191)∧(128≤(r.getD 1 0).toNat∧(r.getD 1 0).toNat≤191)∧128≤(r.getD 2 0).toNat∧(r.getD 2 0).toNat≤191:=by
 unfold tlU Ey
 match r with
 | []=>simp
 | [a]=>simp
 | [a,b]=>simp
 |a::b::c::r=>simp
theorem aqS (n b0 b1 b2 b3:Nat) (k0:b0<256) (k1:b1<256) (k2:b2<256) (k3:b3<256) (k:Nat) (h:(b0<128∧k=0)∨(194≤b0∧b0≤223∧1<n∧128≤b1∧b1≤191∧k=1)∨(224≤b0∧b0≤239∧2<n∧(128≤b1∧b1≤191)∧(128≤b2∧b2≤191)∧¬(b0=224∧b1<160)∧¬(b0=237∧159<b1)∧k=2)∨(240≤b0∧b0≤244∧3<n∧(128≤b1∧b1≤191)∧(128≤b2∧b2≤191)∧(128≤b3∧b3≤191)∧¬(b0=240∧b1<144)∧¬(b0=244∧143<b1)∧k=3)):
  ¬((Lib.decodeN n b0 b1 b2 b3).1=65533∧(Lib.decodeN n b0 b1 b2 b3).2=1)∧(Lib.decodeN n b0 b1 b2 b3).2=k+1:=by
 rcases h with⟨h1,rfl⟩| ⟨h1,h2,h3,h4,h5,rfl⟩| ⟨h1,h2,h3,h4,h5,h6,h7,rfl⟩| ⟨h1,h2,h3,h4,h5,h6,h7,h8,rfl⟩
 ·unfold Lib.decodeN
  rw[if_pos h1]
  exact⟨fun h=>by have:=h.1;dsimp only at this;omega,rfl⟩
 ·unfold Lib.decodeN
  rw[if_neg (by omega),if_pos (by omega),if_pos (by omega)]
  exact⟨fun h=>by have:=h.2;dsimp only at this;omega,rfl⟩
 ·unfold Lib.decodeN
  rw[if_neg (by omega),if_neg (by omega),if_pos (by omega),if_pos (by omega)]
  exact⟨fun h=>by have:=h.2;dsimp only at this;omega,rfl⟩
 ·unfold Lib.decodeN
  rw[if_neg (by omega),if_neg (by omega),if_neg (by omega),if_pos (by omega),if_pos (by omega)]
  exact⟨fun h=>by have:=h.2;dsimp only at this;omega,rfl⟩
theorem aqT (n b0 b1 b2 b3:Nat) (k0:b0<256) (k1:b1<256) (k2:b2<256) (k3:b3<256) (h1:¬b0<128) (h2:¬(194≤b0∧b0≤223∧1<n∧128≤b1∧b1≤191)) (h3:¬(224≤b0∧b0≤239∧2<n∧(128≤b1∧b1≤191)∧(128≤b2∧b2≤191)∧¬(b0=224∧b1<160)∧¬(b0=237∧159<b1))) (h4:¬(240≤b0∧b0≤244∧3<n∧(128≤b1∧b1≤191)∧(128≤b2∧b2≤191)∧(128≤b3∧b3≤191)∧¬(b0=240∧b1<144)∧¬(b0=244∧143<b1))):
  Lib.decodeN n b0 b1 b2 b3=(65533,1):=by
 unfold Lib.decodeN
 rw[if_neg h1]
 split
 ·rw[if_neg (by omega)]
 ·split
  ·rw[if_neg (by omega)]
  ·split
   ·rw[if_neg (by omega)]
   ·rfl
theorem aa3 (b:UInt8) (r:List UInt8):(∀n,okU b.toNat r=some n→¬((Lib.decodeL (b::r)).1=65533∧(Lib.decodeL (b::r)).2=1)∧(Lib.decodeL (b::r)).2=n+1)∧(okU b.toNat r=none→(Lib.decodeL (b::r)).1=65533∧(Lib.decodeL (b::r)).2=1):=by
 rw[Lib.decodeL_N]
 have k0:=b.toNat_lt
 have k1:=(r.getD 0 0).toNat_lt
 have k2:=(r.getD 1 0).toNat_lt
 have k3:=(r.getD 2 0).toNat_lt
 have e0:((b::r).getD 0 0)=b:=rfl
 have e1:((b::r).getD 1 0)=r.getD 0 0:=rfl
 have e2:((b::r).getD 2 0)=r.getD 1 0:=rfl
 have e3:((b::r).getD 3 0)=r.getD 2 0:=rfl
 rw[e0,e1,e2,e3,List.length_cons]
 have t1:=tl1 r
 have t2:=tl2 r
 have t3:=tl3 r
 unfold okU hdN
 generalize tlU 1 r=u1 at*
 generalize tlU 2 r=u2 at*
 generalize tlU 3 r=u3 at*
 generalize (r.getD 0 0).toNat=c1 at*
 generalize (r.getD 1 0).toNat=c2 at*
 generalize (r.getD 2 0).toNat=c3 at*
 generalize b.toNat=c0 at*
 refine⟨fun n hn=>?_,fun hn=>?_⟩
 ·refine aqS _ _ _ _ _ k0 k1 k2 k3 n ?_
  split at hn
  ·simp only[Option.some.injEq] at hn;omega
  ·split  at hn
   ·    split at hn
        ·rename_i h;have:=t1.1 h;simp only[Option.some.injEq] at hn;omega
        ·cases hn
   ·    split at hn
        ·split at hn
         ·rename_i h;have:=t2.1 h.1;simp only[Option.some.injEq] at hn;omega
         ·cases hn
        ·split at hn
         ·split at hn
          ·rename_i h;have:=t3.1 h.1;simp only[Option.some.injEq] at hn;omega
          ·cases hn
         ·cases hn
 ·have key:Lib.decodeN (r.length+1) c0 c1 c2 c3=(65533,1):=by
   refine aqT _ _ _ _ _ k0 k1 k2 k3 ?_ ?_ ?_ ?_<;>intro h
   ·rw[if_pos h] at hn;cases hn
   ·rw[if_neg (by omega),if_pos (by omega),if_pos (t1.2 (by omega))] at hn;cases hn
   ·rw[if_neg (by omega),if_neg (by omega),if_pos (by omega),if_pos ⟨t2.2 (by omega),by omega,by omega⟩] at hn;cases hn
   ·rw[if_neg (by omega),if_neg (by omega),if_neg (by omega),if_pos (by omega),if_pos ⟨t3.2 (by omega),by omega,by omega⟩] at hn;cases hn
  rw[key]
  exact⟨rfl,rfl⟩
theorem Il (k:Nat) (b:UInt8) (r:List UInt8):Lib.validGoD (k+1) (b::r)=match okU b.toNat r with
  |some n=>Lib.validGoD k (r.drop n)
  |none=>false:=by
 obtain⟨h1,h2⟩:=aa3 b r
 have hd:Lib.validGoD (k+1) (b::r)=if(b::r:List UInt8)=[] then true else if(Lib.decodeL (b::r)).1=65533∧(Lib.decodeL (b::r)).2=1 then false else Lib.validGoD k ((b::r).drop (Lib.decodeL (b::r)).2):=rfl
 rw[hd,if_neg (by simp)]
 cases e:okU b.toNat r with
 |none=>
  rw[if_pos (h2 e)]
 |some n=>
  obtain⟨h3,h4⟩:=h1 n e
  rw[if_neg h3,h4,List.drop_succ_cons]
theorem Kr:∀k,Lib.validGoD k []=true
 |0=>rfl
 |k+1=>by unfold Lib.validGoD;rw[if_pos rfl]
end Go.Proofs.YtjnkagkoolbodaaGreatDoor
namespace Go.Proofs.YtjnkagkoolbodaaGreatDoor
open Go.Am
theorem Ez (m:Nat) (s:ByteArray) (i n:Nat) (hin:i+n≤s.size) (hs:s.size<4611686018427387904):∀(M k:Nat),k≤n→n-k<M→GX m M s (i:Int) (n:Int) (k:Int)=some (((s.data.toList.drop (i+k)).take (n-k)).all Ey)
 |0,k,_,h=>by omega
 |M+    1,k,hk,h=>by
  simp only[GX,dlt]
  by_cases hlt:k<n
  ·have w1:IntKind.wrap IntKind.i64 ((i:Int)+(k:Int))=((i+k:Nat):Int):=by rw[wrap64 (by omega) (by omega)];omega
   rw[Qw s (i+k) (by omega),show n-k=(n-(k+1))+1 by omega,List.take_succ_cons,List.all_cons]
   simp only[hlt,decide_true,cond_true,N7,GV,N8,N9,Oa,Oc,w1,ig (show i+k<s.size by omega),Option.bind_some,aF (show k<9223372036854775807 by omega),Ez m s i n hin hs M (k+1) (by omega) (by omega),Ey]
   rw[show i+k+1=i+(k+1) by omega]
   generalize (s[i+k]).toNat=b
   by_cases h1:b<128
   ·    have e1:decide ((b:Int)<128)=true:=by simp;omega
        have e2:decide (128≤b)=false:=by simp;omega
        simp only[e1,e2,cond_true,Bool.false_and]
   ·    have e1:decide ((b:Int)<128)=false:=by simp;omega
        have e2:decide (128≤b)=true:=by simp;omega
        by_cases h2:191<b
        ·have e3:decide ((191:Int)<(b:Int))=true:=by simp;omega
         have e4:decide (b≤191)=false:=by simp;omega
         simp only[e1,e2,e3,e4,cond_true,cond_false,Bool.true_and,Bool.false_and]
        ·have e3:decide ((191:Int)<(b:Int))=false:=by simp;omega
         have e4:decide (b≤191)=true:=by simp;omega
         simp only[e1,e2,e3,e4,cond_true,cond_false,Bool.true_and]
  ·have:k=n:=by omega
   subst this
   simp[N7,GV,N8,N9,Oa,Oc]
theorem aqU (m:Nat) (hm:4≤m) (s:ByteArray) (hs:s.size<4611686018427387904) (i n:Nat) (hn:n≤3) (hi:i≤s.size):zX (m+1) s (i:Int) (n:Int)=some (tlU n (s.data.toList.drop i)):=by
 have w1:IntKind.wrap IntKind.i64 ((i:Int)+(n:Int))=((i+n:Nat):Int):=by rw[wrap64 (by omega) (by omega)];omega
 have hl:(s.data.toList.drop i).length=s.size-i:=by rw[List.length_drop,DI]
 simp only[zX,w1,dlt,tlU,hl]
 by_cases h:s.size<i+n
 ·have e:decide (n≤s.size-i)=false:=by simp;omega
  simp only[h,e,decide_true,cond_true,Bool.false_and]
 ·have e:decide (n≤s.size-i)=true:=by simp;omega
  have:=Ez m s i n (by omega) hs (m+1) 0 (by omega) (by omega)
  rw[Nat.add_zero,Nat.sub_zero] at this
  simp only[h,e,decide_false,cond_false,Bool.true_and,N7,GV,N8,N9,Oa,Oc]
  exact this
theorem ayt (s:ByteArray) (i:Nat) (h:i<s.size):idxS s (i:Int)=some ((hdN (s.data.toList.drop i):Nat):Int):=by
 rw[ig h,Qw s i h]
 rfl
theorem bN (b k:Nat):(((b:Nat):Int)==((k:Nat):Int))=decide (b=k):=by rw[Bool.eq_iff_iff];simp;omega
def Im (b h:Nat):Bool:=(decide (b=224)&&decide (h<160))||(decide (b=237)&&decide (159<h))||(decide (b=240)&&decide (h<144))||(decide (b=244)&&decide (143<h))
theorem ayu (m:Nat) (rec1:ByteArray→Int→Option Bool) (s:ByteArray) (hs:s.size<4611686018427387904) (i b n:Nat) (hn:n≤3) (hi:i<s.size) (hb:b<128∨i+1<s.size):VL m rec1 s (i:Int) (b:Int) (n:Int)=bif Im b (hdN (s.data.toList.drop (i+1))) then some false else rec1 s ((i+n+1:Nat):Int):=by
 have q1:(((b:Nat):Int)==224)=decide (b=224):=bN b 224
 have q2:(((b:Nat):Int)==237)=decide (b=237):=bN b 237
 have q3:(((b:Nat):Int)==240)=decide (b=240):=bN b 240
 have q4:(((b:Nat):Int)==244)=decide (b=244):=bN b 244
 have w0:IntKind.wrap IntKind.i64 ((IntKind.wrap IntKind.i64 ((i:Int)+(n:Int)))+1)=((i+n+1:Nat):Int):=by
  have wa:IntKind.wrap IntKind.i64 ((i:Int)+(n:Int))=((i+n:Nat):Int):=by rw[wrap64 (by omega) (by omega)];omega
  rw[wa,aF (by omega)]
 have w1:IntKind.wrap IntKind.i64 ((i:Int)+1)=((i+1:Nat):Int):=aF (by omega)
 simp only[VL,cZ,ajm,q1,q2,q3,q4,w0,w1,Im]
 by_cases hlt:i+1<s.size
 ·rw[ayt s (i+1) hlt]
  generalize hdN (s.data.toList.drop (i+1))=h
  have d1:decide (((h:Nat):Int)<160)=decide (h<160):=dlt (j:=160)
  have d2:decide ((159:Int)<((h:Nat):Int))=decide (159<h):=dlt (i:=159)
  have d3:decide (((h:Nat):Int)<144)=decide (h<144):=dlt (j:=144)
  have d4:decide ((143:Int)<((h:Nat):Int))=decide (143<h):=dlt (i:=143)
  simp only[Option.bind_some,d1,d2,d3,d4]
  cases decide (b=224)<;>cases decide (b=237)<;>cases decide (b=240)<;>cases decide (b=244)<;>cases decide (h<160)<;>cases decide (159<h)<;>cases decide (h<144)<;>cases decide (143<h)<;>rfl
 ·have hb':b<128:=by omega
  have c1:decide (b=224)=false:=by simp;omega
  have c2:decide (b=237)=false:=by simp;omega
  have c3:decide (b=240)=false:=by simp;omega
  have c4:decide (b=244)=false:=by simp;omega
  simp only[c1,c2,c3,c4,cond_false,Bool.false_and,Bool.or_false]
theorem ayv (m:Nat) (hm:4≤m) (rec1:ByteArray→Int→Option Bool) (s:ByteArray) (hs:s.size<4611686018427387904) (i b n:Nat) (hn:n≤3) (hi:i<s.size) (hb:b<128∨1≤n):Ce (m+1) rec1 s (i:Int) (b:Int) (n:Int)=bif tlU n (s.data.toList.drop (i+1)) then(bif Im b (hdN (s.data.toList.drop (i+1))) then some false else rec1 s ((i+n+1:Nat):Int)) else some false:=by
 have w1:IntKind.wrap IntKind.i64 ((i:Int)+1)=((i+1:Nat):Int):=aF (by omega)
 simp only[Ce,w1,aqU m hm s hs (i+1) n hn (by omega),Option.bind_some]
 cases ht:tlU n (s.data.toList.drop (i+1))
 ·simp only[Bool.not_false,cond_true,cond_false]
 ·have h1:i+1+n≤s.size:=by
   unfold tlU at ht
   have:=of_decide_eq_true (Bool.and_eq_true_iff.1 ht).1
   rw[List.length_drop,DI] at this
   omega
  simp only[Bool.not_true,cond_true,cond_false,ayu (m+1) rec1 s hs i b n hn hi (by omega)]
theorem aa4 (m:Nat) (hm:4≤m) (rec1:ByteArray→Int→Option Bool) (s:ByteArray) (hs:s.size<4611686018427387904) (i:Nat) (hi:i<s.size):VQ (m+1) rec1 s (i:Int)=match okU (s[i]).toNat (s.data.toList.drop (i+1)) with
  |some n=>rec1 s ((i+n+1:Nat):Int)
  |none=>some false:=by
 have hlt:=(s[i]).toNat_lt
 simp only[VQ,ig hi,Option.bind_some]
 generalize (s[i]).toNat=b at hlt
 have t0:tlU 0 (s.data.toList.drop (i+1))=true:=by simp[tlU]
 have r:=ayv m hm rec1 s hs i b
 have r0:=fun h=>r 0 (by omega) hi h
 have r1:=fun h=>r 1 (by omega) hi h
 have r2:=fun h=>r 2 (by omega) hi h
 have r3:=fun h=>r 3 (by omega) hi h
 rw[t0] at r0
 have d128:decide (((b:Nat):Int)<128)=decide (b<128):=dlt (j:=128)
 have d194:decide ((194:Int)≤((b:Nat):Int))=decide (194≤b):=dle (i:=194)
 have d223:decide (((b:Nat):Int)≤223)=decide (b≤223):=dle (j:=223)
 have d224:decide ((224:Int)≤((b:Nat):Int))=decide (224≤b):=dle (i:=224)
 have d239:decide (((b:Nat):Int)≤239)=decide (b≤239):=dle (j:=239)
 have d240:decide ((240:Int)≤((b:Nat):Int))=decide (240≤b):=dle (i:=240)
 have d244:decide (((b:Nat):Int)≤244)=decide (b≤244):=dle (j:=244)
 simp only[d128,d194,d223,d224,d239,d240,d244]
 unfold okU
 by_cases h1:b<128
 ·have hr:=r0 (.inl h1)
  have hbad:Im b (hdN (s.data.toList.drop (i+1)))=false:=by
   simp only[Im,show decide (b=224)=false by simp;omega,show decide (b=237)=false by simp;omega,show decide (b=240)=false by simp;omega,show decide (b=244)=false by simp;omega,Bool.false_and,Bool.or_false]
  rw[if_pos h1]
  simp only[h1,decide_true,cond_true]
  rw[show (0:Int)=((0:Nat):Int) from rfl,hr,hbad]
  rfl
 rw[if_neg h1]
 simp only[h1,decide_false,cond_false,VP,VO,VN,d224,d239,d240,d244]
 by_cases h2:194≤b∧b≤223
 ·have hr:=r1 (.inr (by omega))
  have hbad:Im b (hdN (s.data.toList.drop (i+1)))=false:=by
   simp only[Im,show decide (b=224)=false by simp;omega,show decide (b=237)=false by simp;omega,show decide (b=240)=false by simp;omega,show decide (b=244)=false by simp;omega,Bool.false_and,Bool.or_false]
  rw[if_pos h2]
  simp only[h2.1,h2.2,decide_true,cond_true]
  rw[show (1:Int)=((1:Nat):Int) from rfl,hr,hbad]
  cases tlU 1 (s.data.toList.drop (i+1))<;>rfl
 rw[if_neg h2]
 have e2:(bif decide (194≤b) then decide (b≤223) else false)=false:=by
  by_cases h:194≤b
  ·simp only[h,decide_true,cond_true];simp;omega
  ·simp[h]
 have k2:∀{X:Type} (f:Bool→X),(bif decide (194≤b) then f (decide (b≤223)) else f false)=f false:=fun f=>by
  by_cases h:194≤b
  ·have:decide (b≤223)=false:=by simp;omega
   simp only[h,decide_true,cond_true,this]
  ·simp only[h,decide_false,cond_false]
 have k3:=fun {X:Type} (f:Bool→X) (h:¬(224≤b∧b≤239))=>show (bif decide (224≤b) then f (decide (b≤239)) else f false)=f false by
  by_cases h':224≤b
  ·have:decide (b≤239)=false:=by simp;omega
   simp only[h',decide_true,cond_true,this]
  ·simp only[h',decide_false,cond_false]
 have k4:=fun {X:Type} (f:Bool→X) (h:¬(240≤b∧b≤244))=>show (bif decide (240≤b) then f (decide (b≤244)) else f false)=f false by
  by_cases h':240≤b
  ·have:decide (b≤244)=false:=by simp;omega
   simp only[h',decide_true,cond_true,this]
  ·simp only[h',decide_false,cond_false]
 by_cases h3:224≤b∧b≤239
 ·have hr:=r2 (.inr (by omega))
  have hg:decide (194≤b)=true:=by simp;omega
  have hg2:decide (b≤223)=false:=by simp;omega
  rw[if_pos h3]
  simp only[hg,hg2,h3.1,h3.2,decide_true,cond_true,cond_false]
  rw[show (2:Int)=((2:Nat):Int) from rfl,hr]
  simp only[Im,show decide (b=240)=false by simp;omega,show decide (b=244)=false by simp;omega,Bool.false_and,Bool.or_false]
  generalize hdN (s.data.toList.drop (i+1))=h
  cases tlU 2 (s.data.toList.drop (i+1))
  ·rw[if_neg (by simp)];rfl
  ·by_cases hb1:b=224∧h<160
   ·    rw[if_neg (by simp;omega)]
        simp only[hb1.1,hb1.2,decide_true,Bool.true_and,Bool.true_or,cond_true]
   ·    by_cases hb2:b=237∧159<h
        ·rw[if_neg (by simp;omega)]
         simp only[hb2.1,hb2.2,decide_true,Bool.true_and,Bool.or_true,cond_true]
        ·rw[if_pos ⟨rfl,hb1,hb2⟩]
         have e1:(decide (b=224)&&decide (h<160))=false:=by rw[Bool.and_eq_false_iff];simp;omega
         have e3:(decide (b=237)&&decide (159<h))=false:=by rw[Bool.and_eq_false_iff];simp;omega
         simp only[e1,e3,Bool.or_false,cond_true,cond_false]
 rw[if_neg h3]
 by_cases h4:240≤b∧b≤244
 ·have hr:=r3 (.inr (by omega))
  have hg:decide (194≤b)=true:=by simp;omega
  have hg2:decide (b≤223)=false:=by simp;omega
  have hg3:decide (224≤b)=true:=by simp;omega
  have hg4:decide (b≤239)=false:=by simp;omega
  rw[if_pos h4]
  simp only[hg,hg2,hg3,hg4,h4.1,h4.2,decide_true,cond_true,cond_false]
  rw[show (3:Int)=((3:Nat):Int) from rfl,hr]
  simp only[Im,show decide (b=224)=false by simp;omega,show decide (b=237)=false by simp;omega,Bool.false_and,Bool.false_or]
  generalize hdN (s.data.toList.drop (i+1))=h
  cases tlU 3 (s.data.toList.drop (i+1))
  ·rw[if_neg (by simp)];rfl
  ·by_cases hb1:b=240∧h<144
   ·    rw[if_neg (by simp;omega)]
        simp only[hb1.1,hb1.2,decide_true,Bool.true_and,Bool.true_or,cond_true]
   ·    by_cases hb2:b=244∧143<h
        ·rw[if_neg (by simp;omega)]
         simp only[hb2.1,hb2.2,decide_true,Bool.true_and,Bool.or_true,cond_true]
        ·rw[if_pos ⟨rfl,hb1,hb2⟩]
         have e1:(decide (b=240)&&decide (h<144))=false:=by rw[Bool.and_eq_false_iff];simp;omega
         have e3:(decide (b=244)&&decide (143<h))=false:=by rw[Bool.and_eq_false_iff];simp;omega
         simp only[e1,e3,Bool.or_false,cond_true,cond_false]
 rw[if_neg h4]
 by_cases g1:194≤b<;>by_cases g2:224≤b<;>by_cases g3:240≤b
 all_goals by_cases g4:b≤223<;>by_cases g5:b≤239<;>by_cases g6:b≤244
 all_goals first|(exfalso;omega)|(simp only[g1,g2,g3,g4,g5,g6,decide_true,decide_false,cond_true,cond_false])
theorem Ku (    m:Nat) (hm:4≤m) (s:ByteArray) (hs:s.size<4611686018427387904):∀(M i k:Nat),i≤s.size→s.size-i<M→s.size-i≤k→Cg (m+1) M s (i:Int)=some (Lib.validGoD k (s.data.toList.drop i))
 |0,i,_,_,h,_=>by omega
 |M+    1,i,k,hi,h,hk=>by
  simp only[Cg,dlt]
  by_cases hlt:i<s.size
  ·obtain⟨  k,rfl⟩:∃q,k=q+1:=⟨k-1,by omega⟩
   simp only[hlt,decide_true,cond_true]
   rw[aa4 m hm _ s hs i hlt,Qw s i hlt,Il]
   cases e:okU (s[i]).toNat (s.data.toList.drop (i+1)) with
   |none=>rfl
   |    some n=>
        have hn:n≤(s.data.toList.drop (i+1)).length:=by
         unfold okU at e
         split at e
         ·simp only[Option.some.injEq] at e;omega
         ·split at e
          · split at e
            ·rename_i h;have:=(tl1 _).1 h;simp only[Option.some.injEq] at e;omega
            ·cases e
          · split at e
            ·  split at e
               ·rename_i h;have:=(tl2 _).1 h.1;simp only[Option.some.injEq] at e;omega
               ·cases e
            ·  split at e
               ·split at e
                ·rename_i h;have:=(tl3 _).1 h.1;simp only[Option.some.injEq] at e;omega
                ·cases e
               ·cases e
        rw[List.length_drop,DI] at hn
        show Cg (m+1) M s ((i+n+1:Nat):Int)=_
        rw[Ku m hm s hs M (i+n+1) k (by omega) (by omega) (by omega)]
        show _=some (Lib.validGoD k (List.drop n (List.drop (i+1) s.data.toList)))
        rw[List.drop_drop,show i+1+n=i+n+1 by omega]
  ·rw[List.drop_eq_nil_of_le (by rw[DI];omega),Kr]
   simp only[hlt,decide_false,cond_false]
   simp[Rq]
theorem ayw (m:Nat) (s:ByteArray) (hs:s.size<4611686018427387904) (hm:s.size+5≤m):qZ (m+1) s=some (Lib.validD s.data.toList):=by
 obtain⟨m,rfl⟩:∃q,m=q+1:=⟨m-1,by omega⟩
 have:=Ku m (by omega) s hs (m+2) 0 s.size (by omega) (by omega) (by omega)
 rw[List.drop_zero] at this
 unfold Lib.validD
 rw[DI]
 exact this
end Go.Proofs.YtjnkagkoolbodaaGreatDoor
namespace Go.Proofs.YtjnkagkoolbodaaGreatDoor
open Go.Am
def eqb (a b:ByteArray):Bool:=a.toList==b.toList
theorem Uh (a b:ByteArray):eqb a b=true↔a=b:=by
 unfold eqb
 rw[ByteArray.toList_eq,ByteArray.toList_eq,beq_iff_eq]
 refine⟨fun h=>?_,fun h=>by rw[h]⟩
 cases a with|mk x=>cases b with|mk y=>
 have:x=y:=Array.ext' h
 rw[this]
theorem Kv (a b:ByteArray):eqb a b=eqb b a:=by
 rw[Bool.eq_iff_iff,Uh,Uh]
 exact eq_comm
def aa5 (p:ByteArray→Bool):List ByteArray→List ByteArray→Bool
 |_,[]=>true
 |seen,s::r=>p s&&!(seen.any (eqb s))&&aa5 p (seen++[s]) r
end Go.Proofs.YtjnkagkoolbodaaGreatDoor
