/- The parser in plain Lean, on the rest of a text.
The program's parser reads as the plain one:bytes,blanks,code points,strings.
The program's parser reads as the plain one:texts,words,integers,names.
What the plain parser reads:a well-formed value that can be printed.
The program's parser reads as the plain one:values,lists,objects.
The program's parser reads as the plain one:the whole. -/
import Derived.Test.YtmejbpmceflcjaaGreatDoorNG
import Derived.KernelRfl
set_option linter.unusedVariables false
set_option linter.unusedSimpArgs false
namespace Go.Proofs.YtmejbpmceflcjaaGreatDoor
open Go.Am
inductive Rs (α:Type) where
 |er (e:Nat) (l:List UInt8)
 |ok (a:α) (l:List UInt8)
def Rs.bd {α β:Type}:Rs α→(α→List UInt8→Rs β)→Rs β
 | .er e l,_=> .er e l
 | .ok a l,f=>f a l
def isB (c:UInt8):Bool:=decide (c.toNat=9)||(decide (c.toNat=10)||(decide (c.toNat=13)||decide (c.toNat=32)))
def sBl:List UInt8→List UInt8
 | []=>[]
 |c::r=>bif isB c then sBl r else c::r
theorem sBl_len:∀l:List UInt8,(sBl l).length≤l.length
 | []=>Nat.le_refl _
 |c::r=>by
  simp only[sBl]
  cases isB c
  ·exact Nat.le_refl _
  ·have:=sBl_len r
   simp only[cond_true,List.length_cons];omega
def isD (c:UInt8):Bool:=decide (48≤c.toNat)&&decide (c.toNat≤57)
def hxN (x:Nat):Nat:=if 48≤x∧x≤57 then x-48 else if 97≤x∧x≤102 then x-87 else if 65≤x∧x≤70 then x-55 else 16
def hxV (c:UInt8):Nat:=hxN c.toNat
theorem hxV_le (c:UInt8):hxV c≤16:=by unfold hxV hxN;split<;>(try split)<;>(try split)<;>omega
def sCode:Nat→Nat→List UInt8→Rs Nat
 |0,r,l=> .ok r l
 |_+1,_,[]=> .er 4 []
 |k+1,r,c::t=>if hxV c=16∨(k=2∧r=13∧8≤hxV c) then .er 4 (c::t) else sCode k (16*r+hxV c) t
def sEsc:List UInt8→Rs Nat
 | []=> .er 4 []
 |  c::t=>
    if c.toNat=34∨c.toNat=92∨c.toNat=47 then .ok c.toNat t else if c.toNat=98 then .ok 8 t else if c.toNat=102 then .ok 12 t else
    if c.toNat=110 then .ok 10 t else if c.toNat=114 then .ok 13 t else if c.toNat=116 then .ok 9 t else if c.toNat=117 then sCode 4 0 t else .er 4 (c::t)
def enc (r:Nat):List UInt8:=if r<128 then[UInt8.ofNat r] else if r<2048 then[UInt8.ofNat (192+r/64),UInt8.ofNat (128+r%64)] else[UInt8.ofNat (224+r/4096),UInt8.ofNat (128+r/64%64),UInt8.ofNat (128+r%64)]
def sLit:Nat→List UInt8→List UInt8→Rs (List UInt8)
 |0,_,l=> .er 0 l
 |_+1,_,[]=> .er 4 []
 |  N+1,a,c::t=>
    if c.toNat=34 then .ok a t else if c.toNat<32 then .er 4 (c::t) else
    if c.toNat=92 then(sEsc t).bd fun r l=>sLit N (a++enc r) l else sLit N (a++[c]) t
def sTxt (l:List UInt8):Rs (List UInt8):=
 (sLit (l.length+1) [] l.tail).bd fun a r=>bif decide (4096<a.length) then .er 2 l else bif !(Lib.validD a) then .er 4 l else .ok a r
def sWd:List UInt8→List UInt8→Rs Unit
 | [],l=> .ok () l
 |_::_,[]=> .er 4 []
 |a::w,c::r=>if c=a then sWd w r else .er 4 (c::r)
def dgs (l:List UInt8):List UInt8:=l.takeWhile isD
def dgr (l:List UInt8):List UInt8:=l.dropWhile isD
def sInt0 (mn:Bool) (l:List UInt8):List UInt8→Rs Int
 | []=> .er 4 []
 |  c::r=>
    bif !(isD c)||(mn&&decide (c.toNat=48)) then .er 4 (c::r) else
    bif decide (c.toNat=48) then .ok 0 r else
    bif decide (vaD 0 (c::dgs r)≤(bif mn then 9223372036854775808 else 9223372036854775807)) then .ok (bif mn then -((vaD 0 (c::dgs r):Nat):Int) else((vaD 0 (c::dgs r):Nat):Int)) (dgr r) else .er 2 l
def sInt:List UInt8→Rs Int
 | []=> .er 4 []
 |c::r=>bif decide (c.toNat=45) then sInt0 true (c::r) r else sInt0 false (c::r) (c::r)
def sNam (seen:List ByteArray):List UInt8→Rs ByteArray
 | []=> .er 4 []
 |  c::t=>
    if c.toNat=34 then
     (sLit (t.length+2) [] t).bd fun a r=>
      bif decide (128<a.length) then .er 2 (c::t) else
      bif !(a.all okW&&decide (1≤a.length))||seen.any (eqb ⟨a.toArray⟩) then .er 4 (c::t) else
      match sBl r with
      | []=> .er 4 []
      |x::k=>if x.toNat=58 then .ok ⟨a.toArray⟩ (sBl k) else .er 4 (x::k)
    else .er 4 (c::t)
def vK (k i:Int):Dt:=Dt.agg [Dt.int k,Dt.int i,Dt.str (ByteArray.mk (List.toArray [])),Dt.lst [],Dt.lst []]
def vLst (L:List Dt):Dt:=Dt.agg [Dt.int 6,Dt.int 0,Dt.str (ByteArray.mk (List.toArray [])),Dt.lst L,Dt.lst []]
def vDoc (L:List Dt):Dt:=Dt.agg [Dt.int 5,Dt.int 0,Dt.str (ByteArray.mk (List.toArray [])),Dt.lst [],Dt.lst L]
def sLs (sv:Nat→List UInt8→Rs (Dt×Nat)):Nat→List Dt→Nat→List UInt8→Rs (Dt×Nat)
 |0,_,_,l=> .er 0 l
 |  M+1,a,n,l=>(sv n l).bd fun v l1=>
    match sBl l1 with
    | []=> .er 4 []
    |c::t=>if c.toNat=93 then .ok (vLst (a++[v.1]),v.2) t else if c.toNat=44 then sLs sv M (a++[v.1]) v.2 (sBl t) else .er 4 (c::t)
def cnt (lv n:Nat):Bool:=decide (16<lv)||decide (n=1024)
def fstD (L:List Dt):Dt:=match L with| []=>kza2373|f::_=>f
def isTI (v:Dt):Bool:=Dt.I v 0==4||Dt.I v 0==3
def sOb (sv:Bool→Nat→List UInt8→Rs (Dt×Nat)) (lv:Nat):Nat→List Dt→Nat→List UInt8→Rs (Dt×Nat)
 |0,_,_,l=> .er 0 l
 |  M+  1,a,n,l=>(sNam (a.map fun x=>Dt.S x 0) l).bd fun nm l1=>(sv (a.isEmpty&&isSp nm) n l1).bd fun v l2=>
    match sBl l2 with
    | []=> .er 4 []
    |c  ::t=>
     if c.toNat=125∨c.toNat=44 then
        bif decide (c.toNat=125)&&spc (a++[Dt.agg [Dt.str nm,v.1]]) then .ok (spV (Dt.agg [Dt.str nm,v.1]),v.2) t else
        bif (a.isEmpty&&isSp nm)&&isTI v.1 then
         (bif cnt (lv+1) v.2 then .er 2 l1 else if c.toNat=125 then .ok (vDoc (a++[Dt.agg [Dt.str nm,v.1]]),v.2+1) t else sOb sv lv M (a++[Dt.agg [Dt.str nm,v.1]]) (v.2+1) (sBl t))
        else if c.toNat=125 then .ok (vDoc (a++[Dt.agg [Dt.str nm,v.1]]),v.2) t else sOb sv lv M (a++[Dt.agg [Dt.str nm,v.1]]) v.2 (sBl t)
     else .er 4 (c::t)
def sVal:Nat→Nat→Bool→Nat→List UInt8→Rs (Dt×Nat)
 |0,_,_,_,l=> .er 0 l
 |_+1,_,_,_,[]=> .er 4 []
 |  N+1,lv,late,n,c::t=>
    bif isD c||(decide (c.toNat=45)||decide (c.toNat=34)) then
     bif !late&&cnt lv n then .er 2 (c::t) else
     if c.toNat=34 then(sTxt (c::t)).bd fun a r=> .ok (vText a,bif late then n else n+1) r
     else(sInt (c::t)).bd fun a r=> .ok (vInt a,bif late then n else n+1) r
    else
     if c.toNat=91∨c.toNat=123∨c.toNat=110∨c.toNat=116∨c.toNat=102 then
      bif cnt lv n then .er 2 (c::t) else
      if c.toNat=91 then
       match sBl t with
       | []=> .er 4 []
       |x::k=>if x.toNat=93 then .ok (vLst [],n+1) k else sLs (fun n l=>sVal N (lv+1) false n l) (t.length+1) [] (n+1) (x::k)
      else if c.toNat=123 then
       match sBl t with
       | []=> .er 4 []
       |x::k=>if x.toNat=125 then .ok (vDoc [],n+1) k else sOb (fun b n l=>sVal N (lv+1) b n l) lv (t.length+1) [] (n+1) (x::k)
      else if c.toNat=110 then(sWd [110,117,108,108] (c::t)).bd fun _ r=> .ok (vK 2 0,n+1) r
      else if c.toNat=116 then(sWd [116,114,117,101] (c::t)).bd fun _ r=> .ok (vK 9 1,n+1) r
      else(sWd [102,97,108,115,101] (c::t)).bd fun _ r=> .ok (vK 9 0,n+1) r
     else .er 4 (c::t)
def sParse (l:List UInt8):Rs Dt:=
 (sVal 20 1 false 0 (sBl l)).bd fun v r=>match sBl r with| []=> .ok v.1 []|c::t=> .er 4 (c::t)
theorem sCode_ok:∀(k r:Nat) (l:List UInt8),match sCode k r l with| .er e _=>e=4| .ok r' l'=>l'.length+k=l.length∧r*16^k≤r'∧r'<(r+1)*16^k
 |0,r,l=>by simp[sCode]
 |k+1,r,[]=>by simp[sCode]
 |k+    1,r,c::t=>by
  simp only[sCode]
  split
  ·rename_i e l' h
   split at h
   ·cases h;rfl
   ·    have ih:=sCode_ok k (16*r+hxV c) t
        rw[h] at ih
        exact ih
  ·rename_i r' l' h
   split at h
   ·cases h
   ·    rename_i hc
        have ih:=sCode_ok k (16*r+hxV c) t
        rw[h] at ih
        have hx:=hxV_le c
        have hx2:hxV c≠16:=fun h=>hc (.inl h)
        have e1:r*16^(k+1)=(16*r)*16^k:=by rw[Nat.pow_succ,Nat.mul_comm (16^k) 16,←Nat.mul_assoc,Nat.mul_comm r 16]
        have e2:(r+1)*16^(k+1)=(16*(r+1))*16^k:=by rw[Nat.pow_succ,Nat.mul_comm (16^k) 16,←Nat.mul_assoc,Nat.mul_comm (r+1) 16]
        have l1:(16*r)*16^k≤(16*r+hxV c)*16^k:=Nat.mul_le_mul_right _ (by omega)
        have l2:(16*r+hxV c+1)*16^k≤(16*(r+1))*16^k:=Nat.mul_le_mul_right _ (by omega)
        rw[e1,e2,List.length_cons]
        exact⟨by omega,by omega,by omega⟩
theorem sCode_fit {l:List UInt8} {r:Nat} {l':List UInt8} (h:sCode 4 0 l= .ok r l'):l'.length+4=l.length∧r<65536∧(r<55296∨57343<r):=by
 have h0:=sCode_ok 4 0 l
 rw[h] at h0
 refine⟨h0.1,by omega,?_⟩
 match l,h with
 | [],h=>cases h
 |a::t,h=>
  simp only[sCode] at h
  split at h
  ·cases h
  ·match t,h with
   | [],h=>cases h
   |    b::t2,h=>
        simp only[sCode] at h
        split at h
        ·cases h
        ·rename_i h1 h2
         have h3:=sCode_ok 2 (16*(16*0+hxV a)+hxV b) t2
         rw[h] at h3
         have ha:=hxV_le a
         have hb:=hxV_le b
         have hb2:hxV b≠16:=fun h=>h2 (.inl h)
         have h4:¬(hxV a=13∧8≤hxV b):=fun h=>h2 (.inr ⟨by simp,by omega,h.2⟩)
         have h5:=h3.2
         omega
theorem sEsc_ok (l:List UInt8):match sEsc l with| .er e _=>e=4| .ok r l'=>l'.length<l.length∧r<65536∧(r<55296∨57343<r):=by
 cases l with
 |nil=>rfl
 |cons c t=>
  have hc:=u8lt c
  simp only[sEsc]
  by_cases h1:c.toNat=34∨c.toNat=92∨c.toNat=47
  ·rw[if_pos h1];exact⟨by simp,by omega,by omega⟩
  rw[if_neg h1]
  by_cases h2:c.toNat=98
  ·rw[if_pos h2];exact⟨by simp,by omega,by omega⟩
  rw[if_neg h2]
  by_cases h3:c.toNat=102
  ·rw[if_pos h3];exact⟨by simp,by omega,by omega⟩
  rw[if_neg h3]
  by_cases h4:c.toNat=110
  ·rw[if_pos h4];exact⟨by simp,by omega,by omega⟩
  rw[if_neg h4]
  by_cases h5:c.toNat=114
  ·rw[if_pos h5];exact⟨by simp,by omega,by omega⟩
  rw[if_neg h5]
  by_cases h6:c.toNat=116
  ·rw[if_pos h6];exact⟨by simp,by omega,by omega⟩
  rw[if_neg h6]
  by_cases h7:c.toNat=117
  ·rw[if_pos h7]
   have h8:=sCode_ok 4 0 t
   cases h:sCode 4 0 t with
   |er e l'=>rw[h] at h8;exact h8
   |    ok r l'=>
        have h9:=sCode_fit h
        show l'.length<(c::t).length∧_
        rw[List.length_cons]
        exact⟨by omega,h9.2⟩
  rw[if_neg h7]
theorem enc_len (r:Nat):(enc r).length≤3:=by unfold enc;split<;>(try split)<;>simp
theorem sLit_ok:∀(N:Nat) (a l:List UInt8),l.length<N→match sLit N a l with| .er e _=>e=4| .ok b l'=>l'.length<l.length∧b.length+3*l'.length≤a.length+3*l.length
 |0,_,_,h=>by omega
 |N+1,a,[],_=>rfl
 |N+    1,a,c::t,h=>by
  rw[List.length_cons] at h
  simp only[sLit]
  by_cases h1:c.toNat=34
  ·rw[if_pos h1]
   show t.length<(c::t).length∧a.length+3*t.length≤a.length+3*(c::t).length
   rw[List.length_cons]
   exact⟨by omega,by omega⟩
  rw[if_neg h1]
  by_cases h2:c.toNat<32
  ·rw[if_pos h2]
  rw[if_neg h2]
  by_cases h3:c.toNat=92
  ·rw[   if_pos h3]
   have h4:=sEsc_ok t
   cases he:sEsc t with
   |er e l'=>rw[he] at h4;exact h4
   |    ok r l'=>
        rw[he] at h4
        have ih:=sLit_ok N (a++enc r) l' (by omega)
        have hl:=enc_len r
        show match sLit N (a++enc r) l' with| .er e _=>e=4| .ok b l'=>l'.length<(c::t).length∧b.length+3*l'.length≤a.length+3*(c::t).length
        cases hr:sLit N (a++enc r) l' with
        |er e l2=>rw[hr] at ih;exact ih
        |ok b l2=>
         rw[hr] at ih
         rw[List.length_append] at ih
         show l2.length<(c::t).length∧_
         rw[List.length_cons]
         exact⟨by omega,by omega⟩
  rw[if_neg h3]
  have ih:=sLit_ok N (a++[c]) t (by omega)
  cases hr:sLit N (a++[c]) t with
  |er e l2=>rw[hr] at ih;exact ih
  |ok b l2=>
   rw[hr] at ih
   rw[List.length_append,List.length_singleton] at ih
   show l2.length<(c::t).length∧b.length+3*l2.length≤a.length+3*(c::t).length
   rw[List.length_cons]
   exact⟨by omega,by omega⟩
theorem sTxt_ok (c:UInt8) (t:List UInt8):match sTxt (c::t) with| .er e _=>e=2∨e=4| .ok b l'=>l'.length<(c::t).length∧b.length+3*l'.length≤3*(c::t).length∧b.length≤4096∧Lib.validD b=true:=by
 have h:=sLit_ok ((c::t).length+1) [] t (by rw[List.length_cons];omega)
 unfold sTxt
 rw[List.tail_cons]
 cases hr:sLit ((c::t).length+1) [] t with
 |er e l=>rw[hr] at h;exact .inr h
 |ok b l=>
  rw[hr] at h
  rw[List.length_nil] at h
  show match (bif decide (4096<b.length) then Rs.er 2 (c::t) else bif !(Lib.validD b) then .er 4 (c::t) else .ok b l) with| .er e _=>_| .ok b l'=>_
  rw[List.length_cons]
  cases h1:decide (4096<b.length)
  ·rw[cond_false]
   have h1:=of_decide_eq_false h1
   cases h2:Lib.validD b
   ·exact .inr rfl
   ·exact⟨by omega,by omega,by omega,h2⟩
  ·exact .inl rfl
theorem sWd_ok:∀(w l:List UInt8),match sWd w l with| .er e _=>e=4| .ok _ l'=>l'.length+w.length=l.length
 | [],l=>by simp[sWd]
 |a::w,[]=>rfl
 |a::w,c::r=>by
  simp only[sWd]
  by_cases h:c=a
  ·rw[if_pos h]
   have ih:=sWd_ok w r
   cases hr:sWd w r with
   |er e l=>rw[hr] at ih;exact ih
   |ok u l=>rw[hr] at ih;show l.length+(a::w).length=(c::r).length;rw[List.length_cons,List.length_cons];omega
  ·rw[if_neg h]
theorem dgr_len (l:List UInt8):(dgr l).length≤l.length:=(List.dropWhile_sublist _).length_le
theorem sInt0_ok (mn:Bool) (l t:List UInt8):match sInt0 mn l t with| .er e _=>e=2∨e=4| .ok v l'=>l'.length<t.length∧ -9223372036854775808≤v∧v≤9223372036854775807:=by
 cases t with
 |nil=>exact .inr rfl
 |cons c r=>
  have hd:=dgr_len r
  simp only[sInt0]
  cases !(isD c)||(mn&&decide (c.toNat=48))
  ·rw[   cond_false]
   cases decide (c.toNat=48)
   ·    rw[cond_false]
        cases h:decide (vaD 0 (c::dgs r)≤(bif mn then 9223372036854775808 else 9223372036854775807))
        ·exact .inl rfl
        ·have h:=of_decide_eq_true h
         show (dgr r).length<(c::r).length∧_
         rw[List.length_cons]
         refine⟨by omega,?_⟩
         cases mn
         · have h:vaD 0 (c::dgs r)≤9223372036854775807:=h
           show (-9223372036854775808:Int)≤((vaD 0 (c::dgs r):Nat):Int)∧((vaD 0 (c::dgs r):Nat):Int)≤9223372036854775807
           omega
         · have h:vaD 0 (c::dgs r)≤9223372036854775808:=h
           show (-9223372036854775808:Int)≤ -((vaD 0 (c::dgs r):Nat):Int)∧ -((vaD 0 (c::dgs r):Nat):Int)≤9223372036854775807
           omega
   ·    show r.length<(c::r).length∧(-9223372036854775808:Int)≤0∧(0:Int)≤9223372036854775807
        rw[List.length_cons]
        exact⟨by omega,by omega,by omega⟩
  ·exact .inr rfl
theorem sInt_ok (l:List UInt8):match sInt l with| .er e _=>e=2∨e=4| .ok v l'=>l'.length<l.length∧ -9223372036854775808≤v∧v≤9223372036854775807:=by
 cases l with
 |nil=>exact .inr rfl
 |cons c r=>
  simp only[sInt]
  cases decide (c.toNat=45)
  ·exact sInt0_ok false (c::r) (c::r)
  ·have h:=sInt0_ok true (c::r) r
   rw[cond_true]
   cases hr:sInt0 true (c::r) r with
   |er e l=>rw[hr] at h;exact h
   |ok v l=>rw[hr] at h;show l.length<(c::r).length∧_;rw[List.length_cons];exact⟨by omega,h.2⟩
theorem sNam_ok (seen:List ByteArray) (l:List UInt8):match sNam seen l with| .er e _=>e=2∨e=4| .ok nm l'=>l'.length<l.length∧wd nm=true∧seen.any (eqb nm)=false∧nm.size+3*l'.length≤3*l.length:=by
 cases l with
 |nil=>exact .inr rfl
 |cons c t=>
  simp only[sNam]
  by_cases h0:c.toNat=34
  ·rw[   if_pos h0]
   have h:=sLit_ok (t.length+2) [] t (by omega)
   cases hr:sLit (t.length+2) [] t with
   |er e l=>rw[hr] at h;exact .inr h
   |    ok b l=>
        rw[hr] at h
        rw[List.length_nil] at h
        simp only[Rs.bd]
        cases h1:decide (128<b.length)
        ·rw[cond_false]
         have h1:=of_decide_eq_false h1
         cases h2:!(b.all okW&&decide (1≤b.length))||seen.any (eqb ⟨b.toArray⟩)
         ·rw[   cond_false]
          obtain⟨h3,h4⟩:=Bool.or_eq_false_iff.1 h2
          have h3:(b.all okW&&decide (1≤b.length))=true:=by simpa using h3
          obtain⟨h5,h6⟩:=Bool.and_eq_true_iff.1 h3
          have hb:=sBl_len l
          cases hs:sBl l with
          |nil=>exact .inr rfl
          | cons x k=>
            rw[hs,List.length_cons] at hb
            by_cases h7:x.toNat=58
            ·   have hk:=sBl_len k
                simp only[h7,if_true]
                rw[List.length_cons,mkB_size]
                refine⟨by omega,?_,h4,by omega⟩
                have hbs:(⟨b.toArray⟩:ByteArray).size=b.length:=mkB_size b
                unfold wd
                rw[hbs,h6,decide_eq_true (show b.length≤128 by omega)]
                exact h5
            ·   simp only[h7,if_false]
                simp
         ·exact .inr rfl
        ·exact .inl rfl
  ·rw[if_neg h0]
   exact .inr rfl
end Go.Proofs.YtmejbpmceflcjaaGreatDoor
namespace Go.Proofs.YtmejbpmceflcjaaGreatDoor
open Go.Am
def Sf (s:ByteArray) (l:List UInt8):Prop:=l<:+s.data.toList
abbrev PQ (s:ByteArray) (l:List UInt8) (n:Nat):Dt:=Q s (s.size-l.length) n
def Ee (s:ByteArray) (st:Dt) (e:Nat) (l:List UInt8):Prop:=∃i k:Nat,st=QE s i k (e:Int) ((s.size-l.length:Nat):Int)
def Sim {α β:Type} (f:β→α) (k:β→Nat) (s:ByteArray) (x:Option (α×Bool×Dt)):Rs β→Prop
 | .er e l=>Sf s l∧∃a st,x=some (a,false,st)∧Ee s st e l
 | .ok b l=>Sf s l∧x=some (f b,true,PQ s l (k b))
theorem sf_tail {s:ByteArray} {c:UInt8} {r:List UInt8} (h:Sf s (c::r)):Sf s r:=List.IsSuffix.trans (List.suffix_cons c r) h
theorem sf_len {s:ByteArray} {l:List UInt8} (h:Sf s l):l.length≤s.size:=by
 have:=h.length_le
 rw[lenB] at this
 exact this
theorem sf_drop {s:ByteArray} {l:List UInt8} (h:Sf s l):s.data.toList.drop (s.size-l.length)=l:=by
 obtain⟨t,ht⟩:=h
 have hl:=congrArg List.length ht
 rw[List.length_append,lenB] at hl
 rw[show s.size-l.length=t.length by omega,←ht,List.drop_left]
theorem sf_lt {s:ByteArray} {c:UInt8} {r:List UInt8} (h:Sf s (c::r)):s.size-(c::r).length+1=s.size-r.length:=by
 have:=sf_len h
 rw[List.length_cons] at this ⊢
 omega
theorem pk (m:Nat) {s:ByteArray} {c:UInt8} {r:List UInt8} {n:Nat} (h:Sf s (c::r)) (hs:s.size<1000000000000):i6 (m+1) (PQ s (c::r) n)=some ((c.toNat:Int),PQ s (c::r) n):=peek_at m (sf_drop h) hs
theorem pk0 (m:Nat) {s:ByteArray} {n:Nat}:i6 (m+1) (PQ s [] n)=some (-1,PQ s [] n):=peek_end m (by simp)
theorem ad {s:ByteArray} {c:UInt8} {r:List UInt8} {n:Nat} (h:Sf s (c::r)) (hs:s.size<1000000000000):Dt.agg [Dt.str (Dt.S (PQ s (c::r) n) 0),Dt.int (IntKind.wrap .i64 (Dt.I (PQ s (c::r) n) 1+1)),Dt.int (Dt.I (PQ s (c::r) n) 2),Dt.int (Dt.I (PQ s (c::r) n) 3),Dt.int (Dt.I (PQ s (c::r) n) 4)]=PQ s r n:=by
 rw[Q_adv (by omega),sf_lt h]
theorem bqt {c:UInt8} {k:Nat} (h:c.toNat=k):((c.toNat:Int)==(k:Int))=true:=by rw[h];exact beq_self_eq_true _
theorem bqf {c:UInt8} {k:Nat} (h:c.toNat≠k):((c.toNat:Int)==(k:Int))=false:=by rw[beq_eq_false_iff_ne];omega
theorem flq (m:Nat) {s:ByteArray} {l:List UInt8} {n:Nat} (e:Int) (o:Int):i9 (m+1) e o (PQ s l n)=some (false,QE s (s.size-l.length) n e o):=rfl
theorem ee_of {s:ByteArray} {i n e:Nat} {l:List UInt8}:Ee s (QE s i n (e:Int) ((s.size-l.length:Nat):Int)) e l:=⟨i,n,rfl⟩
theorem isB_no {c:UInt8} (h:isB c=false):c.toNat≠9∧c.toNat≠10∧c.toNat≠13∧c.toNat≠32:=by
 unfold isB at h
 simp only[Bool.or_eq_false_iff,decide_eq_false_iff_not] at h
 exact h
theorem bl_sim (m:Nat) {s:ByteArray} (hs:s.size<1000000000000) (n:Nat):∀(l:List UInt8) (M:Nat),Sf s l→l.length<M→i5_l0 (m+1) M (PQ s l n)=some (PQ s (sBl l) n)∧Sf s (sBl l)
 |_,0,_,h=>by omega
 | [],M+1,h,_=>by
   refine⟨?_,h⟩
   simp only[i5_l0,pk0,Option.bind_some]
   rfl
 | c::r,M+1,h,hM=>by
   rw[List.length_cons] at hM
   simp only[i5_l0,pk m h hs,Option.bind_some,sBl]
   cases hb:isB c
   ·obtain⟨b1,b2,b3,b4⟩:=isB_no hb
    have e1:((c.toNat:Int)==9)=false:=bqf (k:=9) b1
    have e2:((c.toNat:Int)==10)=false:=bqf (k:=10) b2
    have e3:((c.toNat:Int)==13)=false:=bqf (k:=13) b3
    have e4:((c.toNat:Int)==32)=false:=bqf (k:=32) b4
    simp only[e1,e2,e3,e4,cond_false,i5_j1]
    exact⟨trivial,h⟩
   ·have ih:=bl_sim m hs n r M (sf_tail h) (by omega)
    refine⟨?_,ih.2⟩
    have hj:i5_j1 (m+1) (i5_l0 (m+1) M) true (PQ s (c::r) n)=some (PQ s (sBl r) n):=by
        simp only[i5_j1,cond_true,ad h hs,ih.1]
    unfold isB at hb
    simp only[Bool.or_eq_true,decide_eq_true_eq] at hb
    rw[cond_true]
    rcases hb with hb|hb|hb|hb
    ·   have e1:((c.toNat:Int)==9)=true:=bqt (k:=9) hb
        rw[e1,cond_true];exact hj
    ·rw[hb];exact hj
    ·rw[hb];exact hj
    ·rw[hb];exact hj
theorem blanks_sim (m:Nat) {s:ByteArray} (hs:s.size<1000000000000) (n:Nat) {l:List UInt8} (h:Sf s l) (hm:l.length≤m):i5 (m+2) (PQ s l n)=some (PQ s (sBl l) n):=(bl_sim m hs n l (m+2) h (by omega)).1
theorem sf_bl {s:ByteArray}:∀{l:List UInt8},Sf s l→Sf s (sBl l)
 | [],h=>h
 |c::r,h=>by
  simp only[sBl]
  cases isB c
  ·exact h
  ·exact sf_bl (sf_tail h)
theorem or32g {a b:Nat} (ha:a<65536) (hb:b<16):orI .i32 (shlI .i32 (a:Int) 4) (IntKind.wrap .i32 (b:Int))=((16*a+b:Nat):Int):=by
 have e1:shlI .i32 (a:Int) 4=((16*a:Nat):Int):=by
  unfold shlI
  have h4:Nat.min (Int.toNat 4) IntKind.i32.bits=4:=rfl
  rw[h4,wrap32 (by omega) (by omega)];omega
 rw[e1,wrap32 (n:=(b:Int)) (by omega) (by omega)]
 have e2:(BitVec.ofInt 32 ((16*a:Nat):Int)|||BitVec.ofInt 32 (b:Int)).toNat=16*a+b:=by
  rw[BitVec.toNat_or,BitVec.ofInt_natCast,BitVec.ofInt_natCast,BitVec.toNat_ofNat,BitVec.toNat_ofNat,Nat.mod_eq_of_lt (by omega),Nat.mod_eq_of_lt (by omega)]
  have:=Nat.two_pow_add_eq_or_of_lt (i:=4) (b:=b) (by omega) a
  rw[show 16*a=2^4*a by omega]
  exact this.symm
 show IntKind.wrap .i32 (((BitVec.ofInt 32 ((16*a:Nat):Int)|||BitVec.ofInt 32 (b:Int)).toNat:Nat):Int)=_
 rw[e2,wrap32 (by omega) (by omega)]
def dI (c:UInt8):Int:=if hxV c=16 then -1 else(hxV c:Int)
theorem dN_1 {x:Nat} (h:48≤x∧x≤57):(if hxN x=16 then(-1:Int) else((hxN x:Nat):Int))=IntKind.wrap .i64 ((x:Int)-48):=by
 have e:hxN x=x-48:=by unfold hxN;rw[if_pos h]
 rw[e,if_neg (by omega),wrap64 (by omega) (by omega)];omega
theorem dN_2 {x:Nat} (h:97≤x∧x≤102):(if hxN x=16 then(-1:Int) else((hxN x:Nat):Int))=IntKind.wrap .i64 (IntKind.wrap .i64 ((x:Int)-97)+10):=by
 have e:hxN x=x-87:=by unfold hxN;rw[if_neg (by omega),if_pos h]
 rw[e,if_neg (by omega),wrap64 (n:=(x:Int)-97) (by omega) (by omega),wrap64 (by omega) (by omega)];omega
theorem dN_3 {x:Nat} (h:65≤x∧x≤70):(if hxN x=16 then(-1:Int) else((hxN x:Nat):Int))=IntKind.wrap .i64 (IntKind.wrap .i64 ((x:Int)-65)+10):=by
 have e:hxN x=x-55:=by unfold hxN;rw[if_neg (by omega),if_neg (by omega),if_pos h]
 rw[e,if_neg (by omega),wrap64 (n:=(x:Int)-65) (by omega) (by omega),wrap64 (by omega) (by omega)];omega
theorem dN_4 {x:Nat} (h1:¬(48≤x∧x≤57)) (h2:¬(97≤x∧x≤102)) (h3:¬(65≤x∧x≤70)):(if hxN x=16 then(-1:Int) else((hxN x:Nat):Int))= -1:=by
 have e:hxN x=16:=by unfold hxN;rw[if_neg h1,if_neg h2,if_neg h3]
 rw[e,if_pos rfl]
theorem rng_in {x a b:Int} (h:a≤x∧x≤b) {β:Type} (f:Bool→β):(bif decide (a≤x) then f (decide (x≤b)) else f false)=f true:=by
 rw[decide_eq_true h.1,decide_eq_true h.2];rfl
theorem rng_out {x a b:Int} (h:¬(a≤x∧x≤b)) {β:Type} (f:Bool→β):(bif decide (a≤x) then f (decide (x≤b)) else f false)=f false:=by
 by_cases h1:a≤x
 ·rw[decide_eq_false (show ¬x≤b from fun h2=>h ⟨h1,h2⟩)]
  cases decide (a≤x)<;>rfl
 ·rw[decide_eq_false h1];rfl
theorem code_j2g (m:Nat) (rec1:Int→Int→Dt→Option (Int×Bool×Dt)) (r i:Int) (x:Nat) (st:Dt):
  (bif decide ((48:Int)≤(x:Int)) then i13_j3 m rec1 r i (x:Int) (-1) i (decide ((x:Int)≤57)) st else i13_j3 m rec1 r i (x:Int) (-1) i false st)=i13_j4 m rec1 r i (if hxN x=16 then(-1:Int) else((hxN x:Nat):Int)) i st:=by
 by_cases h1:48≤x∧x≤57
 ·rw[dN_1 h1]
  refine(rng_in (by omega) fun b=>i13_j3 m rec1 r i (x:Int) (-1) i b st).trans ?_
  rw[i13_j3,cond_true]
 ·refine(rng_out (by omega) fun b=>i13_j3 m rec1 r i (x:Int) (-1) i b st).trans ?_
  rw[i13_j3,cond_false]
  by_cases h2:97≤x∧x≤102
  ·rw[dN_2 h2]
   refine(rng_in (by omega) fun b=>i13_j8 m rec1 r i (x:Int) (-1) i b st).trans ?_
   rw[i13_j8,cond_true]
  ·refine(rng_out (by omega) fun b=>i13_j8 m rec1 r i (x:Int) (-1) i b st).trans ?_
   rw[i13_j8,cond_false]
   by_cases h3:65≤x∧x≤70
   ·    rw[dN_3 h3]
        refine(rng_in (by omega) fun b=>i13_j9 m rec1 r i (x:Int) (-1) i b st).trans ?_
        rw[i13_j9,cond_true]
   ·    refine(rng_out (by omega) fun b=>i13_j9 m rec1 r i (x:Int) (-1) i b st).trans ?_
        rw[i13_j9,cond_false,dN_4 h1 h2 h3]
theorem code_l (m M:Nat) {s:ByteArray} {c:UInt8} {t:List UInt8} {n:Nat} (r i:Nat) (h:Sf s (c::t)) (hs:s.size<1000000000000) (hi:i<4):
  i13_l1 (m+1) (M+1) (r:Int) (i:Int) (PQ s (c::t) n)=i13_j4 (m+1) (i13_l1 (m+1) M) (r:Int) (i:Int) (dI c) (i:Int) (PQ s (c::t) n):=by
 have k4:decide ((i:Int)<4)=true:=decide_eq_true (by omega)
 rw[i13_l1,k4,cond_true,i13_j2,pk m h hs,Option.bind_some]
 exact code_j2g (m+1) _ (r:Int) (i:Int) c.toNat _
theorem code_sim (m:Nat) {s:ByteArray} (hs:s.size<1000000000000) (n:Nat):∀(k r i M:Nat) (l:List UInt8),Sf s l→i+k=4→r<16^i→k<M→
  Sim (fun r:Nat=>(r:Int)) (fun _=>n) s (i13_l1 (m+2) M (r:Int) (i:Int) (PQ s l n)) (sCode k r l)
 |_,_,_,0,_,_,_,_,h=>by omega
 |0,r,i,M+1,l,h,hi,_,_=>by
  have:i=4:=by omega
  subst this
  exact⟨h,rfl⟩
 |k+1,r,i,M+1,[],h,hi,hr,hM=>by
  have k4:decide ((i:Int)<4)=true:=decide_eq_true (by omega)
  have e1:decide ((48:Int)≤ -1)=false:=decide_eq_false (by omega)
  have e2:decide ((97:Int)≤ -1)=false:=decide_eq_false (by omega)
  have e3:decide ((65:Int)≤ -1)=false:=decide_eq_false (by omega)
  have e4:decide ((-1:Int)<0)=true:=decide_eq_true (by omega)
  refine⟨h,0,QE s (s.size-([]:List UInt8).length) n ((4:Nat):Int) ((s.size-([]:List UInt8).length:Nat):Int),?_,ee_of⟩
  rw[i13_l1,k4,cond_true,i13_j2,pk0,Option.bind_some]
  show (bif decide ((48:Int)≤ -1) then _ else i13_j3 (m+2) (i13_l1 (m+2) M) (r:Int) (i:Int) (-1) (-1) (i:Int) false (PQ s [] n))=_
  rw[e1,cond_false,i13_j3,cond_false,e2,cond_false,i13_j8,cond_false,e3,cond_false,i13_j9,cond_false,i13_j4,e4,cond_true,i13_j5,cond_true,flq,Option.bind_some]
  rfl
 |k+    1,r,i,M+1,c::t,h,hi,hr,hM=>by
  have hx:=hxV_le c
  rw[code_l (m+1) M r i h hs (by omega)]
  have er0:∀d:Int,(d<0∨(i=1∧r=13∧8≤d))→i13_j4 (m+2) (i13_l1 (m+2) M) (r:Int) (i:Int) d (i:Int) (PQ s (c::t) n)=some (0,false,QE s (s.size-(c::t).length) n ((4:Nat):Int) ((s.size-(c::t).length:Nat):Int)):=fun d hd=>by
   have h5:i13_j5 (m+2) (i13_l1 (m+2) M) (r:Int) d (i:Int) true (PQ s (c::t) n)=some (0,false,QE s (s.size-(c::t).length) n ((4:Nat):Int) ((s.size-(c::t).length:Nat):Int)):=by
        simp only[i13_j5,cond_true,flq,Option.bind_some]
        rfl
   simp only[i13_j4]
   rcases hd with hd| ⟨rfl,rfl,hd⟩
   ·rw[decide_eq_true hd,cond_true,h5]
   ·    have d0:decide (d<0)=false:=decide_eq_false (by omega)
        have d1:decide (8≤d)=true:=decide_eq_true hd
        rw[d0,d1,cond_false]
        exact h5
  have i4:16^i≤4096:=Nat.pow_le_pow_right (n:=16) (by omega) (show i≤3 by omega)
  simp only[sCode]
  by_cases h16:hxV c=16∨(k=2∧r=13∧8≤hxV c)
  ·rw[if_pos h16]
   refine⟨h,0,_,er0 _ ?_,ee_of⟩
   unfold dI
   by_cases h1:hxV c=16
   ·rw[if_pos h1];exact .inl (by omega)
   ·    rw[if_neg h1]
        rcases h16 with h2| ⟨h2,h3,h4⟩
        ·exact absurd h2 h1
        ·exact .inr ⟨by omega,h3,by omega⟩
  ·rw[   if_neg h16]
   have h1:hxV c≠16:=fun h=>h16 (.inl h)
   have hdi:dI c=(hxV c:Int):=by unfold dI;rw[if_neg h1]
   have d0:decide ((hxV c:Int)<0)=false:=decide_eq_false (by omega)
   have h5:i13_j5 (m+2) (i13_l1 (m+2) M) (r:Int) (hxV c:Int) (i:Int) false (PQ s (c::t) n)=i13_l1 (m+2) M ((16*r+hxV c:Nat):Int) ((i+1:Nat):Int) (PQ s t n):=by
        simp only[i13_j5,i13_j6,i13_j7,cond_false,ad h hs,wrapS (show i<9223372036854775807 by omega),or32g (show r<65536 by omega) (show hxV c<16 by omega)]
   have ih:=code_sim m hs n k (16*r+hxV c) (i+1) M t (sf_tail h) (by omega) (by rw[Nat.pow_succ];omega) (by omega)
   have hj:i13_j4 (m+2) (i13_l1 (m+2) M) (r:Int) (i:Int) (dI c) (i:Int) (PQ s (c::t) n)=i13_l1 (m+2) M ((16*r+hxV c:Nat):Int) ((i+1:Nat):Int) (PQ s t n):=by
        rw[hdi]
        simp only[i13_j4,d0,cond_false]
        by_cases hk1:i=1
        ·have e1:((i:Int)==1)=true:=by rw[hk1];rfl
         rw[e1,cond_true]
         by_cases hr13:r=13
         ·have e2:((r:Int)==13)=true:=by rw[hr13];rfl
          have e3:decide ((8:Int)≤(hxV c:Int))=false:=decide_eq_false fun h8=>h16 (.inr ⟨by omega,hr13,by omega⟩)
          rw[e2,cond_true,e3,h5]
         ·have e2:((r:Int)==13)=false:=by rw[beq_eq_false_iff_ne];omega
          rw[e2,cond_false,h5]
        ·have e1:((i:Int)==1)=false:=by rw[beq_eq_false_iff_ne];omega
         rw[e1,cond_false,h5]
   rw[hj]
   exact ih
theorem esc_sim (m:Nat) {s:ByteArray} (hs:s.size<1000000000000) (n:Nat) {l:List UInt8} (h:Sf s l):Sim (fun r:Nat=>(r:Int)) (fun _=>n) s (i12 (m+8) (PQ s l n)) (sEsc l):=by
 cases l with
 |nil=>
  refine⟨h,0,QE s (s.size-([]:List UInt8).length) n ((4:Nat):Int) ((s.size-([]:List UInt8).length:Nat):Int),?_,ee_of⟩
  rw[i12]
  simp only[pk0,Option.bind_some]
  rfl
 |cons c t=>
  have hc:=u8lt c
  have w32:IntKind.wrap IntKind.i32 (c.toNat:Int)=(c.toNat:Int):=wrap32 (by omega) (by omega)
  have j0:∀b,((c.toNat=34∨c.toNat=92∨c.toNat=47)↔b=true)→Sim (fun r:Nat=>(r:Int)) (fun _=>n) s (i12_j0 (m+7) (c.toNat:Int) (c.toNat:Int) b (PQ s (c::t) n)) (sEsc (c::t)):=fun b hb=>by
   simp only[sEsc,i12_j0,i12_j1,ad h hs]
   by_cases h1:c.toNat=34∨c.toNat=92∨c.toNat=47
   ·    rw[if_pos h1,hb.1 h1]
        exact⟨sf_tail h,rfl⟩
   rw[if_neg h1]
   have hb0:b=false:=by rw[←Bool.not_eq_true];exact fun hx=>h1 (hb.2 hx)
   subst hb0
   rw[cond_false]
   by_cases h2:c.toNat=98
   ·    have e:((c.toNat:Int)==98)=true:=bqt (k:=98) h2
        rw[if_pos h2,e];exact⟨sf_tail h,rfl⟩
   have e:((c.toNat:Int)==98)=false:=bqf (k:=98) h2
   rw[if_neg h2,e,cond_false]
   by_cases h3:c.toNat=102
   ·    have e:((c.toNat:Int)==102)=true:=bqt (k:=102) h3
        rw[if_pos h3,e];exact⟨sf_tail h,rfl⟩
   have e:((c.toNat:Int)==102)=false:=bqf (k:=102) h3
   rw[if_neg h3,e,cond_false]
   by_cases h4:c.toNat=110
   ·    have e:((c.toNat:Int)==110)=true:=bqt (k:=110) h4
        rw[if_pos h4,e];exact⟨sf_tail h,rfl⟩
   have e:((c.toNat:Int)==110)=false:=bqf (k:=110) h4
   rw[if_neg h4,e,cond_false]
   by_cases h5:c.toNat=114
   ·    have e:((c.toNat:Int)==114)=true:=bqt (k:=114) h5
        rw[if_pos h5,e];exact⟨sf_tail h,rfl⟩
   have e:((c.toNat:Int)==114)=false:=bqf (k:=114) h5
   rw[if_neg h5,e,cond_false]
   by_cases h6:c.toNat=116
   ·    have e:((c.toNat:Int)==116)=true:=bqt (k:=116) h6
        rw[if_pos h6,e];exact⟨sf_tail h,rfl⟩
   have e:((c.toNat:Int)==116)=false:=bqf (k:=116) h6
   rw[if_neg h6,e,cond_false]
   by_cases h7:c.toNat=117
   ·    have e:((c.toNat:Int)==117)=true:=bqt (k:=117) h7
        rw[if_pos h7,e,cond_true]
        have hcd:=code_sim (m+4) hs n 4 0 0 (m+7) t (sf_tail h) rfl (by decide) (by omega)
        have hcd':Sim (fun r:Nat=>(r:Int)) (fun _=>n) s (i13 (m+7) (PQ s t n)) (sCode 4 0 t):=hcd
        cases hr:sCode 4 0 t with
        |er e l=>
         rw[hr] at hcd'
         obtain⟨p1,a,st,p2,p3⟩:=hcd'
         refine⟨p1,a,st,?_,p3⟩
         rw[p2];rfl
        |ok r l=>
         rw[hr] at hcd'
         obtain⟨p1,p2⟩:=hcd'
         refine⟨p1,?_⟩
         rw[p2];rfl
   have e:((c.toNat:Int)==117)=false:=bqf (k:=117) h7
   rw[if_neg h7,e,cond_false]
   exact⟨h,0,_,rfl,ee_of⟩
  rw[i12]
  simp only[pk (m+6) h hs,Option.bind_some,w32]
  by_cases h34:c.toNat=34
  ·have e:((c.toNat:Int)==34)=true:=bqt (k:=34) h34
   rw[e,cond_true]
   exact j0 true (by simp[h34])
  have e:((c.toNat:Int)==34)=false:=bqf (k:=34) h34
  rw[e,cond_false]
  by_cases h92:c.toNat=92
  ·have e:((c.toNat:Int)==92)=true:=bqt (k:=92) h92
   rw[e,cond_true]
   exact j0 true (by simp[h92])
  have e:((c.toNat:Int)==92)=false:=bqf (k:=92) h92
  rw[e,cond_false]
  refine j0 _ ?_
  have hk:((c.toNat:Int)==47)=true↔c.toNat=47:=by rw[beq_iff_eq];omega
  rw[hk]
  omega
theorem and63T:((List.range 256).all fun n=>andI .u8 (n:Int) 63==((n%64:Nat):Int))=true:=by kernel_rfl
theorem or128T:((List.range 64).all fun n=>orI .u8 128 (n:Int)==((128+n:Nat):Int))=true:=by kernel_rfl
theorem or192T:((List.range 32).all fun n=>orI .u8 192 (n:Int)==((192+n:Nat):Int))=true:=by kernel_rfl
theorem or224T:((List.range 16).all fun n=>orI .u8 224 (n:Int)==((224+n:Nat):Int))=true:=by kernel_rfl
theorem and63 {n:Nat} (h:n<256):andI .u8 (n:Int) 63=((n%64:Nat):Int):=eq_of_beq (List.all_eq_true.1 and63T n (List.mem_range.2 h))
theorem or128 {n:Nat} (h:n<64):orI .u8 128 (n:Int)=((128+n:Nat):Int):=eq_of_beq (List.all_eq_true.1 or128T n (List.mem_range.2 h))
theorem or192 {n:Nat} (h:n<32):orI .u8 192 (n:Int)=((192+n:Nat):Int):=eq_of_beq (List.all_eq_true.1 or192T n (List.mem_range.2 h))
theorem or224 {n:Nat} (h:n<16):orI .u8 224 (n:Int)=((224+n:Nat):Int):=eq_of_beq (List.all_eq_true.1 or224T n (List.mem_range.2 h))
theorem wrap8m (n:Nat):IntKind.wrap .u8 (n:Int)=((n%256:Nat):Int):=by
 unfold IntKind.wrap
 simp only[IntKind.bits,IntKind.signed,Bool.false_and,Bool.false_eq_true,if_false]
 omega
theorem wrapu32 {n:Int} (h1:0≤n) (h2:n<4294967296):IntKind.wrap IntKind.u32 n=n:=by
 unfold IntKind.wrap
 simp only[IntKind.bits,IntKind.signed,Bool.false_and,Bool.false_eq_true,if_false]
 omega
theorem shr6 (r:Nat):shrI .i32 (r:Int) 6=((r/64:Nat):Int):=by
 unfold shrI
 have h4:Nat.min (Int.toNat 6) IntKind.i32.bits=6:=rfl
 rw[h4,Int.fdiv_eq_ediv_of_nonneg _ (by decide)];omega
theorem shr12 (r:Nat):shrI .i32 (r:Int) 12=((r/4096:Nat):Int):=by
 unfold shrI
 have h4:Nat.min (Int.toNat 12) IntKind.i32.bits=12:=rfl
 rw[h4,Int.fdiv_eq_ediv_of_nonneg _ (by decide)];omega
theorem b8 {v:Nat} (h:v<256):Dt.int (v:Int)=Dt.int (((UInt8.ofNat v).toNat:Nat):Int):=by
 have:(UInt8.ofNat v).toNat=v:=by simp only[UInt8.toNat_ofNat'];omega
 rw[this]
theorem rune_g (m r:Nat) (a:List UInt8) (hr:r<65536) (hs:r<55296∨57343<r) (ha:a.length≤137438953000):i14 (m+2) (r:Int) (bytesI a)=some (bytesI (a++enc r)):=by
 have w:IntKind.wrap IntKind.u32 (r:Int)=(r:Int):=wrapu32 (by omega) (by omega)
 have hl:=enc_len r
 have A:=apI a (enc r) (by omega)
 by_cases h1:r<128
 ·have e:=rune_eq (m+1) r a h1 ha
  rw[e]
  unfold enc
  rw[if_pos h1]
 have e1:decide ((r:Int)≤127)=false:=decide_eq_false (by omega)
 have m1:andI .u8 (IntKind.wrap IntKind.u8 (r:Int)) 63=((r%64:Nat):Int):=by rw[wrap8m,and63 (by omega)];omega
 have m2:andI .u8 (IntKind.wrap IntKind.u8 ((r/64:Nat):Int)) 63=((r/64%64:Nat):Int):=by rw[wrap8m,and63 (by omega)];omega
 simp only[i14,w,e1,cond_false,i14_j0,i15]
 by_cases h2:r<2048
 ·have e2:decide ((r:Int)≤2047)=true:=decide_eq_true (by omega)
  have m3:IntKind.wrap IntKind.u8 ((r/64:Nat):Int)=((r/64:Nat):Int):=by rw[wrap8m];omega
  have E:bytesI (enc r)=[Dt.int ((192+r/64:Nat):Int),Dt.int ((128+r%64:Nat):Int)]:=by
   unfold enc
   rw[if_neg h1,if_pos h2,b8 (show 192+r/64<256 by omega),b8 (show 128+r%64<256 by omega)];rfl
  rw[E] at A
  simp only[e2,cond_true,shr6,m3,or192 (show r/64<32 by omega),m1,or128 (show r%64<64 by omega),A,Option.bind_some]
 have e2:decide ((r:Int)≤2047)=false:=decide_eq_false (by omega)
 have m3:IntKind.wrap IntKind.u8 ((r/4096:Nat):Int)=((r/4096:Nat):Int):=by rw[wrap8m];omega
 have E:bytesI (enc r)=[Dt.int ((224+r/4096:Nat):Int),Dt.int ((128+r/64%64:Nat):Int),Dt.int ((128+r%64:Nat):Int)]:=by
  unfold enc
  rw[if_neg h1,if_neg h2,b8 (show 224+r/4096<256 by omega),b8 (show 128+r/64%64<256 by omega),b8 (show 128+r%64<256 by omega)];rfl
 rw[E] at A
 have J:i15_j0 m (r:Int) (r:Int) true (bytesI a)=some (bytesI (a++enc r)):=by
  simp only[i15_j0,cond_true,shr12,shr6,m3,or224 (show r/4096<16 by omega),m1,m2,or128 (show r%64<64 by omega),or128 (show r/64%64<64 by omega),A,Option.bind_some]
 rw[e2,cond_false]
 rcases hs with hs|hs
 ·have e3:decide ((r:Int)<55296)=true:=decide_eq_true (by omega)
  rw[e3,cond_true,J];rfl
 ·have e3:decide ((r:Int)<55296)=false:=decide_eq_false (by omega)
  have e4:decide ((57343:Int)<(r:Int))=true:=decide_eq_true (by omega)
  have e5:decide ((r:Int)≤65535)=true:=decide_eq_true (by omega)
  rw[e3,cond_false,e4,cond_true,e5,J];rfl
theorem lit_sim (m:Nat) {s:ByteArray} (hs:s.size<1000000000) (n:Nat):∀(N M:Nat) (a l:List UInt8),N≤M→l.length<N→Sf s l→a.length+3*l.length≤100000000000→
  Sim (fun b:List UInt8=>(⟨b.toArray⟩:ByteArray)) (fun _=>n) s (i11_l1 (m+9) M (PQ s l n) (bytesI a)) (sLit N a l)
 |0,_,_,_,_,h,_,_=>by omega
 |_+1,0,_,_,h,_,_,_=>by omega
 |N+1,M+1,a,[],hM,hN,h,ha=>by
  refine⟨h,ByteArray.mk (List.toArray []),QE s (s.size-([]:List UInt8).length) n ((4:Nat):Int) ((s.size-([]:List UInt8).length:Nat):Int),?_,ee_of⟩
  simp only[i11_l1,pk0,Option.bind_some]
  rfl
 |N+    1,M+1,a,c::t,hM,hN,h,ha=>by
  have hc:=u8lt c
  rw[List.length_cons] at hN ha
  simp only[i11_l1,pk (m+8) h (show s.size<1000000000000 by omega),Option.bind_some,ad h (show s.size<1000000000000 by omega),sLit]
  by_cases h34:c.toNat=34
  ·have e:((c.toNat:Int)==34)=true:=bqt (k:=34) h34
   rw[if_pos h34,e,cond_true]
   refine⟨sf_tail h,?_⟩
   have hb:Nat.ble (bytesI a).length 137438953472=true:=ble_of (by rw[bytesI_len];omega)
   simp only[i11_j2,hb,cond_true,strI_ok,Option.bind_some]
  have e:((c.toNat:Int)==34)=false:=bqf (k:=34) h34
  rw[if_neg h34,e,cond_false]
  by_cases h32:c.toNat<32
  ·have e:decide ((c.toNat:Int)<32)=true:=decide_eq_true (by omega)
   rw[if_pos h32,e,cond_true]
   exact⟨h,ByteArray.mk (List.toArray []),_,rfl,ee_of⟩
  have e:decide ((c.toNat:Int)<32)=false:=decide_eq_false (by omega)
  rw[if_neg h32,e,cond_false]
  by_cases h92:c.toNat=92
  ·have e:((c.toNat:Int)==92)=true:=bqt (k:=92) h92
   rw[if_pos h92,e,cond_true]
   have he:=esc_sim (m+1) (show s.size<1000000000000 by omega) n (sf_tail h)
   have ho:=sEsc_ok t
   cases hr:sEsc t with
   |    er e l=>
        rw[hr] at he
        obtain⟨p1,b,st,p2,p3⟩:=he
        refine⟨p1,ByteArray.mk (List.toArray []),st,?_,p3⟩
        rw[p2];rfl
   |    ok r l=>
        rw[hr] at he ho
        obtain⟨p1,p2⟩:=he
        have hl:=enc_len r
        have ih:=lit_sim m hs n N M (a++enc r) l (by omega) (by omega) p1 (by rw[List.length_append];omega)
        have hru:=rune_g (m+7) r a ho.2.1 ho.2.2 (by omega)
        rw[p2]
        show Sim _ _ s (i11_j3 (m+9) (i11_l1 (m+9) M) (r:Int) (PQ s l n) (bytesI a)) (sLit N (a++enc r) l)
        have hru':i14 (m+9) (r:Int) (bytesI a)=some (bytesI (a++enc r)):=hru
        simp only[i11_j3,hru',Option.bind_some]
        exact ih
  ·have e:((c.toNat:Int)==92)=false:=bqf (k:=92) h92
   rw[if_neg h92,e,cond_false]
   have w8:IntKind.wrap IntKind.u8 (c.toNat:Int)=(c.toNat:Int):=wrap8 (by omega) (by omega)
   have a1:app (bytesI a) [Dt.int (c.toNat:Int)]=some (bytesI (a++[c])):=apI a [c] (by simp;omega)
   rw[w8,a1,Option.bind_some]
   exact lit_sim m hs n N M (a++[c]) t (by omega) (by omega) (sf_tail h) (by rw[List.length_append,List.length_singleton];omega)
theorem literal_sim (m:Nat) {s:ByteArray} (hs:s.size<1000000000) (n:Nat) {c:UInt8} {t:List UInt8} (h:Sf s (c::t)) (hm:t.length≤m):
  Sim (fun b:List UInt8=>(⟨b.toArray⟩:ByteArray)) (fun _=>n) s (i11 (m+12) (PQ s (c::t) n)) (sLit (t.length+2) [] t):=by
 have hl:=sf_len h
 rw[List.length_cons] at hl
 have:=lit_sim (m+2) hs n (t.length+2) (m+12) [] t (by omega) (by omega) (sf_tail h) (by simp;omega)
 rw[i11]
 show Sim _ _ s (i11_l1 (m+11) (m+12) (Dt.agg [Dt.str (Dt.S (PQ s (c::t) n) 0),Dt.int (IntKind.wrap .i64 (Dt.I (PQ s (c::t) n) 1+1)),Dt.int (Dt.I (PQ s (c::t) n) 2),Dt.int (Dt.I (PQ s (c::t) n) 3),Dt.int (Dt.I (PQ s (c::t) n) 4)]) (bytesI [])) _
 rw[ad h (by omega)]
 exact this
end Go.Proofs.YtmejbpmceflcjaaGreatDoor
namespace Go.Proofs.YtmejbpmceflcjaaGreatDoor
open Go.Am
theorem text_sim (m:Nat) {s:ByteArray} (hs:s.size<1000000000) (n:Nat) {c:UInt8} {t:List UInt8} (h:Sf s (c::t)) (hm:t.length≤m):
  Sim vText (fun _=>n) s (i10 (m+13) (PQ s (c::t) n)) (sTxt (c::t)):=by
 have hl:=literal_sim m hs n h hm
 rw[i10]
 show Sim vText (fun _=>n) s _ ((sLit (t.length+2) [] t).bd fun a r=>bif decide (4096<a.length) then .er 2 (c::t) else bif !(Lib.validD a) then .er 4 (c::t) else .ok a r)
 cases hr:sLit (t.length+2) [] t with
 |er e l=>
  rw[hr] at hl
  obtain⟨p1,b,st,p2,p3⟩:=hl
  refine⟨p1,kza2373,st,?_,p3⟩
  rw[p2];rfl
 |ok a l=>
  rw[hr] at hl
  obtain⟨p1,p2⟩:=hl
  rw[p2]
  simp only[Rs.bd,Option.bind_some,Bool.not_true,cond_false,i10_j0]
  have ed:decide ((4096:Int)<((ByteArray.size ⟨a.toArray⟩:Nat):Int))=decide (4096<a.length):=by rw[mkB_size];simp;omega
  rw[ed]
  cases decide (4096<a.length)
  ·simp only[cond_false,i10_j1,utf8_ValidString]
   show Sim vText (fun _=>n) s ((some (Lib.validD a)).bind _) _
   rw[Option.bind_some]
   cases Lib.validD a
   ·exact⟨h,kza2373,_,rfl,ee_of⟩
   ·exact⟨p1,rfl⟩
  ·exact⟨h,kza2373,_,rfl,ee_of⟩
theorem word_sl (m:Nat) {s:ByteArray} (hs:s.size<1000000000) (n:Nat) (w:ByteArray) (hw:w.size<1000):∀(M k:Nat) (l:List UInt8),k≤w.size→w.size-k<M→Sf s l→
  match sWd (w.data.toList.drop k) l with
  | .er e l'=>Sf s l'∧∃st,i24_l1 (m+2) M w (w.size:Int) (k:Int) (PQ s l n)=some (false,st)∧Ee s st e l'
  | .ok _ l'=>Sf s l'∧i24_l1 (m+2) M w (w.size:Int) (k:Int) (PQ s l n)=some (true,PQ s l' n)
 |0,k,l,_,h,_=>by omega
 |M+    1,k,l,hk,hM,h=>by
  simp only[i24_l1,dlt]
  by_cases hlt:k<w.size
  ·have hc:=u8lt w[k]
   rw[getB w k hlt]
   have wk:IntKind.wrap .i64 ((w[k]).toNat:Int)=((w[k]).toNat:Int):=wrap64 (by omega) (by omega)
   cases l with
   |    nil=>
        refine⟨h,QE s (s.size-([]:List UInt8).length) n ((4:Nat):Int) ((s.size-([]:List UInt8).length:Nat):Int),?_,ee_of⟩
        have e:((-1:Int) !=((w[k]).toNat:Int))=true:=by
         unfold bne
         rw[Bool.not_eq_true',beq_eq_false_iff_ne];omega
        simp only[hlt,decide_true,cond_true,i24_j2,pk0,Option.bind_some,idxS_lt hlt,wk,e,flq]
        rfl
   |    cons c r=>
        have hc2:=u8lt c
        simp only[hlt,decide_true,cond_true,i24_j2,pk (m+1) h (show s.size<1000000000000 by omega),Option.bind_some,idxS_lt hlt,wk,sWd]
        by_cases hcw:c=w[k]
        ·have e:((c.toNat:Int) !=((w[k]).toNat:Int))=false:=by rw[hcw];simp
         have ih:=word_sl m hs n w hw M (k+1) r (by omega) (by omega) (sf_tail h)
         simp only[hcw,if_true] at ih ⊢
         rw[hcw] at e h
         simp only[e,cond_false,i24_j3,i24_j4,ad h (show s.size<1000000000000 by omega),wrapS (show k<9223372036854775807 by omega)]
         exact ih
        ·have e:((c.toNat:Int) !=((w[k]).toNat:Int))=true:=by
          unfold bne
          rw[Bool.not_eq_true',beq_eq_false_iff_ne]
          exact fun h=>hcw (UInt8.toNat_inj.1 (by omega))
         simp only[hcw,if_false,e,cond_true,flq]
         exact⟨h,_,rfl,ee_of⟩
  ·have:k=w.size:=by omega
   subst this
   rw[List.drop_eq_nil_of_le (by rw[lenB];omega)]
   simp only[hlt,decide_false,cond_false,i24_j5]
   exact⟨h,rfl⟩
theorem word_sim (m:Nat) {s:ByteArray} (hs:s.size<1000000000) (n:Nat) (w:List UInt8) (hw:w.length<100) {l:List UInt8} (h:Sf s l) (hm:100≤m):
  match sWd w l with
  | .er e l'=>Sf s l'∧∃st,i24 (m+3) ⟨w.toArray⟩ (PQ s l n)=some (false,st)∧Ee s st e l'
  | .ok _ l'=>Sf s l'∧i24 (m+3) ⟨w.toArray⟩ (PQ s l n)=some (true,PQ s l' n):=by
 have hsz:(⟨w.toArray⟩:ByteArray).size=w.length:=mkB_size w
 have:=word_sl m hs n ⟨w.toArray⟩ (by omega) (m+3) 0 l (by omega) (by omega) h
 exact this
theorem isD_i {c:UInt8}:isD c=true↔48≤c.toNat∧c.toNat≤57:=by unfold isD;simp
theorem dg_all (l:List UInt8):∀c∈dgs l,48≤c.toNat∧c.toNat≤57:=fun c hc=>isD_i.1 (List.all_eq_true.1 List.all_takeWhile c hc)
theorem dg_app (l:List UInt8):dgs l++dgr l=l:=List.takeWhile_append_dropWhile
theorem dg_len (l:List UInt8):(dgs l).length+(dgr l).length=l.length:=by
 have:=congrArg List.length (dg_app l)
 rw[List.length_append] at this
 exact this
theorem sf_app {s:ByteArray}:∀{a b:List UInt8},Sf s (a++b)→Sf s b
 | [],_,h=>h
 |_::a,b,h=>sf_app (a:=a) (sf_tail (show Sf s (_::(a++b)) from h))
theorem int_sl (m:Nat) {s:ByteArray} (hs:s.size<1000000000) (n:Nat) (st:Int) (e0:Dt):∀(l:List UInt8) (M:Nat),Sf s l→l.length<M→
   i25_l3 (m+1) M st (PQ s l n) e0=i25_j5 (m+1) st (PQ s (dgr l) n) e0
 |_,0,_,h=>by omega
 | [],M+1,h,_=>by
   have e1:decide ((48:Int)≤ -1)=false:=rfl
   simp only[i25_l3,pk0,Option.bind_some,e1,cond_false]
   rfl
 | c::r,M+1,h,hM=>by
   rw[List.length_cons] at hM
   have ih:=int_sl m hs n st e0 r M (sf_tail h) (by omega)
   have hdr:dgr (c::r)=bif isD c then dgr r else c::r:=by
    unfold dgr
    rw[List.dropWhile_cons]
    cases isD c<;>rfl
   simp only[i25_l3,pk m h (show s.size<1000000000000 by omega),Option.bind_some]
   rw[hdr]
   by_cases h1:48≤c.toNat
   ·rw[decide_eq_true (show (48:Int)≤(c.toNat:Int) by omega),cond_true]
    by_cases h2:c.toNat≤57
    ·rw[decide_eq_true (show (c.toNat:Int)≤57 by omega),cond_true,isD_i.2 ⟨h1,h2⟩,cond_true,i25_j4,ad h (by omega),ih]
    ·rw[decide_eq_false (show ¬(c.toNat:Int)≤57 by omega),cond_false,show isD c=false by rw[←Bool.not_eq_true,isD_i];omega,cond_false]
   ·rw[decide_eq_false (show ¬(48:Int)≤(c.toNat:Int) by omega),cond_false,show isD c=false by rw[←Bool.not_eq_true,isD_i];omega,cond_false]
theorem parseM_big:∀(l:List UInt8) (a:Nat),(∀c∈l,48≤c.toNat∧c.toNat≤57)→18446744073709551615<vaD a l→a≤18446744073709551615→Lib.parseUintM 18446744073709551615 a l= .range
 | [],a,_,h,h2=>by
   have h:18446744073709551615<a:=h
   omega
 | c::r,a,hc,h,h2=>by
   have h1:=hc c (List.mem_cons_self ..)
   have e2:vaD a (c::r)=vaD (a*10+(c.toNat-48)) r:=by rw[Nat.mul_comm a 10];rfl
   rw[e2] at h
   rw[Lib.parseUintM,if_pos h1]
   by_cases h3:1844674407370955162≤a
   ·rw[if_pos h3]
   rw[if_neg h3]
   by_cases h4:18446744073709551615<a*10+(c.toNat-48)
   ·rw[if_pos h4]
   rw[if_neg h4]
   exact parseM_big r _ (fun x hx=>hc x (List.mem_cons_of_mem _ hx)) h (by omega)
theorem parseB_dg (l:List UInt8) (hl:l≠[]) (hc:∀c∈l,48≤c.toNat∧c.toNat≤57):Lib.parseUintB 64 l=if vaD 0 l≤18446744073709551615 then .ok (vaD 0 l) else .range:=by
 rw[Lib.parseUintB,if_neg hl]
 by_cases h:vaD 0 l≤18446744073709551615
 ·rw[if_pos h];exact parseM_ok l 0 hc h
 ·rw[if_neg h];exact parseM_big l 0 hc (by omega) (by omega)
theorem intSat_rng (l:List UInt8): -9223372036854775808≤Lib.intSat 64 l∧Lib.intSat 64 l≤9223372036854775807:=by
 unfold Lib.intSat
 split<;>exact⟨by decide,by decide⟩
theorem pint_ok {l:List UInt8} {v:Int} (hl:l.length≤1000000000) (h1: -9223372036854775808≤v) (h2:v≤9223372036854775807) (h:Lib.parseIntB 64 l= .ok v):strconv_ParseInt ⟨l.toArray⟩ 10 64=some (v,true):=by
 have hb:Nat.ble (ByteArray.mk (List.toArray l)).size 1000000000=true:=ble_of (by rw[mkB_size];omega)
 have e:(ByteArray.mk (List.toArray l)).data.toList=l:=by simp
 unfold strconv_ParseInt
 rw[hb,e,h]
 show (bif (decide (-9223372036854775808≤v)&&decide (v≤9223372036854775807)) then some (v,true) else none)=_
 rw[decide_eq_true h1,decide_eq_true h2];rfl
theorem pint_no {l:List UInt8} (hl:l.length≤1000000000) (h:Lib.parseIntB 64 l= .range):strconv_ParseInt ⟨l.toArray⟩ 10 64=some (Lib.intSat 64 l,false):=by
 have hb:Nat.ble (ByteArray.mk (List.toArray l)).size 1000000000=true:=ble_of (by rw[mkB_size];omega)
 have e:(ByteArray.mk (List.toArray l)).data.toList=l:=by simp
 obtain⟨h1,h2⟩:=intSat_rng l
 unfold strconv_ParseInt
 rw[hb,e,h]
 show (bif (decide (-9223372036854775808≤Lib.intSat 64 l)&&decide (Lib.intSat 64 l≤9223372036854775807)) then some (Lib.intSat 64 l,false) else none)=_
 rw[decide_eq_true h1,decide_eq_true h2];rfl
theorem pint_dg (mn:Bool) (l:List UInt8) (hl:l≠[]) (hln:l.length<1000000000) (hc:∀c∈l,48≤c.toNat∧c.toNat≤57):
  ∃w,strconv_ParseInt ⟨((bif mn then[45] else[])++l).toArray⟩ 10 64=some (w,decide (vaD 0 l≤(bif mn then 9223372036854775808 else 9223372036854775807)))∧(vaD 0 l≤(bif mn then 9223372036854775808 else 9223372036854775807)→w=bif mn then -((vaD 0 l:Nat):Int) else((vaD 0 l:Nat):Int)):=by
 have hp:=parseB_dg l hl hc
 cases mn
 ·simp only[cond_false,List.nil_append]
  cases l with
  |nil=>exact absurd rfl hl
  |cons c r=>
   have hcc:=hc c (List.mem_cons_self ..)
   have n45:¬c.toNat=45:=by omega
   by_cases h:vaD 0 (c::r)≤9223372036854775807
   ·    refine⟨((vaD 0 (c::r):Nat):Int),?_,fun _=>rfl⟩
        rw[decide_eq_true h]
        refine pint_ok (by omega) (by omega) (by omega) ?_
        rw[Lib.parseIntB,if_neg (by omega),hp,if_pos (by omega)]
        simp only[n45,not_false_eq_true,true_and,false_and,if_false]
        rw[if_neg (by omega)]
   ·    refine⟨Lib.intSat 64 (c::r),?_,fun h2=>absurd h2 h⟩
        rw[decide_eq_false h]
        refine pint_no (by omega) ?_
        rw[Lib.parseIntB,if_neg (by omega),hp]
        by_cases h3:vaD 0 (c::r)≤18446744073709551615
        ·rw[if_pos h3]
         simp only[n45,not_false_eq_true,true_and]
         rw[if_pos (by omega)]
        ·rw[if_neg h3]
 ·simp only[cond_true,List.singleton_append]
  have e45:(45:UInt8).toNat=45:=rfl
  by_cases h:vaD 0 l≤9223372036854775808
  ·refine⟨-((vaD 0 l:Nat):Int),?_,fun _=>rfl⟩
   rw[decide_eq_true h]
   refine pint_ok (by rw[List.length_cons];omega) (by omega) (by omega) ?_
   rw[Lib.parseIntB]
   simp only[e45]
   rw[if_pos (.inr trivial),hp,if_pos (by omega)]
   simp only[not_true_eq_false,false_and,if_false,true_and]
   rw[if_neg (by omega),if_pos trivial]
  ·refine⟨Lib.intSat 64 (45::l),?_,fun h2=>absurd h2 h⟩
   rw[decide_eq_false h]
   refine pint_no (by rw[List.length_cons];omega) ?_
   rw[Lib.parseIntB]
   simp only[e45]
   rw[if_pos (.inr trivial),hp]
   by_cases h3:vaD 0 l≤18446744073709551615
   ·    rw[if_pos h3]
        simp only[not_true_eq_false,false_and,if_false,true_and]
        rw[if_pos (by omega)]
   ·rw[if_neg h3]
theorem cut_sf {s:ByteArray} {a b:List UInt8} (h:Sf s (a++b)):cutS s ((s.size-(a++b).length:Nat):Int) ((s.size-b.length:Nat):Int)=some ⟨a.toArray⟩:=by
 have hl:=sf_len h
 have hd:=sf_drop h
 rw[List.length_append] at hl hd
 rw[cutS_nat (by rw[List.length_append];omega) (by omega)]
 congr 1
 refine nba_ext ?_
 rw[ByteArray.data_extract,Array.toList_extract]
 show (s.data.toList.drop (s.size-(a++b).length)).take (s.size-b.length-(s.size-(a++b).length))=a
 rw[List.length_append,hd,show s.size-b.length-(s.size-(a.length+b.length))=a.length by omega,List.take_left]
theorem int_j5g (m:Nat) {s:ByteArray} (hs:s.size<1000000000) (n:Nat) (mn:Bool) (d rest l:List UInt8) (hl:l=((bif mn then[45] else[])++d)++rest) (h:Sf s l) (hd:d≠[]) (hc:∀c∈d,48≤c.toNat∧c.toNat≤57) (e0:Dt):
  Sim vInt (fun _=>n) s (i25_j5 (m+1) ((s.size-l.length:Nat):Int) (PQ s rest n) e0) (bif decide (vaD 0 d≤(bif mn then 9223372036854775808 else 9223372036854775807)) then .ok (bif mn then -((vaD 0 d:Nat):Int) else((vaD 0 d:Nat):Int)) rest else .er 2 l):=by
 have h':=h
 rw[hl] at h'
 have hln:=sf_len h'
 rw[List.length_append,List.length_append] at hln
 obtain⟨w,hw1,hw2⟩:=pint_dg mn d hd (by omega) hc
 have hcut:=cut_sf h'
 rw[←hl] at hcut
 show Sim vInt (fun _=>n) s ((cutS s ((s.size-l.length:Nat):Int) ((s.size-rest.length:Nat):Int)).bind _) _
 rw[hcut]
 show Sim vInt (fun _=>n) s ((strconv_ParseInt ⟨((bif mn then[45] else[])++d).toArray⟩ 10 64).bind _) _
 rw[hw1,Option.bind_some]
 cases hle:decide (vaD 0 d≤(bif mn then 9223372036854775808 else 9223372036854775807))
 ·exact⟨h,kza2373,_,rfl,ee_of⟩
 ·rw[hw2 (of_decide_eq_true hle)]
  exact⟨sf_app h',rfl⟩
theorem int_j0g (m:Nat) {s:ByteArray} (hs:s.size<1000000000) (n:Nat) (mn:Bool) (t l:List UInt8) (hl:l=(bif mn then[45] else[])++t) (h:Sf s l) (ht:Sf s t) (hm:t.length≤m) (e0:Dt):
  Sim vInt (fun _=>n) s (i25_j0 (m+2) ((s.size-l.length:Nat):Int) mn (PQ s t n) e0) (sInt0 mn l t):=by
 cases t with
 |nil=>
  refine⟨ht,kza2373,QE s (s.size-([]:List UInt8).length) n ((4:Nat):Int) ((s.size-([]:List UInt8).length:Nat):Int),?_,ee_of⟩
  simp only[i25_j0,pk0,Option.bind_some]
  rfl
 |cons c r=>
  rw[List.length_cons] at hm
  have er1:i25_j1 (m+2) ((s.size-l.length:Nat):Int) (c.toNat:Int) true (PQ s (c::r) n) e0=some (kza2373,false,QE s (s.size-(c::r).length) n ((4:Nat):Int) ((s.size-(c::r).length:Nat):Int)):=by
   simp only[i25_j1,cond_true,flq,Option.bind_some]
   rfl
  simp only[i25_j0,pk (m+1) ht (show s.size<1000000000000 by omega),Option.bind_some,sInt0]
  cases hdg:isD c
  ·have hnd:c.toNat<48∨57<c.toNat:=by
        have:¬(48≤c.toNat∧c.toNat≤57):=by rw[←isD_i,hdg];simp
        omega
   refine⟨ht,kza2373,QE s (s.size-(c::r).length) n ((4:Nat):Int) ((s.size-(c::r).length:Nat):Int),?_,ee_of⟩
   rcases hnd with h1|h1
   ·rw[decide_eq_true (show (c.toNat:Int)<48 by omega),cond_true,er1]
   ·rw[decide_eq_false (show ¬(c.toNat:Int)<48 by omega),cond_false,decide_eq_true (show (57:Int)<(c.toNat:Int) by omega),cond_true,er1]
  have hdi:=isD_i.1 hdg
  rw[decide_eq_false (show ¬(c.toNat:Int)<48 by omega),cond_false,decide_eq_false (show ¬(57:Int)<(c.toNat:Int) by omega),cond_false]
  have hz:((c.toNat:Int)==48)=decide (c.toNat=48):=by rw[Bool.eq_iff_iff,beq_iff_eq,decide_eq_true_eq];omega
  by_cases hb:mn=true∧c.toNat=48
  ·obtain⟨rfl,h48⟩:=hb
   rw[hz,decide_eq_true h48,cond_true,er1]
   exact⟨ht,kza2373,_,rfl,ee_of⟩
  have hq:(!true||(mn&&decide (c.toNat=48)))=false:=by
   cases mn
   ·rfl
   ·    have:c.toNat≠48:=fun h=>hb ⟨rfl,h⟩
        rw[decide_eq_false this];rfl
  rw[hq,cond_false]
  have hj:(bif mn then i25_j1 (m+2) ((s.size-l.length:Nat):Int) (c.toNat:Int) ((c.toNat:Int)==48) (PQ s (c::r) n) e0 else i25_j1 (m+2) ((s.size-l.length:Nat):Int) (c.toNat:Int) false (PQ s (c::r) n) e0)=i25_j2 (m+2) ((s.size-l.length:Nat):Int) (c.toNat:Int) (PQ s (c::r) n) e0:=by
   cases mn
   ·rw[cond_false,i25_j1,cond_false]
   ·    have:c.toNat≠48:=fun h=>hb ⟨rfl,h⟩
        rw[cond_true,hz,decide_eq_false this,i25_j1,cond_false]
  rw[hj,i25_j2,ad ht (by omega)]
  by_cases h48:c.toNat=48
  ·have hmn:mn=false:=by
        cases mn
        ·rfl
        ·exact absurd ⟨rfl,h48⟩ hb
   subst hmn
   have e:((c.toNat:Int) !=48)=false:=by rw[h48];rfl
   rw[e,cond_false,decide_eq_true h48,cond_true]
   have hj5:=int_j5g (m+1) hs n false [c] r l (by rw[hl];rfl) h (by simp) (fun x hx=>by rw[List.mem_singleton] at hx;subst hx;omega) e0
   have hv:vaD 0 [c]=0:=by show 10*0+(c.toNat-48)=0;omega
   rw[hv] at hj5
   exact hj5
  ·have e:((c.toNat:Int) !=48)=true:=by unfold bne;rw[hz,decide_eq_false h48];rfl
   rw[e,cond_true,decide_eq_false h48,cond_false,int_sl (m+1) hs n _ _ r (Nat.succ (m+2)) (sf_tail ht) (by omega)]
   exact int_j5g (m+1) hs n mn (c::dgs r) (dgr r) l (by rw[hl,List.append_assoc,List.cons_append,dg_app]) h (by simp) (fun x hx=>by
        rcases List.mem_cons.1 hx with rfl|hx
        ·exact hdi
        ·exact dg_all r x hx) e0
theorem int_sim (m:Nat) {s:ByteArray} (hs:s.size<1000000000) (n:Nat) {c:UInt8} {r:List UInt8} (h:Sf s (c::r)) (hm:r.length<m):
  Sim vInt (fun _=>n) s (i25 (m+3) (PQ s (c::r) n)) (sInt (c::r)):=by
 rw[i25]
 simp only[pk (m+1) h (show s.size<1000000000000 by omega),Option.bind_some,sInt,ad h (show s.size<1000000000000 by omega)]
 have hz:((c.toNat:Int)==45)=decide (c.toNat=45):=by rw[Bool.eq_iff_iff,beq_iff_eq,decide_eq_true_eq];omega
 rw[hz]
 by_cases h45:c.toNat=45
 ·have hc:c=45:=UInt8.toNat_inj.1 h45
  subst hc
  exact int_j0g m hs n true r (45::r) rfl h (sf_tail h) (by omega) kza2373
 ·rw[decide_eq_false h45]
  exact int_j0g m hs n false (c::r) (c::r) rfl h h (by rw[List.length_cons];omega) kza2373
theorem any_seen {mp:List Dt} {seen:List ByteArray} (h:MapS mp seen) (nm:ByteArray):(mgetD mp nm (Dt.bool false)).toBool=seen.any (eqb nm):=h nm
theorem name_sim (m:Nat) {s:ByteArray} (hs:s.size<1000000000) (n:Nat) (mp:List Dt) (seen:List ByteArray) (hmp:MapS mp seen) {l:List UInt8} (h:Sf s l) (hm:l.length+200≤m):
  match sNam seen l with
  | .er e l'=>Sf s l'∧∃nm st,i19 (m+13) (PQ s l n) mp=some (nm,false,st,mp)∧Ee s st e l'
  | .ok nm l'=>Sf s l'∧i19 (m+13) (PQ s l n) mp=some (nm,true,PQ s l' n,mp):=by
 cases l with
 |nil=>
  refine⟨h,ByteArray.mk (List.toArray []),QE s (s.size-([]:List UInt8).length) n ((4:Nat):Int) ((s.size-([]:List UInt8).length:Nat):Int),?_,ee_of⟩
  rw[i19]
  simp only[pk0,Option.bind_some]
  rfl
 |cons c t=>
  rw[List.length_cons] at hm
  have hs':s.size<1000000000000:=by omega
  rw[i19]
  simp only[pk (m+11) h hs',Option.bind_some,sNam]
  by_cases h34:c.toNat=34
  ·have e:( (c.toNat:Int) !=34)=false:=by rw[h34];rfl
   rw[e,cond_false,i19_j0]
   simp only[h34,if_true]
   have hl:=literal_sim m hs n h (by omega)
   have ho:=sLit_ok (t.length+2) [] t (by omega)
   cases hr:sLit (t.length+2) [] t with
   |    er e l=>
        rw[hr] at hl
        obtain⟨p1,b,st,p2,p3⟩:=hl
        refine⟨p1,ByteArray.mk (List.toArray []),st,?_,p3⟩
        rw[p2];rfl
   |    ok a l=>
        rw[hr] at hl ho
        obtain⟨p1,p2⟩:=hl
        rw[p2]
        simp only[Rs.bd,Option.bind_some,Bool.not_true,cond_false,i19_j1]
        have ed:decide ((128:Int)<((ByteArray.size ⟨a.toArray⟩:Nat):Int))=decide (128<a.length):=by rw[mkB_size];simp;omega
        rw[ed]
        cases h128:decide (128<a.length)
        ·have h128:=of_decide_eq_false h128
         have hsz:(⟨a.toArray⟩:ByteArray).size=a.length:=mkB_size a
         have hf:=isField_eq (m+11) ⟨a.toArray⟩ (by omega) (by omega)
         rw[hsz] at hf
         have hf':notation_isField (m+12) ⟨a.toArray⟩=some (a.all okW&&decide (1≤a.length)):=hf
         simp only[cond_false,i19_j2,hf',Option.bind_some,hmp ⟨a.toArray⟩]
         cases hb:(a.all okW&&decide (1≤a.length))
         ·exact⟨h,ByteArray.mk (List.toArray []),_,rfl,ee_of⟩
         ·simp only[Bool.not_true,cond_false,Bool.false_or,i19_j3]
          cases seen.any (eqb ⟨a.toArray⟩)
          ·simp only[cond_false,i19_j4,blanks_sim (m+10) hs' n p1 (show l.length≤m+10 by omega),Option.bind_some]
           have q1:=sf_bl p1
           cases hbl:sBl l with
           |nil=>
            rw[hbl] at q1
            refine⟨q1,ByteArray.mk (List.toArray []),QE s (s.size-([]:List UInt8).length) n ((4:Nat):Int) ((s.size-([]:List UInt8).length:Nat):Int),?_,ee_of⟩
            simp only[pk0,Option.bind_some]
            rfl
           |cons x k=>
            rw[hbl] at q1
            have hll:=sBl_len l
            rw[hbl,List.length_cons] at hll
            simp only[pk (m+11) q1 hs',Option.bind_some]
            by_cases h58:x.toNat=58
            ·     have e:((x.toNat:Int) !=58)=false:=by rw[h58];rfl
                  simp only[e,cond_false,i19_j5,ad q1 hs',blanks_sim (m+10) hs' n (sf_tail q1) (show k.length≤m+10 by omega),Option.bind_some,h58,if_true]
                  exact⟨sf_bl (sf_tail q1),rfl⟩
            ·     have e:((x.toNat:Int) !=58)=true:=by unfold bne;rw[Bool.not_eq_true',beq_eq_false_iff_ne];omega
                  simp only[e,cond_true,h58,if_false,flq]
                  exact⟨q1,ByteArray.mk (List.toArray []),_,rfl,ee_of⟩
          ·exact⟨h,ByteArray.mk (List.toArray []),_,rfl,ee_of⟩
        ·exact⟨h,ByteArray.mk (List.toArray []),_,rfl,ee_of⟩
  ·have e:((c.toNat:Int) !=34)=true:=by unfold bne;rw[Bool.not_eq_true',beq_eq_false_iff_ne];omega
   rw[e,cond_true]
   simp only[h34,if_false]
   exact⟨h,ByteArray.mk (List.toArray []),_,rfl,ee_of⟩
end Go.Proofs.YtmejbpmceflcjaaGreatDoor
namespace Go.Proofs.YtmejbpmceflcjaaGreatDoor
open Go.Am
theorem mx_ub {f:Dt→Nat} {k:Nat}:∀{L:List Dt},(∀e∈L,f e≤k)→mx f L≤k
 | [],_=>Nat.zero_le _
 |a::r,h=>by
  have h1:=h a (List.mem_cons_self ..)
  have h2:=mx_ub fun e he=>h e (List.mem_cons_of_mem _ he)
  simp only[mx];omega
theorem erF_all {g:Dt→Int}:∀{L:List Dt},(∀e∈L,g e=0)→erF g L=0
 | [],_=>rfl
 |a::r,h=>by
  rw[erF_cons,h a (List.mem_cons_self ..),erF_all fun e he=>h e (List.mem_cons_of_mem _ he)];rfl
theorem sum_app (f:Dt→Nat) (a:List Dt) (e:Dt):((a++[e]).map f).sum=(a.map f).sum+f e:=by simp
theorem fl_snoc (p:ByteArray→Bool) (self:Dt→Bool) (f:Dt):∀(a:List Dt) (seen:List ByteArray),fl p self seen (a++[f])=(fl p self seen a&&(p (Dt.S f 0)&&!((seen++a.map fun x=>Dt.S x 0).any (eqb (Dt.S f 0)))&&self (Dt.fld f 1)))
 | [],seen=>by simp[fl]
 |x::r,seen=>by
  simp only[List.cons_append,fl,fl_snoc p self f r,List.map_cons]
  rw[List.append_assoc,List.singleton_append,Bool.and_assoc,Bool.and_assoc,Bool.and_assoc]
  simp only[Bool.and_assoc]
theorem nil_tl:(ByteArray.toList (ByteArray.mk (List.toArray []))==[])=true:=by rw[ByteArray.toList_eq];rfl
structure Ge (lv:Nat) (v:Dt):Prop where
 wv:WV v
 wr:WR v
 sn:∀N,v.bulk≤N→sndF wd N v=true
 pe:∀N,v.bulk≤N→perr N v=0
 dp:lv+1+dpt v≤17
structure Gv (lv:Nat) (late:Bool) (n L:Nat) (v:Dt) (n' L':Nat):Prop where
 wv:WV v
 wr:WR v
 sn:∀N,v.bulk≤N→sndF wd N v=true
 pe:∀N,v.bulk≤N→perr N v=0
 nd:n+nds v≤n'+adj late v
 nn:n'≤1024
 dp:lv+dpt v≤17+adj late v
 bk:v.bulk+10*L'≤10*L
 ln:L'<L
theorem rg0:rgI 0:=by unfold rgI;omega
theorem sc_wv (k i:Int) (t:ByteArray):WV (Dt.agg [Dt.int k,Dt.int i,Dt.str t,Dt.lst [],Dt.lst []]):=WV.mk (fun e he=>by cases he) (fun e he=>by cases he)
theorem sc_wr (k i:Int) (t:ByteArray) (hi:rgI i):WR (Dt.agg [Dt.int k,Dt.int i,Dt.str t,Dt.lst [],Dt.lst []]):=WR.mk hi (fun e he=>by cases he) (fun e he=>by cases he)
theorem sc_bk (k i:Int) (t:ByteArray):(Dt.agg [Dt.int k,Dt.int i,Dt.str t,Dt.lst [],Dt.lst []]).bulk=t.size+6:=by
 rw[bulk_val]
 show 0+0+(t.size+6)=_
 omega
theorem sc_prts (k i:Int) (t:ByteArray):prts (Dt.agg [Dt.int k,Dt.int i,Dt.str t,Dt.lst [],Dt.lst []])=[]:=by
 unfold prts
 show (bif (k==6) then[] else bif (k==5) then List.map _ [] else[])=[]
 cases (k==6)<;>cases (k==5)<;>rfl
theorem sc_nds (k i:Int) (t:ByteArray):nds (Dt.agg [Dt.int k,Dt.int i,Dt.str t,Dt.lst [],Dt.lst []])=1:=by rw[nds_eq (sc_wv k i t),sc_prts];rfl
theorem sc_dpt (k i:Int) (t:ByteArray):dpt (Dt.agg [Dt.int k,Dt.int i,Dt.str t,Dt.lst [],Dt.lst []])=1:=by rw[dpt_eq (sc_wv k i t),sc_prts];rfl
theorem sc_sn (k i:Int) (t:ByteArray) (h:∀n,sndF wd (n+1) (Dt.agg [Dt.int k,Dt.int i,Dt.str t,Dt.lst [],Dt.lst []])=true):∀N,(Dt.agg [Dt.int k,Dt.int i,Dt.str t,Dt.lst [],Dt.lst []]).bulk≤N→sndF wd N (Dt.agg [Dt.int k,Dt.int i,Dt.str t,Dt.lst [],Dt.lst []])=true:=fun N hN=>by
 rw[sc_bk] at hN
 obtain⟨q,rfl⟩:∃q,N=q+1:=⟨N-1,by omega⟩
 exact h q
theorem sc_pe (k i:Int) (t:ByteArray) (h:k=7→t.size≤2048):∀N,perr N (Dt.agg [Dt.int k,Dt.int i,Dt.str t,Dt.lst [],Dt.lst []])=0
 |0=>rfl
 |N+1=>by
  show (bif (k==7) then(bif decide ((2048:Int)<(t.size:Int)) then(2:Int) else 0) else bif (k==6) then erF (perr N) [] else bif (k==5) then(bif spc [] then 4 else erF _ []) else 0)=0
  by_cases h7:k=7
  ·have:=h h7
   rw[decide_eq_false (show ¬(2048:Int)<(t.size:Int) by omega)]
   cases (k==7)<;>cases (k==6)<;>cases (k==5)<;>rfl
  ·rw[beq_eq_false_iff_ne.2 h7]
   cases (k==6)<;>cases (k==5)<;>rfl
theorem sn_text {a:List UInt8} (h1:a.length≤4096) (h2:Lib.validD a=true) (n:Nat):sndF wd (n+1) (vText a)=true:=by
 have e:(⟨a.toArray⟩:ByteArray).data.toList=a:=by simp
 have hsz:(⟨a.toArray⟩:ByteArray).size=a.length:=mkB_size a
 show (shp (vText a)&&(decide (((⟨a.toArray⟩:ByteArray).size:Int)≤4096)&&Lib.validD (⟨a.toArray⟩:ByteArray).data.toList))=true
 rw[hsz,e,h2,decide_eq_true (show (a.length:Int)≤4096 by omega)]
 rfl
theorem sn_int (v:Int) (n:Nat):sndF wd (n+1) (vInt v)=true:=by
 show ((true&&(ByteArray.toList (ByteArray.mk (List.toArray []))==[])&&true&&true)&&true)=true
 rw[nil_tl];rfl
theorem sn_null (n:Nat):sndF wd (n+1) (vK 2 0)=true:=by
 show ((true&&(ByteArray.toList (ByteArray.mk (List.toArray []))==[])&&true&&true)&&true)=true
 rw[nil_tl];rfl
theorem sn_min (n:Nat):sndF wd (n+1) (vK 1 0)=true:=by
 show ((true&&(ByteArray.toList (ByteArray.mk (List.toArray []))==[])&&true&&true)&&true)=true
 rw[nil_tl];rfl
theorem sn_max (n:Nat):sndF wd (n+1) (vK 11 0)=true:=by
 show ((true&&(ByteArray.toList (ByteArray.mk (List.toArray []))==[])&&true&&true)&&true)=true
 rw[nil_tl];rfl
theorem sn_true (n:Nat):sndF wd (n+1) (vK 9 1)=true:=by
 show ((true&&(ByteArray.toList (ByteArray.mk (List.toArray []))==[])&&true&&true)&&true)=true
 rw[nil_tl];rfl
theorem sn_false (n:Nat):sndF wd (n+1) (vK 9 0)=true:=by
 show ((true&&(ByteArray.toList (ByteArray.mk (List.toArray []))==[])&&true&&true)&&true)=true
 rw[nil_tl];rfl
theorem sn_time {v:Int} (h:0≤v) (n:Nat):sndF wd (n+1) (vK 10 v)=true:=by
 show ((true&&(ByteArray.toList (ByteArray.mk (List.toArray []))==[])&&true&&true)&&decide ((0:Int)≤v))=true
 rw[nil_tl,decide_eq_true h];rfl
def vB (k:Int) (a:List UInt8):Dt:=Dt.agg [Dt.int k,Dt.int 0,Dt.str ⟨a.toArray⟩,Dt.lst [],Dt.lst []]
theorem sn_id {a:List UInt8} (h:a.length=12) (n:Nat):sndF wd (n+1) (vB 8 a)=true:=by
 have hsz:(⟨a.toArray⟩:ByteArray).size=a.length:=mkB_size a
 show ((true&&true&&true&&true)&&(((⟨a.toArray⟩:ByteArray).size:Int)==12))=true
 rw[hsz,h];rfl
theorem sn_bytes {a:List UInt8} (h:a.length≤4096) (n:Nat):sndF wd (n+1) (vB 7 a)=true:=by
 have hsz:(⟨a.toArray⟩:ByteArray).size=a.length:=mkB_size a
 show ((true&&true&&true&&true)&&decide (((⟨a.toArray⟩:ByteArray).size:Int)≤4096))=true
 rw[hsz,decide_eq_true (show (a.length:Int)≤4096 by omega)];rfl
theorem adj_pos {late:Bool} {v:Dt} (h:isTI v=true):adj late v=bif late then 1 else 0:=by
 unfold adj
 have h:(Dt.I v 0==4||Dt.I v 0==3)=true:=h
 rw[h,Bool.and_true]
theorem adj_no {late:Bool} {v:Dt} (h:isTI v=false):adj late v=0:=by
 unfold adj
 have h:(Dt.I v 0==4||Dt.I v 0==3)=false:=h
 rw[h,Bool.and_false];rfl
theorem sp_hex {s:ByteArray} (h:hexS s=true):(unh s.data.toList).length=s.size/2:=by
 unfold hexS at h
 have hp:=Nat.eq_of_beq_eq_true ((Bool.and_eq_true_iff).1 h).1
 exact unh_len (s.size/2) _ (by rw[lenB];omega)
theorem sp_ok {f:Dt} (h:spF f=true) (hw:WV (Dt.fld f 1)) (hr:WR (Dt.fld f 1)) (hsn:∀N,(Dt.fld f 1).bulk≤N→sndF wd N (Dt.fld f 1)=true):
  ∃k i t,spV f=Dt.agg [Dt.int k,Dt.int i,Dt.str t,Dt.lst [],Dt.lst []]∧rgI i∧(∀n,sndF wd (n+1) (spV f)=true)∧(k=7→t.size≤2048)∧t.size≤(Dt.S (Dt.fld f 1) 2).size∧k≠4∧k≠3:=by
 have h4:Dt.I (Dt.fld f 1) 0=4→(Dt.S (Dt.fld f 1) 2).size≤4096:=fun h4=>by
  obtain⟨q,hq⟩:∃q,(Dt.fld f 1).bulk=q+1:=⟨(Dt.fld f 1).bulk-1,by have:=bulk_pos (Dt.fld f 1);omega⟩
  have:=hsn _ (Nat.le_refl _)
  rw[hq] at this
  exact((snd_body this).2.2.1 h4).1
 obtain⟨hr1,_,_⟩:=wr_parts hr
 unfold spF at h
 unfold spV
 cases e1:eqb (Dt.S f 0) nmId
 ·rw[   e1,cond_false] at h
  rw[cond_false]
  cases e2:eqb (Dt.S f 0) nmBytes
  ·rw[e2,cond_false] at h
   rw[cond_false]
   cases e3:eqb (Dt.S f 0) nmTime
   ·    rw[e3,cond_false] at h
        rw[cond_false]
        cases e4:eqb (Dt.S f 0) nmMin
        ·exact⟨11,0,ByteArray.mk (List.toArray []),rfl,rg0,sn_max,by omega,Nat.zero_le _,by omega,by omega⟩
        ·exact⟨1,0,ByteArray.mk (List.toArray []),rfl,rg0,sn_min,by omega,Nat.zero_le _,by omega,by omega⟩
   ·    rw[e3,cond_true] at h
        have h0:=of_decide_eq_true (Bool.and_eq_true_iff.1 h).2
        exact⟨10,Dt.I (Dt.fld f 1) 1,ByteArray.mk (List.toArray []),rfl,hr1,sn_time h0,by omega,Nat.zero_le _,by omega,by omega⟩
  ·rw[e2,cond_true] at h
   obtain⟨k4,hx⟩:=Bool.and_eq_true_iff.1 h
   have h4:=h4 (by simpa using k4)
   have hl:=sp_hex hx
   have hsz:(⟨(unh (Dt.S (Dt.fld f 1) 2).data.toList).toArray⟩:ByteArray).size=(Dt.S (Dt.fld f 1) 2).size/2:=by rw[mkB_size,hl]
   exact⟨7,0,_,rfl,rg0,sn_bytes (by rw[hl];omega),fun _=>by omega,by omega,by omega,by omega⟩
 ·rw[e1,cond_true] at h
  obtain⟨h,h24⟩:=Bool.and_eq_true_iff.1 h
  obtain⟨k4,hx⟩:=Bool.and_eq_true_iff.1 h
  have h24:=Nat.eq_of_beq_eq_true h24
  have hl:=sp_hex hx
  have hsz:(⟨(unh (Dt.S (Dt.fld f 1) 2).data.toList).toArray⟩:ByteArray).size=(Dt.S (Dt.fld f 1) 2).size/2:=by rw[mkB_size,hl]
  exact⟨8,0,_,rfl,rg0,sn_id (by rw[hl];omega),by omega,by omega,by omega,by omega⟩
theorem shp_lst (L:List Dt):shp (vLst L)=true:=by
 show (true&&(ByteArray.toList (ByteArray.mk (List.toArray []))==[])&&true&&true)=true
 rw[nil_tl];rfl
theorem shp_doc (L:List Dt):shp (vDoc L)=true:=by
 show (true&&(ByteArray.toList (ByteArray.mk (List.toArray []))==[])&&true&&true)=true
 rw[nil_tl];rfl
theorem bk_lst (L:List Dt):(vLst L).bulk=Dt.bulkL L+6:=by
 unfold vLst
 rw[bulk_val]
 show Dt.bulkL L+0+(0+6)=_
 omega
theorem bk_doc (L:List Dt):(vDoc L).bulk=Dt.bulkL L+6:=by
 unfold vDoc
 rw[bulk_val]
 show 0+Dt.bulkL L+(0+6)=_
 omega
structure Ga (lv n0 L0:Nat) (a:List Dt) (n L:Nat):Prop where
 ge:∀e∈a,Ge lv e
 nd:n0+1+(a.map nds).sum≤n
 nn:n≤1024
 bk:Dt.bulkL a+10*L+10≤10*L0
 ln:L<L0
theorem ga_lst {lv n0 L0:Nat} {a:List Dt} {n L:Nat} (h:Ga lv n0 L0 a n L) (hlv:lv≤16) (late:Bool):Gv lv late n0 L0 (vLst a) n L:=by
 have hw:WV (vLst a):=WV.mk (fun e he=>(h.ge e he).wv) (fun e he=>by cases he)
 have hp:prts (vLst a)=a:=rfl
 have had:adj late (vLst a)=0:=adj_no rfl
 refine⟨hw,WR.mk rg0 (fun e he=>(h.ge e he).wr) (fun e he=>by cases he),fun N hN=>?_,fun N hN=>?_,?_,h.nn,?_,?_,h.ln⟩
 ·rw[bk_lst] at hN
  obtain⟨q,rfl⟩:∃q,N=q+1:=⟨N-1,by omega⟩
  rw[sndF_6 wd q (vLst a) rfl,shp_lst]
  exact List.all_eq_true.2 fun e he=>(h.ge e he).sn q (by have:=bulk_mem (show e∈a from he);omega)
 ·rw[bk_lst] at hN
  obtain⟨q,rfl⟩:∃q,N=q+1:=⟨N-1,by omega⟩
  exact erF_all fun e he=>(h.ge e he).pe q (by have:=bulk_mem (show e∈a from he);omega)
 ·rw[nds_eq hw,hp,had]
  have:=h.nd
  omega
 ·rw[dpt_eq hw,hp,had]
  have:mx dpt a≤16-lv:=mx_ub fun e he=>by have:=(h.ge e he).dp;omega
  omega
 ·rw[bk_lst]
  have:=h.bk
  omega
theorem gl_loop (lv n0 L0:Nat) (hlv:lv≤16) (late:Bool) (sv:Nat→List UInt8→Rs (Dt×Nat)) (hsv:∀n l,n≤1024→match sv n l with| .er e _=>e=2∨e=4| .ok v l'=>Gv (lv+1) false n l.length v.1 v.2 l'.length):∀(M:Nat) (a:List Dt) (n:Nat) (l:List UInt8),l.length<M→Ga lv n0 L0 a n l.length→
  match sLs sv M a n l with| .er e _=>e=2∨e=4| .ok v l'=>Gv lv late n0 L0 v.1 v.2 l'.length
 |0,_,_,_,h,_=>by omega
 |M+    1,a,n,l,hM,h=>by
  have h1:=hsv n l h.nn
  simp only[sLs]
  cases hr:sv n l with
  |er e l'=>rw[hr] at h1;exact h1
  |ok v l1=>
   rw[hr] at h1
   simp only[Rs.bd]
   have hb:=sBl_len l1
   have hln:=h1.ln
   have hg:∀k,k+1≤l1.length→Ga lv n0 L0 (a++[v.1]) v.2 k:=fun k hk=>by
        have p1:=h1.nd
        have p2:=h.nd
        have p3:=h1.bk
        have p4:=h.bk
        have p5:=h.ln
        have p6:=h1.dp
        rw[show adj false v.1=0 from rfl] at p1 p6
        refine⟨fun e he=>?_,by rw[sum_app];omega,h1.nn,by rw[bulkL_app'];show Dt.bulkL a+(v.1.bulk+0)+_+_≤_;omega,by omega⟩
        rcases List.mem_append.1 he with he|he
        ·exact h.ge e he
        ·rw[List.mem_singleton] at he
         subst he
         exact⟨h1.wv,h1.wr,h1.sn,h1.pe,by omega⟩
   cases hs:sBl l1 with
   |nil=>exact .inr rfl
   |    cons c t=>
        rw[hs,List.length_cons] at hb
        by_cases h93:c.toNat=93
        ·simp only[h93,if_true]
         exact ga_lst (hg t.length (by omega)) hlv late
        ·simp only[h93,if_false]
         by_cases h44:c.toNat=44
         ·simp only[h44,if_true]
          have ht:=sBl_len t
          exact gl_loop lv n0 L0 hlv late sv hsv M (a++[v.1]) v.2 (sBl t) (by omega) (hg _ (by omega))
         ·simp[h44]
structure Gd (lv n0 L0:Nat) (a:List Dt) (n L:Nat):Prop where
 ge:∀f∈a,(∃nm v,f=Dt.agg [Dt.str nm,v])∧Ge lv (Dt.fld f 1)
 nm:fl wd (fun _=>true) [] a=true
 nd:n0+1+(a.map fun f=>nds (Dt.fld f 1)).sum≤n
 nn:n≤1024
 bk:Dt.bulkL a+10*L+10≤10*L0
 ln:L<L0
theorem ga_doc {lv n0 L0:Nat} {a:List Dt} {n L:Nat} (h:Gd lv n0 L0 a n L) (hlv:lv≤16) (hsp:spc a=false) (late:Bool):Gv lv late n0 L0 (vDoc a) n L:=by
 have hw:WV (vDoc a):=WV.mk (fun e he=>by cases he) (fun f hf=>by
  obtain⟨⟨nm,v,rfl⟩,hg⟩:=h.ge f hf
  exact WF.mk hg.wv)
 have hp:prts (vDoc a)=a.map (·.fld 1):=rfl
 have had:adj late (vDoc a)=0:=adj_no rfl
 have hbm:∀f∈a,(Dt.fld f 1).bulk<Dt.bulkL a:=fun f hf=>by
  obtain⟨⟨nm,v,rfl⟩,hg⟩:=h.ge f hf
  have:=bulk_mem hf
  rw[bulk_fld] at this
  show v.bulk<_
  omega
 refine⟨hw,WR.mk rg0 (fun e he=>by cases he) (fun f hf=>by
  obtain⟨⟨nm,v,rfl⟩,hg⟩:=h.ge f hf
  exact WRF.mk hg.wr),fun N hN=>?_,fun N hN=>?_,?_,h.nn,?_,?_,h.ln⟩
 ·rw[bk_doc] at hN
  obtain⟨q,rfl⟩:∃q,N=q+1:=⟨N-1,by omega⟩
  rw[sndF_5 wd q (vDoc a) rfl,shp_doc]
  have hall:a.all (fun f=>sndF wd q (Dt.fld f 1))=true:=List.all_eq_true.2 fun f hf=>(h.ge f hf).2.sn q (by have:=hbm f hf;omega)
  have:=fl_and wd (fun _=>true) (sndF wd q) a []
  rw[h.nm,hall] at this
  exact this.symm
 ·rw[bk_doc] at hN
  obtain⟨q,rfl⟩:∃q,N=q+1:=⟨N-1,by omega⟩
  show (bif spc a then(4:Int) else erF (fun f=>perr q (Dt.fld f 1)) a)=0
  rw[hsp,cond_false]
  exact erF_all fun f hf=>(h.ge f hf).2.pe q (by have:=hbm f hf;omega)
 ·rw[nds_eq hw,hp,had,List.map_map]
  have:=h.nd
  show n0+(1+(a.map fun f=>nds (Dt.fld f 1)).sum)≤n+0
  omega
 ·rw[dpt_eq hw,hp,had]
  have:mx dpt (a.map (·.fld 1))≤16-lv:=mx_ub fun e he=>by
   obtain⟨f,hf,rfl⟩:=List.mem_map.1 he
   have:=(h.ge f hf).2.dp;omega
  omega
 ·rw[bk_doc]
  have:=h.bk
  omega
theorem go_loop (lv n0 L0:Nat) (hlv:lv≤16) (late:Bool) (sv:Bool→Nat→List UInt8→Rs (Dt×Nat)) (hsv:∀b n l,n≤1024→match sv b n l with| .er e _=>e=2∨e=4| .ok v l'=>Gv (lv+1) b n l.length v.1 v.2 l'.length):∀(M:Nat) (a:List Dt) (n:Nat) (l:List UInt8),l.length<M→Gd lv n0 L0 a n l.length→
  match sOb sv lv M a n l with| .er e _=>e=2∨e=4| .ok v l'=>Gv lv late n0 L0 v.1 v.2 l'.length
 |0,_,_,_,h,_=>by omega
 |M+    1,a,n,l,    hM,h=>by
  have hnm:=sNam_ok (a.map fun x=>Dt.S x 0) l
  simp only[sOb]
  cases hr0:sNam (a.map fun x=>Dt.S x 0) l with
  |er e l'=>rw[hr0] at hnm;exact hnm
  |ok nm  l1=>
   rw[hr0] at hnm
   obtain⟨n1,n2,n3,n4⟩:=hnm
   simp only[Rs.bd]
   have h1:=hsv (a.isEmpty&&isSp nm) n l1 h.nn
   cases hr:sv (a.isEmpty&&isSp nm) n l1 with
   |er e l'=>rw[hr] at h1;exact h1
   |    ok v l2 =>
        rw[hr] at h1
        simp only[]
        have hb:=sBl_len l2
        have hln:=h1.ln
        have p1:=h1.nd
        have p2:=h.nd
        have p3:=h1.bk
        have p4:=h.bk
        have p5:=h.ln
        have p6:=h1.dp
        have hg:∀k n2',k+1≤l2.length→n+nds v.1≤n2'→n2'≤1024→lv+1+dpt v.1≤17→Gd lv n0 L0 (a++[Dt.agg [Dt.str nm,v.1]]) n2' k:=fun k n2' hk hn2 hn3 hdp=>by
         refine⟨fun f hf=>?_,?_,by rw[List.map_append,List.sum_append];show n0+1+(_+(nds v.1+0))≤_;omega,hn3,by rw[bulkL_app'];show Dt.bulkL a+((Dt.agg [Dt.str nm,v.1]).bulk+0)+_+_≤_;rw[bulk_fld];omega,by omega⟩
         ·rcases List.mem_append.1 hf with hf|hf
          ·exact h.ge f hf
          · rw[List.mem_singleton] at hf
            subst hf
            exact⟨⟨nm,v.1,rfl⟩,h1.wv,h1.wr,h1.sn,h1.pe,hdp⟩
         ·rw[fl_snoc,h.nm,List.nil_append]
          show (true&&(wd nm&&!((a.map fun x=>Dt.S x 0).any (eqb nm))&&true))=true
          rw[n2,n3];rfl
        cases hs:sBl l2 with
        |nil=>exact .inr rfl
        |cons c t=>
         rw[hs,List.length_cons] at hb
         have ht:=sBl_len t
         by_cases hc:c.toNat=125∨c.toNat=44
         ·simp only  [hc,if_true]
          cases hq:decide (c.toNat=125)&&spc (a++[Dt.agg [Dt.str nm,v.1]])
          · have hsp:c.toNat=125→spc (a++[Dt.agg [Dt.str nm,v.1]])=false:=fun hc=>by
                rw[decide_eq_true hc] at hq
                exact hq
            rw[cond_false]
            cases hla:(a.isEmpty&&isSp nm)&&isTI v.1
            ·   have hnn:=h1.nn
                have had:adj (a.isEmpty&&isSp nm) v.1=0:=by
                  unfold adj
                  have e:((a.isEmpty&&isSp nm)&&(Dt.I v.1 0==4||Dt.I v.1 0==3))=false:=hla
                  rw[e];rfl
                rw[had] at p1 p6
                rw[cond_false]
                by_cases h125:c.toNat=125
                · simp only[h125,if_true]
                  exact ga_doc (hg t.length v.2 (by omega) (by omega) hnn (by omega)) hlv (hsp h125) late
                · simp only[h125,if_false]
                  exact go_loop lv n0 L0 hlv late sv hsv M _ v.2 (sBl t) (by omega) (hg _ v.2 (by omega) (by omega) hnn (by omega))
            ·   have had:adj (a.isEmpty&&isSp nm) v.1=1:=by
                  unfold adj
                  have e:((a.isEmpty&&isSp nm)&&(Dt.I v.1 0==4||Dt.I v.1 0==3))=true:=hla
                  rw[e];rfl
                rw[had] at p1 p6
                rw[cond_true]
                cases hct:cnt (lv+1) v.2
                · rw[cond_false]
                  have hcn:¬16<lv+1∧¬v.2=1024:=by
                    unfold cnt at hct
                    simpa using hct
                  have hnn:=h1.nn
                  have hd1:dpt v.1≤1:=by
                    have hti:isTI v.1=true:=(Bool.and_eq_true_iff.1 hla).2
                    have hk:Dt.I v.1 0=4∨Dt.I v.1 0=3:=by
                     unfold isTI at hti
                     simpa using hti
                    have hpr:prts v.1=[]:=by
                     unfold prts
                     rw[beq_eq_false_iff_ne.2 (show Dt.I v.1 0≠6 by omega),beq_eq_false_iff_ne.2 (show Dt.I v.1 0≠5 by omega)];rfl
                    rw[dpt_eq h1.wv,hpr]
                    exact Nat.le_refl _
                  by_cases h125:c.toNat=125
                  · simp only[h125,if_true]
                    exact ga_doc (hg t.length (v.2+1) (by omega) (by omega) (by omega) (by omega)) hlv (hsp h125) late
                  · simp only[h125,if_false]
                    exact go_loop lv n0 L0 hlv late sv hsv M _ (v.2+1) (sBl t) (by omega) (hg _ (v.2+1) (by omega) (by omega) (by omega) (by omega))
                ·exact .inl rfl
          · obtain⟨hq1,hq2⟩:=Bool.and_eq_true_iff.1 hq
            rw[cond_true]
            have ha:a=[]:=by
                match a,hq2 with
                | [],_=>rfl
                | [x],h=>cases h
                |x::y::r,h=>cases h
            subst ha
            have hsf:spF (Dt.agg [Dt.str nm,v.1])=true:=hq2
            obtain⟨k,i,tt,e1,e2,e3,e4,e5,e6,e7⟩:=sp_ok hsf h1.wv h1.wr h1.sn
            have hpos:=nds_pos h1.wv
            have e5:tt.size≤(Dt.S v.1 2).size:=e5
            have hvb:(Dt.S v.1 2).size+6≤v.1.bulk:=by
                have hw:=h1.wv
                generalize v.1=d at hw
                cases hw with
                | @mk k i t l ds hl hd=>
                  rw[bulk_val]
                  show t.size+6≤_
                  omega
            have hnn:=h1.nn
            have hadl:∀d:Dt,adj (([]:List Dt).isEmpty&&isSp nm) d≤1:=fun d=>by unfold adj;cases _&&_<;>simp
            have hadl:=hadl v.1
            have hno:adj late (spV (Dt.agg [Dt.str nm,v.1]))=0:=by
                rw[e1]
                refine adj_no ?_
                show (k==4||k==3)=false
                rw[beq_eq_false_iff_ne.2 e6,beq_eq_false_iff_ne.2 e7];rfl
            have hb0:Dt.bulkL []=0:=rfl
            show Gv lv late n0 L0 (spV (Dt.agg [Dt.str nm,v.1])) v.2 t.length
            refine⟨?_,?_,?_,?_,?_,hnn,?_,?_,by omega⟩
            ·rw[e1];exact sc_wv _ _ _
            ·rw[e1];exact sc_wr _ _ _ e2
            ·   rw[e1] at e3 ⊢
                exact sc_sn _ _ _ e3
            ·   rw[e1]
                exact fun N _=>sc_pe _ _ _ e4 N
            ·   rw[hno,e1,sc_nds]
                have:(([]:List Dt).map fun f=>nds (Dt.fld f 1)).sum=0:=rfl
                omega
            ·rw[hno,e1,sc_dpt];omega
            ·rw[e1,sc_bk];omega
         ·simp[hc]
theorem gv_main: ∀(N lv:Nat) (late:Bool) (n:Nat) (l:List UInt8),18≤N+lv→lv≤17→n≤1024→match sVal N lv late n l with| .er e _=>e=2∨e=4| .ok v l'=>Gv lv late n l.length v.1 v.2 l'.length
 |0,_,_,_,_,h,h2,_=>by omega
 |_+1,_,_,_,[],_,_,_=> .inr rfl
 |N+    1,lv,late,n,c::t,hN,hlv,hn=>by
  have hcn:cnt lv n=false→lv≤16∧n<1024:=fun h=>by
   unfold cnt at h
   have:¬16<lv∧¬n=1024:=by simpa using h
   omega
  simp only[sVal]
  cases hd:isD c||(decide (c.toNat=45)||decide (c.toNat=34))
  ·rw[   cond_false]
   by_cases ho:c.toNat=91∨c.toNat=123∨c.toNat=110∨c.toNat=116∨c.toNat=102
   ·    simp only[ho,if_true]
        cases hct:cnt lv n
        ·rw[cond_false]
         obtain⟨hlv6,hn4⟩:=hcn hct
         have wd:∀(w:List UInt8) (i:Int) (k:Int),rgI i→4≤w.length→k≠4→k≠3→k≠7→(∀n,sndF wd (n+1) (vK k i)=true)→match ((sWd w (c::t)).bd fun _ r=>Rs.ok (vK k i,n+1) r) with| .er e _=>e=2∨e=4| .ok v l'=>Gv lv late n (c::t).length v.1 v.2 l'.length:=fun w i k hi hw h4 h3 h7 hsn=>by
           have h1:=sWd_ok w (c::t)
           cases hr:sWd w (c::t) with
           |er e l'=>rw[hr] at h1;exact .inr h1
           |ok u l'=>
            rw[hr] at h1
            have h1:l'.length+w.length=(c::t).length:=h1
            have had:adj late (vK k i)=0:=by
               refine adj_no ?_
               show (k==4||k==3)=false
               rw[beq_eq_false_iff_ne.2 h4,beq_eq_false_iff_ne.2 h3];rfl
            have hn1:nds (vK k i)=1:=sc_nds _ _ _
            have hd1:dpt (vK k i)=1:=sc_dpt _ _ _
            have hb1:(vK k i).bulk=0+6:=sc_bk _ _ _
            show Gv lv late n (c::t).length (vK k i) (n+1) l'.length
            exact⟨sc_wv _ _ _,sc_wr _ _ _ hi,sc_sn _ _ _ hsn,fun N _=>sc_pe _ _ _ (fun h=>absurd h h7) N,by omega,by omega,by omega,by omega,by omega⟩
         have hbt:=sBl_len t
         by_cases h91:c.toNat=91
         · simp only[h91,if_true]
           cases hs:sBl t with
           |nil=>exact .inr rfl
           |cons x k=>
            rw[hs,List.length_cons] at hbt
            have hg0:∀L,L≤t.length→Ga lv n (c::t).length [] (n+1) L:=fun L hL=>by
               rw[List.length_cons]
               exact⟨fun e he=>(by cases he),by show n+1+0≤n+1;omega,by omega,by show 0+10*L+10≤_;omega,by omega⟩
            by_cases h93:x.toNat=93
            ·  simp only[h93,if_true]
               exact ga_lst (hg0 k.length (by omega)) hlv6 late
            ·  simp only[h93,if_false]
               refine gl_loop lv n (c::t).length hlv6 late _ (fun n l hn=>gv_main N (lv+1) false n l (by omega) (by omega) hn) (t.length+1) [] (n+1) (x::k) ?_ (hg0 _ ?_)
               ·rw[List.length_cons];omega
               ·rw[List.length_cons];omega
         · simp only[h91,if_false]
           by_cases h123:c.toNat=123
           ·simp only[h123,if_true]
            cases hs:sBl t with
            |nil=>exact .inr rfl
            |  cons x k=>
               rw[hs,List.length_cons] at hbt
               have hg0:∀L,L≤t.length→Gd lv n (c::t).length [] (n+1) L:=fun L hL=>by
                 rw[List.length_cons]
                 exact⟨fun e he=>(by cases he),rfl,by show n+1+0≤n+1;omega,by omega,by show 0+10*L+10≤_;omega,by omega⟩
               by_cases h125:x.toNat=125
               · simp only[h125,if_true]
                 exact ga_doc (hg0 k.length (by omega)) hlv6 rfl late
               · simp only[h125,if_false]
                 refine go_loop lv n (c::t).length hlv6 late _ (fun b n l hn=>gv_main N (lv+1) b n l (by omega) (by omega) hn) (t.length+1) [] (n+1) (x::k) ?_ (hg0 _ ?_)
                 ·rw[List.length_cons];omega
                 ·rw[List.length_cons];omega
           ·simp only[h123,if_false]
            by_cases h110:c.toNat=110
            ·  simp only[h110,if_true]
               exact wd _ 0 2 rg0 (by simp) (by omega) (by omega) (by omega) sn_null
            ·  simp only[h110,if_false]
               by_cases h116:c.toNat=116
               · simp only[h116,if_true]
                 exact wd _ 1 9 (by unfold rgI;omega) (by simp) (by omega) (by omega) (by omega) sn_true
               · simp only[h116,if_false]
                 exact wd _ 0 9 rg0 (by simp) (by omega) (by omega) (by omega) sn_false
        ·exact .inl rfl
   ·simp[ho]
  ·rw[   cond_true]
   cases hct:!late&&cnt lv n
   ·    rw[cond_false]
        have hll:late=false→lv≤16∧n<1024:=fun h=>by
         subst h
         exact hcn hct
        have hcnt:∀v:Dt,isTI v=true→nds v=1→dpt v=1→n+nds v≤(bif late then n else n+1)+adj late v∧(bif late then n else n+1)≤1024∧lv+dpt v≤17+adj late v:=fun v hv h1 h2=>by
         rw[adj_pos hv,h1,h2]
         cases late
         · have:=hll rfl
           simp only[cond_false]
           omega
         · simp only[cond_true]
           omega
        by_cases h34:c.toNat=34
        ·simp only[h34,if_true]
         have h1:=sTxt_ok c t
         cases hr:sTxt (c::t) with
         |er e l'=>rw[hr] at h1;exact h1
         | ok a l'=>
           rw[hr] at h1
           obtain⟨k1,k2,k3,k4⟩:=h1
           obtain⟨q1,q2,q3⟩:=hcnt (vText a) rfl (sc_nds _ _ _) (sc_dpt _ _ _)
           have hb1:(vText a).bulk=a.length+6:=by
            have:(vText a).bulk=(⟨a.toArray⟩:ByteArray).size+6:=sc_bk _ _ _
            rw[this,mkB_size]
           show Gv lv late n (c::t).length (vText a) _ l'.length
           exact⟨sc_wv _ _ _,sc_wr _ _ _ rg0,sc_sn _ _ _ (sn_text k3 k4),fun N _=>sc_pe _ _ _ (by omega) N,q1,q2,q3,by omega,k1⟩
        ·simp only[h34,if_false]
         have h1:=sInt_ok (c::t)
         cases hr:sInt (c::t) with
         |er e l'=>rw[hr] at h1;exact h1
         | ok a l'=>
           rw[hr] at h1
           obtain⟨k1,k2⟩:=h1
           obtain⟨q1,q2,q3⟩:=hcnt (vInt a) rfl (sc_nds _ _ _) (sc_dpt _ _ _)
           have hb1:(vInt a).bulk=0+6:=sc_bk _ _ _
           show Gv lv late n (c::t).length (vInt a) _ l'.length
           exact⟨sc_wv _ _ _,sc_wr _ _ _ k2,sc_sn _ _ _ (sn_int a),fun N _=>sc_pe _ _ _ (by omega) N,q1,q2,q3,by omega,k1⟩
   ·exact .inl rfl
theorem parse_good (l:List UInt8):match sParse l with| .er e _=>e=2∨e=4| .ok v _=>WV v∧WR v∧okF v=true∧perr v.bulk v=0∧v.bulk≤10*l.length:=by
 have h:=gv_main 20 1 false 0 (sBl l) (by omega) (by omega) (by omega)
 have hb:=sBl_len l
 unfold sParse
 cases hr:sVal 20 1 false 0 (sBl l) with
 |er e l'=>rw[hr] at h;exact h
 |ok v l'=>
  rw[hr] at h
  simp only[Rs.bd]
  cases hs:sBl l' with
  |nil=>
   have h1:=h.nd
   have h2:=h.nn
   have h3:=h.dp
   have h4:=h.bk
   rw[show adj false v.1=0 from rfl] at h1 h3
   refine⟨h.wv,h.wr,?_,h.pe _ (Nat.le_refl _),by omega⟩
   unfold okF
   rw[decide_eq_true (show nds v.1≤1024 by omega),decide_eq_true (show dpt v.1≤16 by omega),h.sn _ (Nat.le_refl _)];rfl
  |cons c t=>exact .inr rfl
end Go.Proofs.YtmejbpmceflcjaaGreatDoor
namespace Go.Proofs.YtmejbpmceflcjaaGreatDoor
open Go.Am
def Slf (s:ByteArray) (self:Int→Bool→Dt→Option (Dt×Bool×Dt)) (lv:Nat) (sv:Bool→Nat→List UInt8→Rs (Dt×Nat)):Prop:=
 ∀(b:Bool) (n:Nat) (l:List UInt8),n≤1024→Sf s l→Sim (fun v:Dt×Nat=>v.1) (fun v=>v.2) s (self (lv:Int) b (PQ s l n)) (sv b n l)
theorem cnt_sim (m:Nat) {s:ByteArray} {l:List UInt8} {n:Nat} (lv:Nat) (o:Int) (hn:n≤1024):i8 (m+2) (lv:Int) o (PQ s l n)=bif cnt lv n then some (false,QE s (s.size-l.length) n 2 o) else some (true,PQ s l (n+1)):=by
 unfold cnt
 have e1:decide (16<(lv:Int))=decide (16<lv):=by rw[Bool.eq_iff_iff];simp;omega
 have e2:((n:Int)==1024)=decide (n=1024):=by rw[Bool.eq_iff_iff,beq_iff_eq,decide_eq_true_eq];omega
 have key:∀b,i8_j0 (m+1) o b (PQ s l n)=bif b then some (false,QE s (s.size-l.length) n 2 o) else some (true,PQ s l (n+1)):=fun b=>by
  cases b
  ·show some (true,Dt.agg [Dt.str s,Dt.int ((s.size-l.length:Nat):Int),Dt.int (IntKind.wrap .i64 ((n:Int)+1)),Dt.int 0,Dt.int 0])=_
   rw[wrapS (show n<9223372036854775807 by omega)];rfl
  ·rfl
 show (bif decide (16<(lv:Int)) then i8_j0 (m+1) o true (PQ s l n) else i8_j0 (m+1) o ((n:Int)==1024) (PQ s l n))=_
 rw[e1,e2,key,key]
 cases decide (16<lv)<;>rfl
theorem list_sl (m:Nat) (self:Int→Bool→Dt→Option (Dt×Bool×Dt)) {s:ByteArray} (hs:s.size<1000000000) (lv:Nat) (hlv:lv≤16) (sv:Bool→Nat→List UInt8→Rs (Dt×Nat)) (hsf:Slf s self (lv+1) sv)
  (hg:∀n l,n≤1024→match sv false n l with| .er e _=>e=2∨e=4| .ok v l'=>Gv (lv+1) false n l.length v.1 v.2 l'.length) (e0:Dt):∀(N M:Nat) (a:List Dt) (n:Nat) (l:List UInt8),N≤M→l.length<N→l.length≤m→n≤1024→Sf s l→a.length+l.length≤1000000000→
  Sim (fun v:Dt×Nat=>v.1) (fun v=>v.2) s (i17_l1 (m+3) self M (lv:Int) (PQ s l n) e0 6 0 (ByteArray.mk (List.toArray [])) a []) (sLs (sv false) N a n l)
 |0,_,_,_,_,_,h,_,_,_,_=>by omega
 |_+1,0,_,_,_,h,_,_,_,_,_=>by omega
 |N+    1,M+1,a,n,l,hM,hN,hm,hn,h,ha=>by
  have hs':s.size<1000000000000:=by omega
  have w1:IntKind.wrap .i64 ((lv:Int)+1)=((lv+1:Nat):Int):=wrapS (by omega)
  have h1:=hsf false n l hn h
  have h2:=hg n l hn
  simp only[i17_l1,w1,sLs]
  cases hr:sv false n l with
  |er e l'=>
   rw[hr] at h1
   obtain⟨p1,b,st,p2,p3⟩:=h1
   refine⟨p1,kza2373,st,?_,p3⟩
   rw[p2];rfl
  |ok v l1=>
   rw[hr] at h1 h2
   obtain⟨p1,p2⟩:=h1
   have hl1:=h2.ln
   have ap:app a [v.1]=some (a++[v.1]):=app_le (by simp;omega)
   simp only[p2,Option.bind_some,Bool.not_true,cond_false,i17_j2,ap,blanks_sim (m+1) hs' v.2 p1 (show l1.length≤m+1 by omega),Rs.bd]
   have q1:=sf_bl p1
   have hb:=sBl_len l1
   cases hbl:sBl l1 with
   |    nil=>
        rw[hbl] at q1
        refine⟨q1,kza2373,QE s (s.size-([]:List UInt8).length) v.2 ((4:Nat):Int) ((s.size-([]:List UInt8).length:Nat):Int),?_,ee_of⟩
        simp only[pk0,Option.bind_some]
        rfl
   |    cons c t=>
        rw[hbl] at q1
        rw[hbl,List.length_cons] at hb
        simp only[pk (m+2) q1 hs',Option.bind_some]
        by_cases h93:c.toNat=93
        ·have f1:((c.toNat:Int) !=44)=true:=by rw[h93];rfl
         have f2:((c.toNat:Int) !=93)=false:=by rw[h93];rfl
         have f3:((c.toNat:Int)==93)=true:=by rw[h93];rfl
         rw[f1,cond_true,f2,i17_j3,cond_false,i17_j4,f3,cond_true,ad q1 hs',if_pos h93]
         exact⟨sf_tail q1,rfl⟩
        ·rw[if_neg h93]
         have f3:((c.toNat:Int)==93)=false:=bqf (k:=93) h93
         by_cases h44:c.toNat=44
         ·have f1:((c.toNat:Int) !=44)=false:=by rw[h44];rfl
          have ht:=sBl_len t
          rw[f1,cond_false,i17_j3,cond_false,i17_j4,f3,cond_false,ad q1 hs',if_pos h44]
          simp only[i17_j5,blanks_sim (m+1) hs' v.2 (sf_tail q1) (show t.length≤m+1 by omega),Option.bind_some]
          exact list_sl m self hs lv hlv sv hsf hg e0 N M (a++[v.1]) v.2 (sBl t) (by omega) (by omega) (by omega) h2.nn (sf_bl (sf_tail q1)) (by simp;omega)
         ·have f1:((c.toNat:Int) !=44)=true:=by unfold bne;rw[Bool.not_eq_true',beq_eq_false_iff_ne];omega
          have f2:((c.toNat:Int) !=93)=true:=by unfold bne;rw[f3];rfl
          rw[f1,cond_true,f2,i17_j3,cond_true,if_neg h44]
          exact⟨q1,kza2373,_,rfl,ee_of⟩
theorem list_sim (m:Nat) {s:ByteArray} (hs:s.size<1000000000) (lv:Nat) (hlv:lv≤16) (sv:Bool→Nat→List UInt8→Rs (Dt×Nat)) (hsf:Slf s (i7 (m+3)) (lv+1) sv)
  (hg:∀n l,n≤1024→match sv false n l with| .er e _=>e=2∨e=4| .ok v l'=>Gv (lv+1) false n l.length v.1 v.2 l'.length) (n:Nat) (hn:n≤1024) (hnil:sv false n []= .er 4 []) (c:UInt8) (t:List UInt8) (h:Sf s (c::t)) (hm:t.length≤m):
  Sim (fun v:Dt×Nat=>v.1) (fun v=>v.2) s (i17 (m+4) (lv:Int) (PQ s (c::t) n)) (match sBl t with| []=> .er 4 []|x::k=>if x.toNat=93 then .ok (vLst [],n) k else sLs (sv false) (t.length+1) [] n (x::k)):=by
 have hs':s.size<1000000000000:=by omega
 have q0:=sf_tail h
 have q1:=sf_bl q0
 have hb:=sBl_len t
 have hls:=sf_len h
 rw[List.length_cons] at hls
 rw[i17]
 simp only[ad h hs',blanks_sim (m+1) hs' n q0 (show t.length≤m+1 by omega),Option.bind_some]
 cases hbl:sBl t with
 |nil=>
  rw[hbl] at q1
  have h1:=hsf false n [] hn q1
  rw[hnil] at h1
  obtain⟨p1,b,st,p2,p3⟩:=h1
  have w1:IntKind.wrap .i64 ((lv:Int)+1)=((lv+1:Nat):Int):=wrapS (by omega)
  refine⟨p1,kza2373,st,?_,p3⟩
  simp only[pk0,Option.bind_some]
  show i17_l1 (m+3) (i7 (m+3)) (m+3+1) (lv:Int) (PQ s [] n) kza2373 6 0 (ByteArray.mk (List.toArray [])) [] []=_
  simp only[i17_l1,w1,p2]
  rfl
 |cons x k=>
  rw[hbl] at q1
  rw[hbl,List.length_cons] at hb
  simp only[pk (m+2) q1 hs',Option.bind_some]
  by_cases h93:x.toNat=93
  ·have f3:((x.toNat:Int)==93)=true:=by rw[h93];rfl
   rw[f3,cond_true,ad q1 hs',if_pos h93]
   exact⟨sf_tail q1,rfl⟩
  ·have f3:((x.toNat:Int)==93)=false:=bqf (k:=93) h93
   rw[f3,cond_false,if_neg h93]
   exact list_sl m (i7 (m+3)) hs lv hlv sv hsf hg kza2373 (t.length+1) (m+4) [] n (x::k) (by omega) (by rw[List.length_cons];omega) (by rw[List.length_cons];omega) hn q1 (by rw[List.length_cons];simp;omega)
theorem obj_j9g (m:Nat) (self:Int→Bool→Dt→Option (Dt×Bool×Dt)) (rec1:Int→Dt→Dt→Int→Int→ByteArray→List Dt→List Dt→List Dt→Option (Dt×Bool×Dt)) {s:ByteArray} (hs:s.size<1000000000) (lv:Int) (c:UInt8) (hc:c.toNat=125∨c.toNat=44) (t:List UInt8) (ht:Sf s t) (hm:t.length≤m) (n:Nat) (e0:Dt) (a:List Dt) (mp:List Dt):
  i18_j9 (m+2) self rec1 lv (c.toNat:Int) (PQ s t n) e0 5 0 (ByteArray.mk (List.toArray [])) [] a mp=if c.toNat=125 then some (vDoc a,true,PQ s t n) else rec1 lv (PQ s (sBl t) n) e0 5 0 (ByteArray.mk (List.toArray [])) [] a mp:=by
 by_cases h125:c.toNat=125
 ·have f:((c.toNat:Int)==125)=true:=by rw[h125];rfl
  rw[i18_j9,f,cond_true,if_pos h125]
  rfl
 ·have f:((c.toNat:Int)==125)=false:=bqf (k:=125) h125
  rw[i18_j9,f,cond_false,if_neg h125,i18_j10,blanks_sim m (show s.size<1000000000000 by omega) n ht hm,Option.bind_some]
theorem obj_j7g (m:Nat) (self:Int→Bool→Dt→Option (Dt×Bool×Dt)) (rec1:Int→Dt→Dt→Int→Int→ByteArray→List Dt→List Dt→List Dt→Option (Dt×Bool×Dt)) {s:ByteArray} (lv:Nat) (hlv:lv≤16) (late:Bool) (l1:List UInt8) (c:Int) (t:List UInt8) (n:Nat) (hn:n≤1024) (e0:Dt) (a:List Dt) (mp:List Dt) (v:Dt):
  i18_j7 (m+2) self rec1 (lv:Int) late ((s.size-l1.length:Nat):Int) c (PQ s t n) e0 5 0 (ByteArray.mk (List.toArray [])) [] a mp v=bif late&&isTI v then(bif cnt (lv+1) n then some (kza2373,false,QE s (s.size-t.length) n 2 ((s.size-l1.length:Nat):Int)) else i18_j9 (m+2) self rec1 (lv:Int) c (PQ s t (n+1)) e0 5 0 (ByteArray.mk (List.toArray [])) [] a mp) else i18_j9 (m+2) self rec1 (lv:Int) c (PQ s t n) e0 5 0 (ByteArray.mk (List.toArray [])) [] a mp:=by
 have w1:IntKind.wrap .i64 ((lv:Int)+1)=((lv+1:Nat):Int):=wrapS (by omega)
 have hct:=cnt_sim m (s:=s) (l:=t) (n:=n) (lv+1) ((s.size-l1.length:Nat):Int) hn
 unfold isTI
 rw[i18_j7]
 cases late
 ·simp only[cond_false,Bool.false_and,i18_j8]
 ·simp only[cond_true,Bool.true_and,w1,hct]
  cases (Dt.I v 0==4)
  ·cases (Dt.I v 0==3)
   ·simp only[cond_false,Bool.or_self,i18_j8]
   ·    simp only[cond_false,cond_true,Bool.or_true]
        cases cnt (lv+1) n
        ·simp only[cond_false,Option.bind_some,Bool.not_true,i18_j8]
        ·simp only[cond_true,Option.bind_some,Bool.not_false,i18_j8]
  ·simp only[cond_true,Bool.true_or]
   cases cnt (lv+1) n
   ·simp only[cond_false,Option.bind_some,Bool.not_true,i18_j8]
   ·simp only[cond_true,Option.bind_some,Bool.not_false,i18_j8]
theorem obj_sl (m:Nat) (self:Int→Bool→Dt→Option (Dt×Bool×Dt)) {s:ByteArray} (hs:s.size<1000000000) (lv n0 L0:Nat) (hlv:lv≤16) (sv:Bool→Nat→List UInt8→Rs (Dt×Nat)) (hsf:Slf s self (lv+1) sv)
  (hg:∀b n l,n≤1024→match sv b n l with| .er e _=>e=2∨e=4| .ok v l'=>Gv (lv+1) b n l.length v.1 v.2 l'.length) (e0:Dt):∀(N M:Nat) (a:List Dt) (n:Nat) (l:List UInt8) (mp:List Dt),N≤M→l.length<N→l.length+10000≤m→n≤1024→Sf s l→a.length+l.length≤1000000000→MapS mp (a.map fun x=>Dt.S x 0)→
  (∀f∈a,(Dt.S (Dt.fld f 1) 2).size≤4096)→
  Sim (fun v:Dt×Nat=>v.1) (fun v=>v.2) s (i18_l1 (m+13) self M (lv:Int) (PQ s l n) e0 5 0 (ByteArray.mk (List.toArray [])) [] a mp) (sOb sv lv N a n l)
 |0,_,_,_,_,_,_,h,_,_,_,_,_,_=>by omega
 |_+1,0,_,_,_,_,h,_,_,_,_,_,_,_=>by omega
 |N+    1,M+1,   a,n,l,mp,hM,hN,hm,hn,h,ha,hmp,htx=>by
  have hs':s.size<1000000000000:=by omega
  have w1:IntKind.wrap .i64 ((lv:Int)+1)=((lv+1:Nat):Int):=wrapS (by omega)
  have hnm:=name_sim m hs n mp (a.map fun x=>Dt.S x 0) hmp h (by omega)
  have hno:=sNam_ok (a.map fun x=>Dt.S x 0) l
  rw[sOb,i18_l1]
  cases hr0:sNam (a.map fun x=>Dt.S x 0) l with
  |er e l'=>
   rw[hr0] at hnm
   obtain⟨p1,nm,st,p2,p3⟩:=hnm
   refine⟨p1,kza2373,st,?_,p3⟩
   rw[p2];rfl
  |ok nm  l1=>
   rw[hr0] at hnm hno
   obtain⟨q1,q2⟩:=hnm
   obtain⟨o1,_,_,_⟩:=hno
   have h1:=hsf (a.isEmpty&&isSp nm) n l1 hn q1
   have h2:=hg (a.isEmpty&&isSp nm) n l1 hn
   have hst:i18_j2 (m+13) self (i18_l1 (m+13) self M) (lv:Int) nm (PQ s l1 n) e0 5 0 (ByteArray.mk (List.toArray [])) [] a mp=i18_j3 (m+13) self (i18_l1 (m+13) self M) (lv:Int) nm (a.isEmpty&&isSp nm) (PQ s l1 n) e0 5 0 (ByteArray.mk (List.toArray [])) [] a (mput mp nm (Dt.bool true)):=by
        cases a with
        |nil=>simp only[i18_j2,List.length_nil,isSp_eq,Option.bind_some,List.isEmpty_nil,Bool.true_and];rfl
        |cons x r=>
         have e:((((x::r).length:Nat):Int)==0)=false:=by rw[beq_eq_false_iff_ne,List.length_cons];omega
         simp only[i18_j2,e,cond_false,List.isEmpty_cons,Bool.false_and]
   rw[q2]
   simp only[Option.bind_some,Bool.not_true,cond_false,hst,i18_j3,w1,Rs.bd]
   cases hr:sv (a.isEmpty&&isSp nm) n l1 with
   |    er e l'=>
        rw[hr] at h1
        obtain⟨p1,b,st,p2,p3⟩:=h1
        refine⟨p1,kza2373,st,?_,p3⟩
        rw[p2];rfl
   |    ok v l2 =>
        rw[hr] at h1 h2
        obtain⟨p1,p2⟩:=h1
        have hl2:=h2.ln
        have hn2:=h2.nn
        have ap:app a [Dt.agg [Dt.str nm,v.1]]=some (a++[Dt.agg [Dt.str nm,v.1]]):=app_le (by simp;omega)
        simp only[p2,Option.bind_some,Bool.not_true,cond_false,i18_j4,ap,blanks_sim (m+11) hs' v.2 p1 (show l2.length≤m+11 by omega)]
        have r1:=sf_bl p1
        have hb:=sBl_len l2
        have htv:(Dt.S v.1 2).size≤4096:=by
         obtain⟨q,hq⟩:∃q,v.1.bulk=q+1:=⟨v.1.bulk-1,by have:=bulk_pos v.1;omega⟩
         have hb:=h2.sn _ (Nat.le_refl _)
         rw[hq] at hb
         obtain⟨b1,b2,b3,b4⟩:=snd_body hb
         obtain⟨_,i2⟩:=snd_int hb
         by_cases k4:Dt.I v.1 0=4
         ·exact(b3 k4).1
         by_cases k8:Dt.I v.1 0=8
         ·have:=b4 k8;omega
         by_cases k7:Dt.I v.1 0=7
         ·simp only[sndF,k7] at hb
          have hb:=(Bool.and_eq_true_iff.1 hb).2
          have hb:decide (((Dt.S v.1 2).size:Int)≤4096)=true:=hb
          have:=of_decide_eq_true hb
          omega
         ·rw[i2 k4 k7 k8];exact Nat.zero_le _
        have htx':∀f∈a++[Dt.agg [Dt.str nm,v.1]],(Dt.S (Dt.fld f 1) 2).size≤4096:=fun f hf=>by
         rcases List.mem_append.1 hf with hf|hf
         ·exact htx f hf
         ·rw[List.mem_singleton] at hf
          subst hf
          exact htv
        have hmp2:MapS (mput mp nm (Dt.bool true)) ((a++[Dt.agg [Dt.str nm,v.1]]).map fun x=>Dt.S x 0):=by
         rw[List.map_append]
         exact mapS_put hmp nm
        have hsp:=spRow_eq (m+11) (a++[Dt.agg [Dt.str nm,v.1]]) (fun f hf=>by have:=htx' f hf;omega) (fun f hf=>by have:=htx' f hf;omega)
        obtain⟨x,hsp1,hsp2⟩:=hsp
        cases hbl:sBl l2 with
        |nil=>
         rw[hbl] at r1
         refine⟨r1,kza2373,QE s (s.size-([]:List UInt8).length) v.2 ((4:Nat):Int) ((s.size-([]:List UInt8).length:Nat):Int),?_,ee_of⟩
         simp only[pk0,Option.bind_some]
         rfl
        |cons c t=>
         rw[hbl] at r1
         rw[hbl,List.length_cons] at hb
         have ht:=sBl_len t
         simp only[pk (m+12) r1 hs',Option.bind_some]
         by_cases hc:c.toNat=125∨c.toNat=44
         ·rw[   if_pos hc]
          have f1:(bif ((c.toNat:Int) !=44) then i18_j5 (m+13) self (i18_l1 (m+13) self M) (lv:Int) (a.isEmpty&&isSp nm) (Dt.I (PQ s l1 n) 1) (c.toNat:Int) ((c.toNat:Int) !=125) (PQ s (c::t) v.2) e0 5 0 (ByteArray.mk (List.toArray [])) [] (a++[Dt.agg [Dt.str nm,v.1]]) (mput mp nm (Dt.bool true)) v.1 else i18_j5 (m+13) self (i18_l1 (m+13) self M) (lv:Int) (a.isEmpty&&isSp nm) (Dt.I (PQ s l1 n) 1) (c.toNat:Int) false (PQ s (c::t) v.2) e0 5 0 (ByteArray.mk (List.toArray [])) [] (a++[Dt.agg [Dt.str nm,v.1]]) (mput mp nm (Dt.bool true)) v.1)=i18_j6 (m+13) self (i18_l1 (m+13) self M) (lv:Int) (a.isEmpty&&isSp nm) (Dt.I (PQ s l1 n) 1) (c.toNat:Int) (PQ s (c::t) v.2) e0 5 0 (ByteArray.mk (List.toArray [])) [] (a++[Dt.agg [Dt.str nm,v.1]]) (mput mp nm (Dt.bool true)) v.1:=by
           rcases hc with hc|hc
           ·    have g1:((c.toNat:Int) !=44)=true:=by rw[hc];rfl
                have g2:((c.toNat:Int) !=125)=false:=by rw[hc];rfl
                rw[g1,g2,cond_true,i18_j5,cond_false]
           ·    have g1:((c.toNat:Int) !=44)=false:=by rw[hc];rfl
                rw[g1,cond_false,i18_j5,cond_false]
          rw[f1,i18_j6,ad r1 hs',hsp1]
          have J9:=fun n'=>obj_j9g (m+11) self (i18_l1 (m+13) self M) hs (lv:Int) c hc t (sf_tail r1) (by omega) n' e0 (a++[Dt.agg [Dt.str nm,v.1]]) (mput mp nm (Dt.bool true))
          have J7:=obj_j7g (m+11) self (i18_l1 (m+13) self M) (s:=s) lv hlv (a.isEmpty&&isSp nm) l1 (c.toNat:Int) t v.2 hn2 e0 (a++[Dt.agg [Dt.str nm,v.1]]) (mput mp nm (Dt.bool true)) v.1
          have J7':i18_j7 (m+13) self (i18_l1 (m+13) self M) (lv:Int) (a.isEmpty&&isSp nm) (Dt.I (PQ s l1 n) 1) (c.toNat:Int) (PQ s t v.2) e0 5 0 (ByteArray.mk (List.toArray [])) [] (a++[Dt.agg [Dt.str nm,v.1]]) (mput mp nm (Dt.bool true)) v.1=_:=J7
          have fin:∀n',n'≤1024→Sim (fun v:Dt×Nat=>v.1) (fun v=>v.2) s (if c.toNat=125 then some (vDoc (a++[Dt.agg [Dt.str nm,v.1]]),true,PQ s t n') else i18_l1 (m+13) self M (lv:Int) (PQ s (sBl t) n') e0 5 0 (ByteArray.mk (List.toArray [])) [] (a++[Dt.agg [Dt.str nm,v.1]]) (mput mp nm (Dt.bool true))) (if c.toNat=125 then .ok (vDoc (a++[Dt.agg [Dt.str nm,v.1]]),n') t else sOb sv lv N (a++[Dt.agg [Dt.str nm,v.1]]) n' (sBl t)):=fun n' hn'=>by
           by_cases h125:c.toNat=125
           ·    rw[if_pos h125,if_pos h125]
                exact⟨sf_tail r1,rfl⟩
           ·    rw[if_neg h125,if_neg h125]
                exact obj_sl m self hs lv n0 L0 hlv sv hsf hg e0 N M _ n' (sBl t) _ (by omega) (by omega) (by omega) hn' (sf_bl (sf_tail r1)) (by simp;omega) hmp2 htx'
          have after:Sim (fun v:Dt×Nat=>v.1) (fun v=>v.2) s (i18_j7 (m+13) self (i18_l1 (m+13) self M) (lv:Int) (a.isEmpty&&isSp nm) (Dt.I (PQ s l1 n) 1) (c.toNat:Int) (PQ s t v.2) e0 5 0 (ByteArray.mk (List.toArray [])) [] (a++[Dt.agg [Dt.str nm,v.1]]) (mput mp nm (Dt.bool true)) v.1)
                (bif (a.isEmpty&&isSp nm)&&isTI v.1 then(bif cnt (lv+1) v.2 then .er 2 l1 else if c.toNat=125 then .ok (vDoc (a++[Dt.agg [Dt.str nm,v.1]]),v.2+1) t else sOb sv lv N (a++[Dt.agg [Dt.str nm,v.1]]) (v.2+1) (sBl t))
                 else if c.toNat=125 then .ok (vDoc (a++[Dt.agg [Dt.str nm,v.1]]),v.2) t else sOb sv lv N (a++[Dt.agg [Dt.str nm,v.1]]) v.2 (sBl t)):=by
           rw[J7']
           cases (a.isEmpty&&isSp nm)&&isTI v.1
           ·    rw[cond_false,cond_false,J9]
                exact fin v.2 hn2
           ·    rw[cond_true,cond_true]
                cases hct:cnt (lv+1) v.2
                ·rw[cond_false,cond_false,J9]
                 refine fin (v.2+1) ?_
                 unfold cnt at hct
                 have:¬16<lv+1∧¬v.2=1024:=by simpa using hct
                 omega
                ·rw[cond_true,cond_true]
                 exact⟨q1,kza2373,_,rfl,ee_of⟩
          by_cases h125:c.toNat=125
          ·have f3:((c.toNat:Int)==125)=true:=by rw[h125];rfl
           rw[f3,cond_true,decide_eq_true h125,Bool.true_and]
           cases hsc:spc (a++[Dt.agg [Dt.str nm,v.1]])
           ·    rw[cond_false]
                simp only[Option.bind_some,cond_false]
                exact after
           ·    have ha0:a=[]:=by
                 match a,hsc with
                 | [],_=>rfl
                 | [x],h=>cases h
                 |x::y::r,h=>cases h
                subst ha0
                have hx:=hsp2 _ rfl hsc
                subst hx
                rw[cond_true]
                exact⟨sf_tail r1,rfl⟩
          ·have f3:((c.toNat:Int)==125)=false:=bqf (k:=125) h125
           rw[f3,cond_false,decide_eq_false h125,Bool.false_and,cond_false]
           exact after
         ·rw[if_neg hc]
          have g1:((c.toNat:Int) !=44)=true:=by unfold bne;rw[Bool.not_eq_true',beq_eq_false_iff_ne];omega
          have g2:((c.toNat:Int) !=125)=true:=by unfold bne;rw[Bool.not_eq_true',beq_eq_false_iff_ne];omega
          rw[g1,g2,cond_true,i18_j5,cond_true]
          exact⟨r1,kza2373,_,rfl,ee_of⟩
end Go.Proofs.YtmejbpmceflcjaaGreatDoor
namespace Go.Proofs.YtmejbpmceflcjaaGreatDoor
open Go.Am
theorem object_sim (m:Nat) {s:ByteArray} (hs:s.size<1000000000) (lv n0 L0:Nat) (hlv:lv≤16) (sv:Bool→Nat→List UInt8→Rs (Dt×Nat)) (hsf:Slf s (i7 (m+13)) (lv+1) sv)
  (hg:∀b n l,n≤1024→match sv b n l with| .er e _=>e=2∨e=4| .ok v l'=>Gv (lv+1) b n l.length v.1 v.2 l'.length) (n:Nat) (hn:n≤1024) (c:UInt8) (t:List UInt8) (h:Sf s (c::t)) (hm:t.length+10000≤m):
  Sim (fun v:Dt×Nat=>v.1) (fun v=>v.2) s (i18 (m+14) (lv:Int) (PQ s (c::t) n)) (match sBl t with| []=> .er 4 []|x::k=>if x.toNat=125 then .ok (vDoc [],n) k else sOb sv lv (t.length+1) [] n (x::k)):=by
 have hs':s.size<1000000000000:=by omega
 have q0:=sf_tail h
 have q1:=sf_bl q0
 have hb:=sBl_len t
 have hls:=sf_len h
 rw[List.length_cons] at hls
 rw[i18]
 simp only[ad h hs',blanks_sim (m+11) hs' n q0 (show t.length≤m+11 by omega),Option.bind_some]
 cases hbl:sBl t with
 |nil=>
  rw[hbl] at q1
  have hnm:=name_sim m hs n [] [] mapS_nil q1 (by simp;omega)
  obtain⟨p1,nm,st,p2,p3⟩:=hnm
  refine⟨p1,kza2373,st,?_,p3⟩
  simp only[pk0,Option.bind_some]
  show i18_l1 (m+13) (i7 (m+13)) (m+13+1) (lv:Int) (PQ s [] n) kza2373 5 0 (ByteArray.mk (List.toArray [])) [] [] []=_
  rw[i18_l1,p2]
  rfl
 |cons x k=>
  rw[hbl] at q1
  rw[hbl,List.length_cons] at hb
  simp only[pk (m+12) q1 hs',Option.bind_some]
  by_cases h125:x.toNat=125
  ·have f3:((x.toNat:Int)==125)=true:=by rw[h125];rfl
   rw[f3,cond_true,ad q1 hs',if_pos h125]
   exact⟨sf_tail q1,rfl⟩
  ·have f3:((x.toNat:Int)==125)=false:=bqf (k:=125) h125
   rw[f3,cond_false,if_neg h125]
   exact obj_sl m (i7 (m+13)) hs lv n0 L0 hlv sv hsf hg kza2373 (t.length+1) (m+14) [] n (x::k) [] (by omega) (by rw[List.length_cons];omega) (by rw[List.length_cons];omega) hn q1 (by rw[List.length_cons];simp;omega) mapS_nil (fun f hf=>by cases hf)
theorem sVal_nil (N lv:Nat) (late:Bool) (n:Nat):sVal (N+1) lv late n []= .er 4 []:=rfl
theorem sim_tail {α β γ:Type} {f:β→Dt} {k:β→Nat} {s:ByteArray} {x:Option (Dt×Bool×Dt)} {r:Rs β} (h:Sim f k s x r) (g:β→List UInt8→Rs γ) (f':γ→Dt) (k':γ→Nat) (hg:∀b l,∃y,g b l= .ok y l∧f' y=f b∧k' y=k b):Sim f' k' s (x.bind fun r=>some (r.1,r.2.1,r.2.2)) (r.bd g):=by
 cases r with
 |er e l=>
  obtain⟨p1,a,st,p2,p3⟩:=h
  exact⟨p1,a,st,by rw[p2];rfl,p3⟩
 |ok b l=>
  obtain⟨p1,p2⟩:=h
  obtain⟨y,e1,e2,e3⟩:=hg b l
  show Sim f' k' s _ (g b l)
  rw[e1]
  refine⟨p1,?_⟩
  rw[p2,e2,e3];rfl
theorem sim_id {β:Type} {f:β→Dt} {k:β→Nat} {s:ByteArray} {x:Option (Dt×Bool×Dt)} {r:Rs β} (h:Sim f k s x r):Sim f k s (x.bind fun r=>some (r.1,r.2.1,r.2.2)) r:=by
 cases r with
 |er e l=>
  obtain⟨p1,a,st,p2,p3⟩:=h
  exact⟨p1,a,st,by rw[p2];rfl,p3⟩
 |ok b l=>
  obtain⟨p1,p2⟩:=h
  exact⟨p1,by rw[p2];rfl⟩
theorem val_sim:∀(N lv:Nat) (late:Bool) (n:Nat) (l:List UInt8) (s:ByteArray) (m:Nat),18≤N+lv→lv≤17→n≤1024→s.size<1000000000→Sf s l→s.size+20000+10*N≤m→
  Sim (fun v:Dt×Nat=>v.1) (fun v=>v.2) s (i7 m (lv:Int) late (PQ s l n)) (sVal N lv late n l)
 |0,_,_,_,_,_,_,h,h2,_,_,_,_=>by omega
 |N+1,lv,late,n,[],s,m,_,_,hn,hs,h,hm=>by
  obtain⟨m,rfl⟩:∃q,m=q+3:=⟨m-3,by omega⟩
  refine⟨h,kza2373,QE s (s.size-([]:List UInt8).length) n ((4:Nat):Int) ((s.size-([]:List UInt8).length:Nat):Int),?_,ee_of⟩
  rw[i7]
  simp only[pk0,Option.bind_some]
  rfl
 |N+    1,lv,late,n,c::t,s,m,hN,hlv,hn,hs,h,hm=>by
  obtain⟨m,rfl⟩:∃q,m=q+40:=⟨m-40,by omega⟩
  have hs':s.size<1000000000000:=by omega
  have hls:=sf_len h
  rw[List.length_cons] at hls
  have hc:=u8lt c
  have hct:=cnt_sim (m+37) (s:=s) (l:=c::t) (n:=n) lv ((s.size-(c::t).length:Nat):Int) hn
  have e34:((c.toNat:Int)==34)=decide (c.toNat=34):=by rw[Bool.eq_iff_iff,beq_iff_eq,decide_eq_true_eq];omega
  have e91:((c.toNat:Int)==91)=decide (c.toNat=91):=by rw[Bool.eq_iff_iff,beq_iff_eq,decide_eq_true_eq];omega
  have e123:((c.toNat:Int)==123)=decide (c.toNat=123):=by rw[Bool.eq_iff_iff,beq_iff_eq,decide_eq_true_eq];omega
  have e110:((c.toNat:Int)==110)=decide (c.toNat=110):=by rw[Bool.eq_iff_iff,beq_iff_eq,decide_eq_true_eq];omega
  have e116:((c.toNat:Int)==116)=decide (c.toNat=116):=by rw[Bool.eq_iff_iff,beq_iff_eq,decide_eq_true_eq];omega
  have e102:((c.toNat:Int)==102)=decide (c.toNat=102):=by rw[Bool.eq_iff_iff,beq_iff_eq,decide_eq_true_eq];omega
  have hcn:cnt lv n=false→lv≤16∧n<1024:=fun h=>by
   unfold cnt at h
   have:¬16<lv∧¬n=1024:=by simpa using h
   omega
  have head:i7 (m+40) (lv:Int) late (PQ s (c::t) n)=i7_j1 (m+39) (i17 (m+39)) (i18 (m+39)) (lv:Int) late ((s.size-(c::t).length:Nat):Int) (c.toNat:Int) (isD c||(decide (c.toNat=45)||decide (c.toNat=34))) (PQ s (c::t) n) kza2373:=by
   rw[i7]
   simp only[pk (m+38) h hs',Option.bind_some]
   show (bif ((c.toNat:Int)==45) then i7_j0 (m+39) (i17 (m+39)) (i18 (m+39)) (lv:Int) late ((s.size-(c::t).length:Nat):Int) (c.toNat:Int) true (PQ s (c::t) n) kza2373 else bif decide ((48:Int)≤(c.toNat:Int)) then i7_j0 (m+39) (i17 (m+39)) (i18 (m+39)) (lv:Int) late ((s.size-(c::t).length:Nat):Int) (c.toNat:Int) (decide ((c.toNat:Int)≤57)) (PQ s (c::t) n) kza2373 else i7_j0 (m+39) (i17 (m+39)) (i18 (m+39)) (lv:Int) late ((s.size-(c::t).length:Nat):Int) (c.toNat:Int) false (PQ s (c::t) n) kza2373)=_
   have J0:∀b,i7_j0 (m+39) (i17 (m+39)) (i18 (m+39)) (lv:Int) late ((s.size-(c::t).length:Nat):Int) (c.toNat:Int) b (PQ s (c::t) n) kza2373=i7_j1 (m+39) (i17 (m+39)) (i18 (m+39)) (lv:Int) late ((s.size-(c::t).length:Nat):Int) (c.toNat:Int) (b||decide (c.toNat=34)) (PQ s (c::t) n) kza2373:=fun b=>by
        rw[i7_j0,e34]
        cases decide (c.toNat=34)
        ·rw[cond_false,Bool.or_false]
        ·rw[cond_true,Bool.or_true]
   simp only[J0]
   have e45:((c.toNat:Int)==45)=decide (c.toNat=45):=by rw[Bool.eq_iff_iff,beq_iff_eq,decide_eq_true_eq];omega
   rw[e45]
   unfold isD
   by_cases h45:c.toNat=45
   ·rw[decide_eq_true h45,cond_true,Bool.true_or,Bool.or_true]
   ·    rw[decide_eq_false h45,cond_false,Bool.false_or]
        by_cases h48:48≤c.toNat
        ·rw[decide_eq_true (show (48:Int)≤(c.toNat:Int) by omega),cond_true,decide_eq_true h48,Bool.true_and,show decide ((c.toNat:Int)≤57)=decide (c.toNat≤57) by rw[Bool.eq_iff_iff];simp;omega]
        ·rw[decide_eq_false (show ¬(48:Int)≤(c.toNat:Int) by omega),cond_false,decide_eq_false h48,Bool.false_and,Bool.false_or]
  rw[head,i7_j1,sVal]
  cases hd:isD c||(decide (c.toNat=45)||decide (c.toNat=34))
  ·rw[   cond_false,cond_false]
   have J5:(bif ((c.toNat:Int)==91) then i7_j5 (m+39) (i17 (m+39)) (i18 (m+39)) (lv:Int) ((s.size-(c::t).length:Nat):Int) (c.toNat:Int) true (PQ s (c::t) n) kza2373 else bif ((c.toNat:Int)==123) then i7_j5 (m+39) (i17 (m+39)) (i18 (m+39)) (lv:Int) ((s.size-(c::t).length:Nat):Int) (c.toNat:Int) true (PQ s (c::t) n) kza2373 else bif ((c.toNat:Int)==110) then i7_j5 (m+39) (i17 (m+39)) (i18 (m+39)) (lv:Int) ((s.size-(c::t).length:Nat):Int) (c.toNat:Int) true (PQ s (c::t) n) kza2373 else bif ((c.toNat:Int)==116) then i7_j5 (m+39) (i17 (m+39)) (i18 (m+39)) (lv:Int) ((s.size-(c::t).length:Nat):Int) (c.toNat:Int) true (PQ s (c::t) n) kza2373 else i7_j5 (m+39) (i17 (m+39)) (i18 (m+39)) (lv:Int) ((s.size-(c::t).length:Nat):Int) (c.toNat:Int) ((c.toNat:Int)==102) (PQ s (c::t) n) kza2373)
         =i7_j5 (m+39) (i17 (m+39)) (i18 (m+39)) (lv:Int) ((s.size-(c::t).length:Nat):Int) (c.toNat:Int) (decide (c.toNat=91∨c.toNat=123∨c.toNat=110∨c.toNat=116∨c.toNat=102)) (PQ s (c::t) n) kza2373:=by
        rw[e91,e123,e110,e116,e102]
        simp only[Bool.decide_or]
        cases decide (c.toNat=91)<;>cases decide (c.toNat=123)<;>cases decide (c.toNat=110)<;>cases decide (c.toNat=116)<;>cases decide (c.toNat=102)<;>rfl
   rw[J5,i7_j5]
   by_cases ho:c.toNat=91∨c.toNat=123∨c.toNat=110∨c.toNat=116∨c.toNat=102
   ·    rw[decide_eq_true ho,cond_true,if_pos ho,hct]
        cases hcc:cnt lv n
        ·obtain⟨hlv6,hn4⟩:=hcn hcc
         have h34:c.toNat≠34:=by omega
         simp only[cond_false,Option.bind_some,Bool.not_true,i7_j3,e34,decide_eq_false h34,e91,e123,e110,e116,e102]
         have hsf:∀m',s.size+20000+10*N≤m'→Slf s (i7 m') (lv+1) (fun b n l=>sVal N (lv+1) b n l):=fun m' hm' b n l hn h=>val_sim N (lv+1) b n l s m' (by omega) (by omega) hn hs h hm'
         have hg:∀b n l,n≤1024→match sVal N (lv+1) b n l with| .er e _=>e=2∨e=4| .ok v l'=>Gv (lv+1) b n l.length v.1 v.2 l'.length:=fun b n l hn=>gv_main N (lv+1) b n l (by omega) (by omega) hn
         obtain⟨N',rfl⟩:∃q,N=q+1:=⟨N-1,by omega⟩
         have wd:∀(w:List UInt8) (v:Dt),w.length<100→Sim (fun v:Dt×Nat=>v.1) (fun v=>v.2) s ((i24 (m+39) ⟨w.toArray⟩ (PQ s (c::t) (n+1))).bind fun r5=>some (v,r5.1,r5.2)) ((sWd w (c::t)).bd fun _ r=> .ok (v,n+1) r):=fun w v hw=>by
           have h1:=word_sim (m+36) hs (n+1) w hw h (by omega)
           cases hr:sWd w (c::t) with
           |er e l'=>
            rw[hr] at h1
            obtain⟨p1,st,p2,p3⟩:=h1
            exact⟨p1,v,st,by rw[p2];rfl,p3⟩
           |ok u l'=>
            rw[hr] at h1
            obtain⟨p1,p2⟩:=h1
            exact⟨p1,by rw[p2];rfl⟩
         by_cases h91:c.toNat=91
         · rw[decide_eq_true h91,cond_true,if_pos h91]
           have h1:=list_sim (m+35) hs lv hlv6 (fun b n l=>sVal (N'+1) (lv+1) b n l) (hsf (m+35+3) (by omega)) (fun n l hn=>hg false n l hn) (n+1) (by omega) rfl c t h (by omega)
           exact sim_id h1
         rw[decide_eq_false h91,cond_false,if_neg h91]
         by_cases h123:c.toNat=123
         · rw[decide_eq_true h123,cond_true,if_pos h123]
           have h1:=object_sim (m+25) hs lv 0 0 hlv6 (fun b n l=>sVal (N'+1) (lv+1) b n l) (hsf (m+25+13) (by omega)) hg (n+1) (by omega) c t h (by omega)
           exact sim_id h1
         rw[decide_eq_false h123,cond_false,if_neg h123]
         by_cases h110:c.toNat=110
         · rw[decide_eq_true h110,cond_true,if_pos h110]
           exact wd [110,117,108,108] (vK 2 0) (by decide)
         rw[decide_eq_false h110,cond_false,if_neg h110]
         by_cases h116:c.toNat=116
         · rw[decide_eq_true h116,cond_true,if_pos h116]
           exact wd [116,114,117,101] (vK 9 1) (by decide)
         have h102:c.toNat=102:=by omega
         rw[decide_eq_false h116,cond_false,if_neg h116,decide_eq_true h102,cond_true]
         exact wd [102,97,108,115,101] (vK 9 0) (by decide)
        ·exact⟨h,kza2373,_,rfl,ee_of⟩
   ·    rw[decide_eq_false ho,cond_false,if_neg ho]
        exact⟨h,kza2373,_,rfl,ee_of⟩
  ·rw[   cond_true,cond_true]
   have fin:∀n',n'=(bif late then n else n+1)→Sim (fun v:Dt×Nat=>v.1) (fun v=>v.2) s (i7_j3 (m+39) (i17 (m+39)) (i18 (m+39)) (lv:Int) (c.toNat:Int) (PQ s (c::t) n') kza2373) (if c.toNat=34 then(sTxt (c::t)).bd fun a r=> .ok (vText a,bif late then n else n+1) r else(sInt (c::t)).bd fun a r=> .ok (vInt a,bif late then n else n+1) r):=fun n' hn'=>by
        subst hn'
        rw[i7_j3,e34]
        by_cases h34:c.toNat=34
        ·rw[decide_eq_true h34,cond_true,if_pos h34]
         have h1:=text_sim (m+26) hs (bif late then n else n+1) h (by omega)
         exact sim_tail (α:=Dt) h1 _ _ _ fun b l=>⟨_,rfl,rfl,rfl⟩
        ·have hdd:c.toNat=45∨(48≤c.toNat∧c.toNat≤57):=by
           rw[decide_eq_false h34,Bool.or_false] at hd
           rcases Bool.or_eq_true_iff.1 hd with hd|hd
           ·exact .inr (isD_i.1 hd)
           ·exact .inl (of_decide_eq_true hd)
         rw[decide_eq_false h34,cond_false,if_neg h34,e91,decide_eq_false (show ¬c.toNat=91 by omega),cond_false,e123,decide_eq_false (show ¬c.toNat=123 by omega),cond_false,e110,decide_eq_false (show ¬c.toNat=110 by omega),cond_false,e116,decide_eq_false (show ¬c.toNat=116 by omega),cond_false,e102,decide_eq_false (show ¬c.toNat=102 by omega),cond_false,i7_j4]
         have h1:=int_sim (m+36) hs (bif late then n else n+1) h (by omega)
         exact sim_tail (α:=Dt) h1 _ _ _ fun b l=>⟨_,rfl,rfl,rfl⟩
   cases late
   ·    simp only[Bool.not_false,cond_true,Bool.true_and,hct]
        cases hcc:cnt lv n
        ·simp only[cond_false,Option.bind_some,Bool.not_true,i7_j2]
         exact fin (n+1) rfl
        ·exact⟨h,kza2373,_,rfl,ee_of⟩
   ·    simp only[Bool.not_true,cond_false,Bool.false_and,i7_j2]
        exact fin n rfl
theorem sf_all (s:ByteArray):Sf s s.data.toList:=List.suffix_refl _
theorem parse_sim (m:Nat) (s:ByteArray) (hs:s.size<1000000000) (hm:s.size+30000≤m):notation_Parse (m+3) s=some (match sParse s.data.toList with| .er e l=>(kza2373,((s.size-l.length:Nat):Int),(e:Int))| .ok v _=>(v,0,0)):=by
 have hs':s.size<1000000000000:=by omega
 have h0:=sf_all s
 have e0:PQ s s.data.toList 0=Dt.agg [Dt.str s,Dt.int 0,Dt.int 0,Dt.int 0,Dt.int 0]:=by
  show Q s (s.size-s.data.toList.length) 0=_
  rw[lenB,Nat.sub_self];rfl
 have hb:=blanks_sim m hs' 0 h0 (by rw[lenB];omega)
 rw[e0] at hb
 have h1:=sf_bl h0
 have hv:=val_sim 20 1 false 0 (sBl s.data.toList) s (m+2) (by omega) (by omega) (by omega) hs h1 (by omega)
 have hg:=parse_good s.data.toList
 have hv':Sim (fun v:Dt×Nat=>v.1) (fun v=>v.2) s (i7 (m+2) 1 false (PQ s (sBl s.data.toList) 0)) (sVal 20 1 false 0 (sBl s.data.toList)):=hv
 rw[notation_Parse]
 simp only[hb,Option.bind_some]
 unfold sParse at hg ⊢
 cases hr:sVal 20 1 false 0 (sBl s.data.toList) with
 |er e l=>
  rw[hr] at hv' hg
  obtain⟨p1,a,st,p2,i,k,p3⟩:=hv'
  have he:e=2∨e=4:=hg
  rw[p2,p3]
  rcases he with rfl|rfl<;>rfl
 |ok v l=>
  rw[hr] at hv'
  obtain⟨p1,p2⟩:=hv'
  have hl:=sf_len p1
  have q1:=sf_bl p1
  simp only[p2,Option.bind_some,cond_true,blanks_sim m hs' v.2 p1 (show l.length≤m by omega),Rs.bd]
  cases hbl:sBl l with
  |nil=>
   show (bif decide (((s.size-([]:List UInt8).length:Nat):Int)<(s.size:Int)) then _ else notation_Parse_j0 (m+2) kza2373 (PQ s [] v.2) v.1)=_
   rw[decide_eq_false (show ¬((s.size-([]:List UInt8).length:Nat):Int)<(s.size:Int) by simp)]
   rfl
  |cons c t=>
   rw[hbl] at q1
   have hq:=sf_len q1
   rw[List.length_cons] at hq
   show (bif decide (((s.size-(c::t).length:Nat):Int)<(s.size:Int)) then _ else _)=_
   rw[decide_eq_true (show ((s.size-(c::t).length:Nat):Int)<(s.size:Int) by rw[List.length_cons];omega)]
   rfl
end Go.Proofs.YtmejbpmceflcjaaGreatDoor
