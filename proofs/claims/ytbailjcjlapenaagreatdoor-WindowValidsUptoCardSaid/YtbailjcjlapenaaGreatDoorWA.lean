/- Equal lists of strings, in plain Lean.
Valid paths:the program's test and the reference's.
Expressions:the first error of a node by itself;the program's and the reference's.
Expressions:a node's first error,in stages;program and reference. -/
import Derived.Test.YtbailjcjlapenaaGreatDoorFx
import Derived.Test.YtbailjcjlapenaaGreatDoorMA
import Derived.Test.YtbailjcjlapenaaGreatDoorMB
import Derived.Test.YtbailjcjlapenaaGreatDoorMC
set_option linter.unusedVariables false
set_option linter.unusedSimpArgs false
namespace Go.Proofs.YtbailjcjlapenaaGreatDoor
open Go.Am
def eqS (a b:Dt):Bool:=a.toStr.toList==b.toStr.toList
theorem eqS_refl (a:Dt):eqS a a=true:=by simp[eqS]
theorem eqS_comm (a b:Dt):eqS a b=eqS b a:=by simp[eqS,Bool.beq_comm]
def pfx:List Dt→List Dt→Bool
 | [],_=>true
 |a::r,b::s=>eqS a b&&pfx r s
 |_::_,[]=>false
theorem pfx_refl:∀a:List Dt,pfx a a=true
 | []=>rfl
 |a::r=>by simp[pfx,eqS_refl,pfx_refl r]
theorem pfx_comm:∀{a b:List Dt},a.length=b.length→pfx a b=pfx b a
 | [],[],_=>rfl
 |a::r,b::s,h=>by simp[pfx,eqS_comm a b,pfx_comm (a:=r) (b:=s) (by simpa using h)]
 | [],_::_,h=>by simp at h
 |_::_,[],h=>by simp at h
theorem pfx_take:∀{a b:List Dt},a.length≤b.length→pfx a (b.take a.length)=pfx a b
 | [],_,_=>rfl
 |a::r,b::s,h=>by simp[pfx,pfx_take (a:=r) (b:=s) (by simpa using h)]
 |_::_,[],h=>by simp at h
theorem pfx_long:∀{a b:List Dt},b.length<a.length→pfx a b=false
 | [],_,h=>by simp at h
 |a::r,b::s,h=>by simp[pfx,pfx_long (a:=r) (b:=s) (by simpa using h)]
 |_::_,[],_=>rfl
theorem equal_loop (m:Nat) (a b:List Dt) (hab:a.length=b.length) (hb:a.length<9223372036854775807):∀(M i:Nat),i≤a.length→a.length-i<M→slices_Equal_l2 m M a b (a.length:Int) (i:Int)=some (pfx (a.drop i) (b.drop i))
 |0,i,_,h=>by omega
 |M+1,i,hi,h=>by
  simp only[slices_Equal_l2,dlt]
  by_cases hlt:i<a.length
  ·rw[List.drop_eq_getElem_cons hlt,List.drop_eq_getElem_cons (show i<b.length by omega)]
   simp only[hlt,decide_true,cond_true,slices_Equal_j3,slices_Equal_j4,idx_lt hlt,idx_lt (show i<b.length by omega),Option.bind_some,wrapS (show i<9223372036854775807 by omega),equal_loop m a b hab hb M (i+1) (by omega) (by omega),pfx,eqS]
   cases (a[i].toStr.toList==b[i].toStr.toList)<;>rfl
  ·have:i=a.length:=by omega
   subst this
   simp[slices_Equal_j5,pfx]
theorem equal_eq (m:Nat) (a b:List Dt) (hab:a.length=b.length) (ha:a.length≤m) (hm:m<9223372036854775807):slices_Equal (m+1) a b=some (pfx a b):=by
 simp only[slices_Equal,hab,bne_self_eq_false,cond_false,slices_Equal_j0,slices_Equal_j1]
 have:=equal_loop m a b hab (by omega) (m+1) 0 (by omega) (by omega)
 rw[hab] at this
 simpa using this
def eqP (a b:List Dt):Bool:=a.length==b.length&&pfx a b
theorem eqP_comm (a b:List Dt):eqP a b=eqP b a:=by
 unfold eqP
 by_cases h:a.length=b.length
 ·rw[pfx_comm h,h]
 ·have h1:(a.length==b.length)=false:=by simpa using h
  have h2:(b.length==a.length)=false:=by simpa using fun e=>h e.symm
  rw[h1,h2];rfl
theorem eqP_refl (a:List Dt):eqP a a=true:=by simp[eqP,pfx_refl]
theorem sEqual_eq (m:Nat) (a b:List Dt) (h:a.length≤m∨b.length≤m) (hm:m<9223372036854775807):slices_Equal (m+1) a b=some (eqP a b):=by
 unfold eqP
 by_cases hab:a.length=b.length
 ·rw[equal_eq m a b hab (by omega) hm,hab]
  simp
 ·have h1:(a.length==b.length)=false:=by simpa using hab
  have h2:((((a.length:Nat):Int) !=((b.length:Nat):Int)):Bool)=true:=by
   simp only[bne,ieq,h1,Bool.not_false]
  simp only[slices_Equal,h2,cond_true,h1,Bool.false_and]
end Go.Proofs.YtbailjcjlapenaaGreatDoor
namespace Go.Proofs.YtbailjcjlapenaaGreatDoor
open Go.Am
def vld (l:List Dt):Bool:=decide (1≤l.length)&&decide (l.length≤16)&&l.all fun e=>nm e.toStr
theorem notName_l (m:Nat) (s:ByteArray) (hs:s.size<9223372036854775807):∀(M i:Nat),i≤s.size→s.size-i<M→path_notName_l3 m M s (s.size:Int) (i:Int)=some (!((s.data.toList.drop i).all okB))
 |0,i,_,h=>by omega
 |M+1,i,hi,h=>by
  simp only[path_notName_l3,dlt]
  by_cases hlt:i<s.size
  ·rw[getB s i hlt]
   simp only[hlt,decide_true,cond_true,path_notName_j4,path_notName_j5,path_notName_j6,idxS_lt hlt,Option.bind_some,wrapS (show i<9223372036854775807 by omega),notName_l m s hs M (i+1) (by omega) (by omega),List.all_cons,okB]
   cases decide (((s[i]).toNat:Int)<33)<;>cases decide ((126:Int)<((s[i]).toNat:Int))<;>cases (((s[i]).toNat:Int)==46)<;>rfl
  ·have:i=s.size:=by omega
   subst this
   rw[List.drop_eq_nil_of_le (by rw[lenB];omega)]
   simp[path_notName_j7]
theorem notName_eq (m:Nat) (hm:33≤m) (s:ByteArray):path_notName (m+1) s=some (!nm s):=by
 rw[path_notName]
 by_cases h1:s.size<1
 ·rw[decide_eq_true (show ((s.size:Nat):Int)<1 by omega),cond_true,nm_short s h1]
  rfl
 rw[decide_eq_false (show ¬((s.size:Nat):Int)<1 by omega),cond_false]
 by_cases h2:32<s.size
 ·rw[decide_eq_true (show (32:Int)<((s.size:Nat):Int) by omega),cond_true,nm_long s h2]
  rfl
 rw[decide_eq_false (show ¬(32:Int)<((s.size:Nat):Int) by omega),cond_false]
 have hx:idxS s 0=some (s[0].toNat:Int):=idxS_lt (s:=s) (i:=0) (by omega)
 have hl:=notName_l m s (by omega) (m+1) 0 (by omega) (by omega)
 rw[List.drop_zero] at hl
 have hl':path_notName_l3 m (Nat.succ m) s (s.size:Int) 0=some (!s.data.toList.all okB):=hl
 simp only[hx,Option.bind_some,path_notName_j0,path_notName_j1,path_notName_j2,hl',nm_parts s (by omega) (by omega)]
 cases (((s[0]).toNat:Int)==36)<;>rfl
theorem indexf_l (m:Nat) (hm:34≤m) (l:List Dt) (hl:l.length<9223372036854775807):∀(M i:Nat),i≤l.length→l.length-i<M→∃r,i39_l1 m M l (l.length:Int) (i:Int)=some r∧decide ((0:Int)≤r)=!((l.drop i).all fun e=>nm e.toStr)
 |0,i,_,h=>by omega
 |M+1,i,hi,h=>by
  obtain⟨m,rfl⟩:∃k,m=k+1:=⟨m-1,by omega⟩
  simp only[i39_l1,dlt]
  by_cases hlt:i<l.length
  ·rw[List.drop_eq_getElem_cons hlt]
   obtain⟨r,h1,h2⟩:=indexf_l (m+1) hm l hl M (i+1) (by omega) (by omega)
   simp only[hlt,decide_true,cond_true,i39_j3,i39_j2,i39_j4,i39_j0,idx_lt hlt,Option.bind_some,wrapS (show i<9223372036854775807 by omega),notName_eq m (by omega),h1,List.all_cons]
   cases hn:nm (l[i]).toStr
   ·exact⟨(i:Int),by simp,by simp⟩
   ·exact⟨r,by simp,by simpa using h2⟩
  ·have:i=l.length:=by omega
   subst this
   exact⟨-1,by simp[i39_j3,i39_j2,i39_j4,i39_j0],by simp⟩
theorem valid_eq (m:Nat) (hm:40≤m) (l:List Dt):path_Valid (m+3) l=some (vld l):=by
 rw[path_Valid,vld]
 by_cases h1:1≤l.length
 ·rw[decide_eq_true (show (1:Int)≤((l.length:Nat):Int) by omega),cond_true,decide_eq_true h1,Bool.true_and]
  by_cases h2:l.length≤16
  ·rw[decide_eq_true (show ((l.length:Nat):Int)≤(16:Int) by omega),cond_true,decide_eq_true h2,Bool.true_and]
   obtain⟨r,h3,h4⟩:=indexf_l m (by omega) l (by omega) (m+1) 0 (by omega) (by omega)
   have h3':i39_l1 m (Nat.succ m) l (l.length:Int) 0=some r:=h3
   simp only[i38,i39,i39_j3,i39_j2,i39_j4,i39_j0,h3',Option.bind_some,h4,Bool.not_not,List.drop_zero]
  ·rw[decide_eq_false (show ¬((l.length:Nat):Int)≤(16:Int) by omega),cond_false,decide_eq_false h2,Bool.false_and]
 ·rw[decide_eq_false (show ¬(1:Int)≤((l.length:Nat):Int) by omega),cond_false,decide_eq_false h1,Bool.false_and,Bool.false_and]
theorem refvalid_l (m:Nat) (hm:34≤m) (l:List Dt) (hl:l.length<9223372036854775807):∀(M i:Nat),i≤l.length→l.length-i<M→ref04_Valid_l3 m M l (i:Int)=some ((l.drop i).all fun e=>nm e.toStr)
 |0,i,_,h=>by omega
 |M+1,i,hi,h=>by
  obtain⟨m,rfl⟩:∃k,m=k+1:=⟨m-1,by omega⟩
  simp only[ref04_Valid_l3,dlt]
  by_cases hlt:i<l.length
  ·rw[List.drop_eq_getElem_cons hlt]
   simp only[hlt,decide_true,cond_true,ref04_Valid_j5,ref04_Valid_j4,ref04_Valid_j6,ref04_Valid_j2,ref04_Valid_j1,ref04_Valid_j0,idx_lt hlt,Option.bind_some,wrapS (show i<9223372036854775807 by omega),name_eq m (by omega),refvalid_l (m+1) hm l hl M (i+1) (by omega) (by omega),List.all_cons]
   cases nm (l[i]).toStr<;>rfl
  ·have:i=l.length:=by omega
   subst this
   simp[ref04_Valid_j5,ref04_Valid_j4,ref04_Valid_j6,ref04_Valid_j2,ref04_Valid_j1,ref04_Valid_j0]
theorem refvalid_eq (m:Nat) (hm:40≤m) (l:List Dt):ref04_Valid (m+1) l=some (vld l):=by
 rw[ref04_Valid,vld]
 by_cases h1:l.length<1
 ·rw[decide_eq_true (show ((l.length:Nat):Int)<(1:Int) by omega),cond_true,decide_eq_false (show ¬1≤l.length by omega),Bool.false_and,Bool.false_and]
  rfl
 rw[decide_eq_false (show ¬((l.length:Nat):Int)<(1:Int) by omega),cond_false,decide_eq_true (show 1≤l.length by omega),Bool.true_and]
 by_cases h2:16<l.length
 ·rw[decide_eq_true (show (16:Int)<((l.length:Nat):Int) by omega),decide_eq_false (show ¬l.length≤16 by omega),Bool.false_and]
  rfl
 rw[decide_eq_false (show ¬(16:Int)<((l.length:Nat):Int) by omega),decide_eq_true (show l.length≤16 by omega),Bool.true_and]
 have h3:=refvalid_l m (by omega) l (by omega) (m+1) 0 (by omega) (by omega)
 have h3':ref04_Valid_l3 m (Nat.succ m) l 0=_:=h3
 simp only[cond_false,ref04_Valid_j5,ref04_Valid_j4,ref04_Valid_j6,ref04_Valid_j2,ref04_Valid_j1,ref04_Valid_j0,h3',List.drop_zero]
end Go.Proofs.YtbailjcjlapenaaGreatDoor
namespace Go.Proofs.YtbailjcjlapenaaGreatDoor
open Go.Am
def eshp (op:Int):Int:=
 bif op==1||op==2||op==3 then 0 else bif (op==18||op==22||op==23||op==24||op==26||op==30||op==31||op==36) then 1 else bif op==32||op==33 then 3 else bif op==19||op==25 then 4 else
 bif (op==4||op==6||op==16||op==17||op==21||op==29||op==37) then 5 else bif op==35 then 6 else bif op==34 then 7 else 2
def ehk (s n:Int):Bool:=bif s==0 then n==0 else bif s==1 then n==1 else bif (s==2||s==3) then n==2 else bif s==4 then n==3 else bif s==7 then decide (1≤n) else true
theorem op_cases {op:Int} (h1:1≤op) (h2:op≤37):op=1∨op=2∨op=3∨op=4∨op=5∨op=6∨op=7∨op=8∨op=9∨op=10∨op=11∨op=12∨op=13∨op=14∨op=15∨op=16∨op=17∨op=18∨op=19∨op=20∨op=21∨op=22∨op=23∨op=24∨op=25∨op=26∨op=27∨op=28∨op=29∨op=30∨op=31∨op=32∨op=33∨op=34∨op=35∨op=36∨op=37:=by omega
theorem shape_eq (m:Nat) {op:Int} (h1:1≤op) (h2:op≤37):expr_shape (m+1) op=some (eshp op):=by
 rcases op_cases h1 h2 with rfl|rfl|rfl|rfl|rfl|rfl|rfl|rfl|rfl|rfl|rfl|rfl|rfl|rfl|rfl|rfl|rfl|rfl|rfl|rfl|rfl|rfl|rfl|rfl|rfl|rfl|rfl|rfl|rfl|rfl|rfl|rfl|rfl|rfl|rfl|rfl|rfl<;>rfl
theorem hk_eq (m:Nat) {op:Int} (h1:1≤op) (h2:op≤37) (n:Int):expr_hasKids (m+1) (eshp op) n=some (ehk (eshp op) n):=by
 rcases op_cases h1 h2 with rfl|rfl|rfl|rfl|rfl|rfl|rfl|rfl|rfl|rfl|rfl|rfl|rfl|rfl|rfl|rfl|rfl|rfl|rfl|rfl|rfl|rfl|rfl|rfl|rfl|rfl|rfl|rfl|rfl|rfl|rfl|rfl|rfl|rfl|rfl|rfl|rfl<;>rfl
theorem loop_eq {op:Int} (h1:1≤op) (h2:op≤37):(eshp op==3)=(op==32||op==33):=by
 rcases op_cases h1 h2 with rfl|rfl|rfl|rfl|rfl|rfl|rfl|rfl|rfl|rfl|rfl|rfl|rfl|rfl|rfl|rfl|rfl|rfl|rfl|rfl|rfl|rfl|rfl|rfl|rfl|rfl|rfl|rfl|rfl|rfl|rfl|rfl|rfl|rfl|rfl|rfl|rfl<;>rfl
theorem rk_eq (m:Nat) {op:Int} (h1:1≤op) (h2:op≤37) (n:Nat):∃k,ref08_Kids (m+1) op=some k∧((op=34∧decide (0≤k)=false)∨(op≠34∧(decide (0≤k)&&((n:Int) !=k))=!(ehk (eshp op) n))):=by
 rcases op_cases h1 h2 with rfl|rfl|rfl|rfl|rfl|rfl|rfl|rfl|rfl|rfl|rfl|rfl|rfl|rfl|rfl|rfl|rfl|rfl|rfl|rfl|rfl|rfl|rfl|rfl|rfl|rfl|rfl|rfl|rfl|rfl|rfl|rfl|rfl|rfl|rfl|rfl|rfl
 all_goals first
  |exact⟨_,rfl,.inl ⟨rfl,rfl⟩⟩
  |exact⟨_,rfl,.inr ⟨by decide,rfl⟩⟩
theorem hk_doc (n:Nat):ehk (eshp 34) (n:Int)=!((n:Int)==0):=by
 show decide ((1:Int)≤n)=_
 by_cases h:n=0
 ·subst h;rfl
 ·rw[decide_eq_true (by omega),show ((n:Int)==0)=false by rw[beq_eq_false_iff_ne];omega];rfl
theorem vld_one (s:ByteArray):vld [.str s]=nm s:=by
 show (true&&true&&(nm s&&true))=nm s
 simp
theorem ename_eq (m:Nat) (hm:40≤m) (s:ByteArray):expr_isName (m+4) s=some (nm s):=by
 rw[expr_isName,valid_eq m hm,Option.bind_some,vld_one]
def dnm (l:List Dt):Bool:=difS nm [] (l.map Dt.toStr)
theorem dist_loop (m:Nat) (hm:44≤m) (L:List Dt) (hl:L.length<9223372036854775807):∀(M i:Nat) (mp:List Dt),i≤L.length→L.length-i<M→MapS mp ((L.take i).map Dt.toStr)→
  expr_distinctNames_l1 m M L (L.length:Int) (i:Int) mp=some (difS nm ((L.take i).map Dt.toStr) ((L.drop i).map Dt.toStr))
 |0,i,_,_,h,_=>by omega
 |M+    1,i,mp,hi,h,hmp=>by
  obtain⟨m,rfl⟩:∃q,m=q+4:=⟨m-4,by omega⟩
  rw[expr_distinctNames_l1,dlt]
  by_cases hlt:i<L.length
  ·have hp:=hmp (Dt.toStr L[i])
   have hmp':=mapS_put hmp (Dt.toStr L[i])
   have et:(L.take (i+1)).map Dt.toStr=((L.take i).map Dt.toStr)++[Dt.toStr L[i]]:=by
        rw[List.take_succ_eq_append_getElem hlt,List.map_append];rfl
   rw[←et] at hmp'
   have ih:=dist_loop (m+4) hm L hl M (i+1) _ (by omega) (by omega) hmp'
   rw[List.drop_eq_getElem_cons hlt,List.map_cons,difS,←et]
   simp only[hlt,decide_true,cond_true,expr_distinctNames_j2,expr_distinctNames_j3,expr_distinctNames_j4,expr_distinctNames_j5,idx_lt hlt,Option.bind_some,hp,ename_eq m (by omega),wrapS (show i<9223372036854775807 by omega),ih]
   cases nm (Dt.toStr L[i])<;>cases ((L.take i).map Dt.toStr).any (eqb (Dt.toStr L[i]))<;>rfl
  ·have:i=L.length:=by omega
   subst this
   simp[expr_distinctNames_j6,difS]
theorem dist_eq (m:Nat) (hm:44≤m) (L:List Dt) (hl:L.length≤m) (hm2:m<9223372036854775000):expr_distinctNames (m+1) L=some (dnm L):=by
 have h:=dist_loop m hm L (by omega) (m+1) 0 [] (Nat.zero_le _) (by omega) mapS_nil
 exact h
theorem rnm_in (m:Nat) (rec1:List Dt→Int→Option Bool) (L:List Dt) (i:Nat) (hi:i<L.length) (hl:L.length<9223372036854775807):∀(M k:Nat),k≤i→i-k<M→
  ref08_named_l5 m rec1 M L (i:Int) (k:Int)=bif (((L.take i).drop k).map Dt.toStr).any (eqb (Dt.toStr L[i])) then some false else rec1 L ((i+1:Nat):Int)
 |0,k,_,h=>by omega
 |M+1,k,hk,h=>by
  rw[ref08_named_l5,dlt]
  by_cases hlt:k<i
  ·have hk2:k<(L.take i).length:=by simp;omega
   rw[List.drop_eq_getElem_cons hk2,List.getElem_take,List.map_cons,List.any_cons]
   simp only[hlt,decide_true,cond_true,ref08_named_j6,ref08_named_j7,idx_lt hi,idx_lt (show k<L.length by omega),Option.bind_some,wrapS (show k<9223372036854775807 by omega),rnm_in m rec1 L i hi hl M (k+1) (by omega) (by omega)]
   rw[eqb_comm]
   show (bif eqb (Dt.toStr L[k]) (Dt.toStr L[i]) then _ else _)=_
   cases eqb (Dt.toStr L[k]) (Dt.toStr L[i])<;>rfl
  ·have:k=i:=by omega
   subst this
   rw[List.drop_eq_nil_of_le (by simp;omega)]
   simp[ref08_named_j8,wrapS (show k<9223372036854775807 by omega)]
theorem rnm_loop (m:Nat) (hm:34≤m) (L:List Dt) (hl:L.length≤m) (hm2:m<9223372036854775000):∀(M i:Nat),i≤L.length→L.length-i<M→
  ref08_named_l1 m M L (i:Int)=some (difS nm ((L.take i).map Dt.toStr) ((L.drop i).map Dt.toStr))
 |0,i,_,h=>by omega
 |M+    1,i,hi,h=>by
  obtain⟨m,rfl⟩:∃q,m=q+1:=⟨m-1,by omega⟩
  rw[ref08_named_l1,dlt]
  by_cases hlt:i<L.length
  ·have et:(L.take (i+1)).map Dt.toStr=((L.take i).map Dt.toStr)++[Dt.toStr L[i]]:=by
        rw[List.take_succ_eq_append_getElem hlt,List.map_append];rfl
   have hin:=rnm_in (m+1) (ref08_named_l1 (m+1) M) L i hlt (by omega) (m+2) 0 (Nat.zero_le _) (by omega)
   rw[List.drop_zero] at hin
   rw[List.drop_eq_getElem_cons hlt,List.map_cons,difS,←et]
   simp only[hlt,decide_true,cond_true,ref08_named_j2,ref08_named_j3,ref08_named_j4,idx_lt hlt,Option.bind_some,name_eq m (by omega)]
   cases nm (Dt.toStr L[i]) with
   |false=>rfl
   |    true=>
        rw[show Nat.succ (m+1)=m+2 from rfl,show (0:Int)=((0:Nat):Int) from rfl,hin]
        rw[rnm_loop (m+1) hm L hl hm2 M (i+1) (by omega) (by omega)]
        cases ((L.take i).map Dt.toStr).any (eqb (Dt.toStr L[i]))<;>rfl
  ·have:i=L.length:=by omega
   subst this
   simp[ref08_named_j9,difS]
theorem rnm_eq (m:Nat) (hm:34≤m) (L:List Dt) (hl:L.length≤m) (hm2:m<9223372036854775000):ref08_named (m+1) L=some (dnm L):=rnm_loop m hm L hl hm2 (m+1) 0 (Nat.zero_le _) (by omega)
def zvl (d:Dt):Bool:=(Dt.I d 0==0)&&(Dt.I d 1==0)&&(ByteArray.toList (Dt.S d 2)==[])&&(((Dt.L d 3).length:Int)==0)&&(((Dt.L d 4).length:Int)==0)
theorem expr_isZero_zv (m:Nat) (d:Dt):expr_isZero (m+1) d=some (zvl d):=by
 rw[expr_isZero,zvl]
 cases (Dt.I d 0==0)<;>cases (Dt.I d 1==0)<;>cases (ByteArray.toList (Dt.S d 2)==[])<;>cases (((Dt.L d 3).length:Int)==0)<;>rfl
theorem pipeline_zeroValue_zv (m:Nat) (d:Dt):pipeline_zeroValue (m+1) d=some (zvl d):=by
 rw[pipeline_zeroValue,zvl]
 cases (Dt.I d 0==0)<;>cases (Dt.I d 1==0)<;>cases (ByteArray.toList (Dt.S d 2)==[])<;>cases (((Dt.L d 3).length:Int)==0)<;>rfl
def zVl:Dt:= .agg [.int 0,.int 0,.str (ByteArray.mk (List.toArray [])),.lst [],.lst []]
theorem rsame_zv (m:Nat) (d:Dt):ref01_Same (m+2) d zVl=some (zvl d):=by
 have hI0:Dt.I zVl 0=0:=rfl
 have hI1:Dt.I zVl 1=0:=rfl
 have hS:ByteArray.toList (Dt.S zVl 2)=[]:=by show ByteArray.toList _=[];rw[ByteArray.toList_eq];rfl
 have hL3:Dt.L zVl 3=[]:=rfl
 have hL4:Dt.L zVl 4=[]:=rfl
 rw[ref01_Same,zvl,hI0,hI1,hS,hL3,hL4,List.length_nil]
 have b:∀x y:Int,(x !=y)=!(x==y):=fun _ _=>rfl
 simp only[b,show ((0:Nat):Int)=0 from rfl]
 cases (Dt.I d 0==0) with
 |false=>simp only[Bool.not_false,cond_true,ref01_Same_j0,Bool.false_and]
 |true=>
  cases (Dt.I d 1==0) with
  |false=>simp only[Bool.not_false,Bool.not_true,cond_true,cond_false,ref01_Same_j0,Bool.false_and,Bool.true_and]
  |true=>
   cases (ByteArray.toList (Dt.S d 2)==[]) with
   |false=>simp only[Bool.not_false,Bool.not_true,cond_true,cond_false,ref01_Same_j0,Bool.false_and,Bool.true_and]
   |    true=>
        cases h3:(((Dt.L d 3).length:Int)==0) with
        |false=>simp only[Bool.not_false,Bool.not_true,cond_true,cond_false,ref01_Same_j0,Bool.false_and,Bool.true_and]
        |true=>
         cases h4:(((Dt.L d 4).length:Int)==0) with
         |false=>simp only[Bool.not_false,Bool.not_true,cond_true,cond_false,ref01_Same_j0,Bool.false_and,Bool.true_and]
         |true=>
          have e3:Dt.L d 3=[]:=List.length_eq_zero_iff.1 (by have:=(beq_iff_eq).1 h3;omega)
          have e4:Dt.L d 4=[]:=List.length_eq_zero_iff.1 (by have:=(beq_iff_eq).1 h4;omega)
          simp only[Bool.not_true,cond_false,Bool.true_and,ref01_Same_j5,ref01_Same_j4,ref01_Same_j11,ref01_Same_j10,ref01_Same_j9,ref01_Same_j12,ref01_Same_j7,ref01_Same_j6,ref01_Same_j2,ref01_Same_j1,ref01_Same_j0]
          rw[ref01_Same_l3]
          simp only[e3,List.length_nil,show ((0:Nat):Int)=0 from rfl,Int.lt_irrefl,decide_false,cond_false,ref01_Same_j5,ref01_Same_j4,ref01_Same_j11,ref01_Same_j10,ref01_Same_j9,ref01_Same_j12,ref01_Same_j7,ref01_Same_j6,ref01_Same_j2,ref01_Same_j1,ref01_Same_j0]
          rw[ref01_Same_l8]
          simp only[e4,List.length_nil,show ((0:Nat):Int)=0 from rfl,Int.lt_irrefl,decide_false,cond_false,ref01_Same_j5,ref01_Same_j4,ref01_Same_j11,ref01_Same_j10,ref01_Same_j9,ref01_Same_j12,ref01_Same_j7,ref01_Same_j6,ref01_Same_j2,ref01_Same_j1,ref01_Same_j0]
end Go.Proofs.YtbailjcjlapenaaGreatDoor
namespace Go.Proofs.YtbailjcjlapenaaGreatDoor
open Go.Am
def sA (d:Dt):Int:=bif (!(Dt.I d 0==1)&&!(zvl (Dt.fld d 4)))||(Dt.I d 5 !=0) then 4 else 0
def sB (x0 x1:Bool) (d:Dt):Int:=bif (!x0&&decide ((0:Int)<((Dt.L d 1).length:Int)))||((!x1&&!(ByteArray.toList (Dt.S d 2)==[]))||(!(Dt.I d 0==34)&&decide ((0:Int)<((Dt.L d 3).length:Int)))) then 4 else sA d
def sC (x0 x1:Bool) (d:Dt):Int:=bif (Dt.I d 0==1)&&!(okV (Dt.fld d 4)) then 8 else sB x0 x1 d
def sD (x0 x1:Bool) (d:Dt):Int:=bif (x1&&!(nm (Dt.S d 2)))||((Dt.I d 0==34)&&!(dnm (Dt.L d 3))) then 9 else sC x0 x1 d
def sE (x0 x1:Bool) (d:Dt):Int:=bif x0&&(!(vld (Dt.L d 1))&&((Dt.I d 0==2)||decide ((0:Int)<((Dt.L d 1).length:Int)))) then 10 else sD x0 x1 d
def nodeS (d:Dt):Int:=bif decide (Dt.I d 0<1)||decide (37<Dt.I d 0) then 11 else
 bif !(ehk (eshp (Dt.I d 0)) ((Dt.L d 6).length:Int))||((Dt.I d 0==34)&&(((Dt.L d 6).length:Int) !=((Dt.L d 3).length:Int))) then 11 else sE (Dt.I d 0==2||Dt.I d 0==3) (Dt.I d 0==3||(Dt.I d 0==32||Dt.I d 0==33)) d
theorem bneq (x y:Int):(x !=y)=!(x==y):=rfl
section
variable (k:Nat) (d:Dt)
theorem pA:expr_checkNode_j13 (k+1) d=some (sA d):=by
 rw[expr_checkNode_j13,expr_isZero_zv,Option.bind_some,sA]
 simp only[expr_checkNode_j14,expr_checkNode_j15,bneq]
 cases (Dt.I d 0==1)<;>cases zvl (Dt.fld d 4)<;>cases (Dt.I d 5==0)<;>rfl
theorem pB (x0 x1:Bool):expr_checkNode_j11 (k+1) x0 x1 d=some (sB x0 x1 d):=by
 rw[expr_checkNode_j11,sB]
 simp only[expr_checkNode_j12,pA,bneq]
 cases x0<;>cases x1<;>cases decide ((0:Int)<((Dt.L d 1).length:Int))<;>cases (ByteArray.toList (Dt.S d 2)==[])<;>cases (Dt.I d 0==34)<;>cases decide ((0:Int)<((Dt.L d 3).length:Int))<;>rfl
theorem pC (x0 x1:Bool) (hw:WV (Dt.fld d 4)) (hk:3*(Dt.fld d 4).bulk+300≤k) (hb:(Dt.fld d 4).bulk≤100000000000):expr_checkNode_j9 (k+3) x0 x1 d=some (sC x0 x1 d):=by
 rw[expr_checkNode_j9,vValid_eq hw k hk hb,Option.bind_some,sC]
 simp only[expr_checkNode_j10,pB]
 cases (Dt.I d 0==1)<;>cases okV (Dt.fld d 4)<;>rfl
theorem pD (x0 x1:Bool) (hw:WV (Dt.fld d 4)) (hk:3*(Dt.fld d 4).bulk+300≤k) (hb:(Dt.fld d 4).bulk≤100000000000) (hn:(Dt.L d 3).length≤k) (hk2:k<9223372036854770000):expr_checkNode_j7 (k+4) x0 x1 d=some (sD x0 x1 d):=by
 rw[expr_checkNode_j7,ename_eq k (by omega),dist_eq (k+3) (by omega) (Dt.L d 3) (by omega) (by omega),Option.bind_some,Option.bind_some,sD]
 simp only[expr_checkNode_j8,pC (k+1) d x0 x1 hw (by omega) hb]
 cases x1<;>cases nm (Dt.S d 2)<;>cases (Dt.I d 0==34)<;>cases dnm (Dt.L d 3)<;>rfl
theorem pE (x0 x1:Bool) (hw:WV (Dt.fld d 4)) (hk:3*(Dt.fld d 4).bulk+300≤k) (hb:(Dt.fld d 4).bulk≤100000000000) (hn:(Dt.L d 3).length≤k) (hk2:k<9223372036854770000):expr_checkNode_j5 (k+4) x0 x1 d=some (sE x0 x1 d):=by
 rw[expr_checkNode_j5,valid_eq (k+1) (by omega),Option.bind_some,sE]
 simp only[expr_checkNode_j6,pD k d x0 x1 hw hk hb hn hk2]
 cases x0<;>cases vld (Dt.L d 1)<;>cases (Dt.I d 0==2)<;>cases decide ((0:Int)<((Dt.L d 1).length:Int))<;>rfl
theorem node_prog (hw:WV (Dt.fld d 4)) (hk:3*(Dt.fld d 4).bulk+300≤k) (hb:(Dt.fld d 4).bulk≤100000000000) (hn:(Dt.L d 3).length≤k) (hk2:k<9223372036854770000):expr_checkNode (k+5) d=some (nodeS d):=by
 rw[expr_checkNode,nodeS]
 by_cases h1:Dt.I d 0<1
 ·rw[decide_eq_true h1,cond_true,Bool.true_or,cond_true];rfl
 by_cases h2:37<Dt.I d 0
 ·rw[decide_eq_false h1,decide_eq_true h2,cond_false,cond_true,Bool.or_true,cond_true];rfl
 rw[decide_eq_false h1,decide_eq_false h2,cond_false,cond_false,Bool.or_false,cond_false,shape_eq (k+3) (by omega) (by omega),Option.bind_some,hk_eq (k+3) (by omega) (by omega),Option.bind_some]
 have hE:=fun x0 x1=>pE k d x0 x1 hw hk hb hn hk2
 have hl:(eshp (Dt.I d 0)==3)=(Dt.I d 0==32||Dt.I d 0==33):=loop_eq (by omega) (by omega)
 simp only[expr_checkNode_j0,expr_checkNode_j1,expr_checkNode_j2,expr_checkNode_j3,expr_checkNode_j4,shape_eq (k+3) (show 1≤Dt.I d 0 by omega) (by omega),Option.bind_some,hE,hl,bneq]
 cases ehk (eshp (Dt.I d 0)) ((Dt.L d 6).length:Int)<;>cases (Dt.I d 0==34)<;>cases (((Dt.L d 6).length:Int)==((Dt.L d 3).length:Int))<;>cases (Dt.I d 0==2)<;>cases (Dt.I d 0==3)<;>rfl
theorem rB (x0:Bool) (x1:Bool) (h:x0=(Dt.I d 0==2||Dt.I d 0==3)):ref08_node_j8 (k+2) x1 d=some (sB x0 x1 d):=by
 subst h
 have hs:ref01_Same (k+2) (Dt.fld d 4) (Dt.agg [(Dt.int 0),(Dt.int 0),(Dt.str (ByteArray.mk (List.toArray []))),(Dt.lst []),(Dt.lst [])])=some (zvl (Dt.fld d 4)):=rsame_zv k (Dt.fld d 4)
 have hs2:ref01_Same (k+2) (Dt.fld d 4) kza2373=some (zvl (Dt.fld d 4)):=rsame_zv k (Dt.fld d 4)
 rw[ref08_node_j8,sB,sA]
 simp only[ref08_node_j9,ref08_node_j10,hs,hs2,Option.bind_some,bneq]
 cases (Dt.I d 0==2)<;>cases (Dt.I d 0==3)<;>cases decide ((0:Int)<((Dt.L d 1).length:Int))<;>cases x1<;>cases (ByteArray.toList (Dt.S d 2)==[])<;>cases (Dt.I d 0==34)<;>cases decide ((0:Int)<((Dt.L d 3).length:Int))<;>cases (Dt.I d 0==1)<;>cases zvl (Dt.fld d 4)<;>cases (Dt.I d 5==0)<;>rfl
theorem rC (x0 x1:Bool) (h:x0=(Dt.I d 0==2||Dt.I d 0==3)) (hw:WV (Dt.fld d 4)) (hk:2*(Dt.fld d 4).bulk+300≤k) (hb:(Dt.fld d 4).bulk≤100000000000) (hk2:k<9223372036854770000):ref08_node_j6 (k+4) x1 d=some (sC x0 x1 d):=by
 rw[ref08_node_j6,rValid_eq hw k hk (by omega) hb,Option.bind_some,sC]
 simp only[ref08_node_j7,rB (k+2) d x0 x1 h]
 cases (Dt.I d 0==1)<;>cases okV (Dt.fld d 4)<;>rfl
theorem rD (x0 x1:Bool) (h:x0=(Dt.I d 0==2||Dt.I d 0==3)) (hw:WV (Dt.fld d 4)) (hk:2*(Dt.fld d 4).bulk+300≤k) (hb:(Dt.fld d 4).bulk≤100000000000) (hn:(Dt.L d 3).length≤k) (hk2:k<9223372036854770000):ref08_node_j4 (k+4) x1 d=some (sD x0 x1 d):=by
 rw[ref08_node_j4,name_eq (k+3) (by omega),rnm_eq (k+3) (by omega) (Dt.L d 3) (by omega) (by omega),Option.bind_some,Option.bind_some,sD]
 simp only[ref08_node_j5,rC k d x0 x1 h hw hk hb hk2]
 cases x1<;>cases nm (Dt.S d 2)<;>cases (Dt.I d 0==34)<;>cases dnm (Dt.L d 3)<;>rfl
theorem rE (hw:WV (Dt.fld d 4)) (hk:2*(Dt.fld d 4).bulk+300≤k) (hb:(Dt.fld d 4).bulk≤100000000000) (hn:(Dt.L d 3).length≤k) (hk2:k<9223372036854770000):ref08_node_j1 (k+4) d=some (sE (Dt.I d 0==2||Dt.I d 0==3) (Dt.I d 0==3||(Dt.I d 0==32||Dt.I d 0==33)) d):=by
 rw[ref08_node_j1,refvalid_eq (k+3) (by omega),Option.bind_some,Option.bind_some,sE]
 have hD:=fun x1=>rD k d _ x1 rfl hw hk hb hn hk2
 simp only[ref08_node_j2,ref08_node_j3,hD]
 cases h2:(Dt.I d 0==2)<;>cases h3:(Dt.I d 0==3)<;>cases vld (Dt.L d 1)<;>cases decide ((0:Int)<((Dt.L d 1).length:Int))<;>cases (Dt.I d 0==32)<;>first|rfl|(exfalso;have a2:=(beq_iff_eq).1 h2;have a3:=(beq_iff_eq).1 h3;omega)
theorem node_ref (hw:WV (Dt.fld d 4)) (hk:2*(Dt.fld d 4).bulk+300≤k) (hb:(Dt.fld d 4).bulk≤100000000000) (hn:(Dt.L d 3).length≤k) (hk2:k<9223372036854770000):ref08_node (k+5) d=some (nodeS d):=by
 rw[ref08_node,nodeS]
 by_cases h1:Dt.I d 0<1
 ·rw[decide_eq_true h1,cond_true,Bool.true_or,cond_true];rfl
 by_cases h2:37<Dt.I d 0
 ·rw[decide_eq_false h1,decide_eq_true h2,cond_false,cond_true,Bool.or_true,cond_true];rfl
 obtain⟨c,c1,c2⟩:=rk_eq (k+3) (show 1≤Dt.I d 0 by omega) (by omega) (Dt.L d 6).length
 rw[decide_eq_false h1,decide_eq_false h2,cond_false,cond_false,Bool.or_false,cond_false,c1,Option.bind_some,Option.bind_some]
 have hE:=rE k d hw hk hb hn hk2
 simp only[ref08_node_j0,hE]
 rcases c2 with⟨e,c2⟩| ⟨e,c2⟩
 ·rw[c2,e,hk_doc]
  simp only[cond_false,bneq,beq_self_eq_true,cond_true,Bool.true_and]
  cases (((Dt.L d 6).length:Int)==0)<;>cases (((Dt.L d 6).length:Int)==((Dt.L d 3).length:Int))<;>rfl
 ·have e':(Dt.I d 0==34)=false:=by rw[beq_eq_false_iff_ne];exact e
  rw[e']
  simp only[cond_false,Bool.false_and,Bool.or_false]
  rw[←c2]
  cases decide (0≤c)<;>cases (((Dt.L d 6).length:Int) !=c)<;>rfl
end
end Go.Proofs.YtbailjcjlapenaaGreatDoor
