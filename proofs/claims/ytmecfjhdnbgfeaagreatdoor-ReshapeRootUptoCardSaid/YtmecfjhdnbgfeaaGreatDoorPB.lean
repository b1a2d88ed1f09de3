/- expr: the value at a path, by the program and by the reference.
expr:operators on integers,by the program and by the reference.
expr:truth values,comparisons,logic,by the program and by the reference.
expr:operators on strings,by the program and by the reference.
expr:parts of strings,joined strings.
expr:operators on lists,by the program and by the reference.
expr:each operator on lists.
expr:the reference's operators on one list;joined strings.
expr:lists and documents out of the values of kids.
expr:each operator,by the program's and the reference's branches. Printed by eap.py.
expr:the loops over kids,elements and variables.
Valid values are small.
expr:a node's value is missing,valid or null.
expr:values at paths are well-formed,no bigger,and missing only as the zero value.
expr:the results of the operators are well-formed and of bounded size.
expr:the results of the operators on lists and of collections.
expr:joined strings:the program's and the reference's agree as values of a node;documents.
expr:the value of an expression,in plain Lean.
expr:documents merged,in plain Lean:the program's and the reference's rule give the same value of a node.
expr:documents merged:the program's and the reference's loops.
expr:what a valid expression is:a tree of at most 16 levels with good nodes,each of at most 256 kids. -/
import Derived.Test.YtmecfjhdnbgfeaaGreatDoorSh
import Derived.Test.YtmecfjhdnbgfeaaGreatDoorPA
set_option linter.all false
namespace Go.Proofs.YtmecfjhdnbgfeaaGreatDoor
open Go.Am Dt
def fnd(x:ByteArray):List Dt->Option Dt
 | []=>none
 |f::r=>bif ByteArray.toList (S f 0)==ByteArray.toList x then some (fld f 1)else fnd x r
def am6(x:ByteArray)(L:List Dt):Dt×Bool:=match fnd x L with
 |some v=>(v,true)
 |none=>(aj,false)
def wF(l:List Dt):Dt:= .agg [.int 6,.int 0,.str (ByteArray.mk (List.toArray [])),.lst l,.lst []]
def nnB(x:Dt):Bool:=I x 0 !=0
def atN:Nat->Dt->List Dt->Dt
 |0,_,_=>aj
 |_+1,v,[]=>v
 |  n+1,v,s::r=>
    bif I v 0==5 then(match fnd (toStr s) (L v 4)with
     |some x=>atN n x r
     |none=>aj)
    else bif I v 0==6 then wF (((L v 3).map fun e=>atN n e (s::r)).filter nnB)else aj
theorem apo(s:Dt)(p:List Dt):cutL (s::p) 1 ((s::p).length:Int)=some p:=by have:=Rl (l:=s::p) (i:=1) (j:=(s::p).length) (by simp) (ak _);simpa using this
theorem am7(s:Dt)(p:List Dt):idx (s::p) 0=some s:=bG (l:=s::p) (i:=0) (by simp)
theorem iL{A:Type}{L:List A}{i:Nat}(h:i<L.length):L.drop i=L[i]::L.drop (i+1):=aD h
theorem kG{A:Type}{L:List A}{i:Nat}(h:¬i<L.length):L.drop i=[]:=List.drop_eq_nil_of_le (by omega)
theorem Nj{x:ByteArray}{v:Dt}:∀{L:List Dt},fnd x L=some v->∃f∈L,v=fld f 1
 |f::r,h=>by
  rw[fnd]at h;cases hc:ByteArray.toList (S f 0)==ByteArray.toList x
  ·rw[hc,cond_false]at h;obtain⟨g,h1,h2⟩:=Nj h;exact⟨g,bA _ h1,h2⟩
  ·rw[hc,cond_true]at h;cases h;exact⟨f,aS ..,rfl⟩
theorem YE{x:ByteArray}{v d:Dt}{i:Nat}(h:fnd x (L d i)=some v):v.bulk<d.bulk:=by obtain⟨f,h1,rfl⟩:=Nj h;have:=oU f 1;have:=p9 h1;omega
theorem ad8(m:Nat)(self:Dt->List Dt->Option Dt)(s:Dt)(r fs:List Dt)(z:Dt)(g:Dt->Dt)(hl:fs.length<9223372036854775807)(hs:∀f∈fs,self (fld f 1) r=some (g (fld f 1))):
  ∀(M i:Nat),i<=fs.length->fs.length-i<M->ou m self M (s::r) fs (fs.length:Int) (i:Int) z=some (match fnd (toStr s) (fs.drop i)with
   |some x=>g x
   |none=>aj)
 |0,i,_,h=>by omega
 |M+    1,i,hi,h=>by
  simp only[ou,dlt];by_cases hlt:i<fs.length
  ·rw[iL hlt,fnd];simp only[hlt,decide_true,cond_true,jh,kL,bG hlt,am7,ah,bQ (show i<9223372036854775807 by omega),apo s r];cases hc:ByteArray.toList (S fs[i] 0)==ByteArray.toList (toStr s)
   ·    simp only[cond_false];exact ad8 m self s r fs z g hl hs M (i+1) (by omega) (by omega)
   ·simp only[cond_true,hs _ (aI hlt),ah]
  ·rw[kG hlt];simp only[hlt,decide_false,cond_false,jh,kL,fnd]
theorem V7(m:Nat)(self:Dt->List Dt->Option Dt)(p l:List Dt)(z:Dt)(g:Dt->Dt)(hl:l.length<=137438953472)(hs:∀e∈l,self e p=some (g e)):
  ∀(M i:Nat)(acc:List Dt),i<=l.length->acc.length<=i->l.length-i<M->jo m self M p l (l.length:Int) (i:Int) z 6 0 (ByteArray.mk (List.toArray [])) acc []=some (wF (acc++((l.drop i).map g).filter nnB))
 |0,i,_,_,_,h=>by omega
 |M+    1,i,acc,hi,ha,h=>by
  simp only[jo,dlt];by_cases hlt:i<l.length
  ·rw[iL hlt,List.map_cons,List.filter_cons];simp only[hlt,decide_true,cond_true,jh,kL,bG hlt,ah,bQ (show i<9223372036854775807 by omega),hs _ (aI hlt),nnB];rcases Bool.eq_false_or_eq_true (I (g l[i]) 0 !=0)with hc|hc
   case inr=>
        simp only[hc,cond_false,Bool.false_eq_true,if_false];exact V7 m self p l z g hl hs M (i+1) acc (by omega) (by omega) (by omega)
   case inl=>
        have h1:(acc++[g l[i]]).length<=i+1:=by rw[aB];simp;omega
        simp only[hc,cond_true,if_true,kH (l:=acc) (r:=[g l[i]]) (by simp;omega),ah];rw[V7 m self p l z g hl hs M (i+1) _ (by omega) h1 (by omega),List.append_assoc];rfl
  ·rw[kG hlt];simp only[hlt,decide_false,cond_false,jh,kL,List.map_nil,List.filter_nil,List.append_nil];rfl
theorem V8:∀(n m:Nat)(v:Dt)(p:List Dt),v.bulk<=n->n<=m->v.bulk<=137438953472->bZ (m+1) v p=some (atN (n+1) v p)
 |n,m,v,[],_,_,_=>by simp[bZ,atN]
 |0,m,v,s::r,h,_,_=>by have:=pO v;omega
 |n+    1,m,v,s::r,h,hm,hb=>by
  obtain⟨m,rfl⟩:∃k,m=k+1:=⟨m-1,by omega⟩;have y0:(((s::r).length:Int)==0)=false:=by rw[show (0:Int)=((0:Nat):Int)from rfl,ieq];simp
  have hd:∀f∈L v 4,bZ (m+1) (fld f 1) r=some ((fun x=>atN (n+1) x r) (fld f 1)):=fun f hf=>by have:=oU f 1;have:=p9 hf;exact V8 n m _ r (by omega) (by omega) (by omega)
  have hl:∀e∈L v 3,bZ (m+1) e (s::r)=some ((fun x=>atN (n+1) x (s::r)) e):=fun e he=>by have:=p9 he;exact V8 n m _ (s::r) (by omega) (by omega) (by omega)
  have n4:=iB v 4;have n3:=iB v 3;rw[bZ,y0,cond_false,atN];unfold kL;cases h5:(I v 0==5)
  ·simp only[cond_false];cases h6:(I v 0==6);·simp only[cond_false]
   ·    simp only[cond_true];have:=V7 (m+1) (bZ (m+1)) (s::r) (L v 3) aj (fun x=>atN (n+1) x (s::r)) (by omega) hl (Nat.succ (m+1)) 0 [] (aC _) (ak _) (by omega);simpa using this
  ·simp only[cond_true];have:=ad8 (m+1) (bZ (m+1)) s r (L v 4) aj (fun x=>atN (n+1) x r) (by omega) hd (Nat.succ (m+1)) 0 (aC _) (by omega);simpa using this
theorem at_loop(m:Nat)(x:ByteArray)(v:Dt)(hl:(L v 4).length<9223372036854775807):∀(M i:Nat),i<=(L v 4).length->(L v 4).length-i<M->(∃(k:Nat)(h:k<(L v 4).length),nS m M x (i:Int) v=some (k:Int)∧fnd x ((L v 4).drop i)=some (fld (L v 4)[k] 1))∨(nS m M x (i:Int) v=some (-1)∧fnd x ((L v 4).drop i)=none)
 |0,i,_,h=>by omega
 |M+1,i,hi,h=>by
  simp only[nS,dlt];by_cases hlt:i<(L v 4).length
  ·rw[iL hlt,fnd];simp only[hlt,decide_true,cond_true,bG hlt,ah,bQ (show i<9223372036854775807 by omega)];cases (ByteArray.toList (S (L v 4)[i] 0)==ByteArray.toList x);·exact at_loop m x v hl M (i+1) (by omega) (by omega)
   ·exact .inl ⟨i,hlt,rfl,rfl⟩
  ·rw[kG hlt];simp only[hlt,decide_false,cond_false];exact .inr ⟨trivial,rfl⟩
theorem am8(m:Nat)(v:Dt)(x:ByteArray)(h5:I v 0=5)(hm:v.bulk<=m)(hm2:v.bulk<9223372036854775807):sJ (m+2) v x=some (am6 x (L v 4)):=by
 have hn:=iB v 4;have y5:(I v 0 !=5)=false:=by rw[h5];rfl
 have h:=at_loop m x v (by omega) (m+1) 0 (aC _) (by omega);rw[aH]at h;rcases h with⟨k,hk,h1,h2⟩| ⟨h1,h2⟩
 ·have ha:ni (m+1) v x=some (k:Int):=by simp only[ni,y5,cond_false];exact h1
  have d0:decide ((k:Int)<0)=false:=decide_eq_false (by omega);simp only[sJ,ha,ah,d0,cond_false,bG hk,am6,h2]
 ·have ha:ni (m+1) v x=some (-1):=by simp only[ni,y5,cond_false];exact h1
  have d0:decide ((-1:Int)<0)=true:=rfl;simp only[sJ,ha,ah,d0,cond_true,am6,h2]
theorem V9(m:Nat)(self:Dt->List Dt->Option Dt)(p:List Dt)(v z:Dt)(g:Dt->Dt)(hl:(L v 3).length<=137438953472)(hs:∀e∈L v 3,self e p=some (g e)):
  ∀(M i:Nat)(acc:List Dt),i<=(L v 3).length->acc.length<=i->(L v 3).length-i<M->sK m self M p (i:Int) v z 6 0 (ByteArray.mk (List.toArray [])) acc []=some (wF (acc++(((L v 3).drop i).map g).filter nnB))
 |0,i,_,_,_,h=>by omega
 |M+    1,i,acc,hi,ha,h=>by
  simp only[sK,dlt];by_cases hlt:i<(L v 3).length
  ·rw[iL hlt,List.map_cons,List.filter_cons];simp only[hlt,decide_true,cond_true,yj,bG hlt,ah,bQ (show i<9223372036854775807 by omega),hs _ (aI hlt),nnB];rcases Bool.eq_false_or_eq_true (I (g (L v 3)[i]) 0 !=0)with hc|hc
   case inr=>
        simp only[hc,cond_false,Bool.false_eq_true,if_false];exact V9 m self p v z g hl hs M (i+1) acc (by omega) (by omega) (by omega)
   case inl=>
        have h1:(acc++[g (L v 3)[i]]).length<=i+1:=by rw[aB];simp;omega
        simp only[hc,cond_true,if_true,kH (l:=acc) (r:=[g (L v 3)[i]]) (by simp;omega),ah];rw[V9 m self p v z g hl hs M (i+1) _ (by omega) h1 (by omega),List.append_assoc];rfl
  ·rw[kG hlt];simp only[hlt,decide_false,cond_false,yj,List.map_nil,List.filter_nil,List.append_nil];rfl
theorem Wd:∀(n m:Nat)(v:Dt)(p:List Dt),v.bulk<=n->n+2<=m->v.bulk<=137438953472->iA (m+1) v p=some (atN (n+1) v p)
 |n,m,v,[],_,_,_=>by simp[iA,atN]
 |0,m,v,s::r,h,_,_=>by have:=pO v;omega
 |n+    1,m,v,s::r,h,hm,hb=>by
  obtain⟨m,rfl⟩:∃k,m=k+2:=⟨m-2,by omega⟩;have y0:(((s::r).length:Int)==0)=false:=by rw[show (0:Int)=((0:Nat):Int)from rfl,ieq];simp
  have hl:∀e∈L v 3,iA (m+2) e (s::r)=some ((fun x=>atN (n+1) x (s::r)) e):=fun e he=>by have:=p9 he;exact Wd n (m+1) _ (s::r) (by omega) (by omega) (by omega)
  have n4:=iB v 4;have n3:=iB v 3;rw[iA,y0,cond_false,atN];unfold yj;cases h5:(I v 0==5)
  ·simp only[cond_false];cases h6:(I v 0==6);·simp only[cond_false]
   ·    simp only[cond_true];have:=V9 (m+2) (iA (m+2)) (s::r) v aj (fun x=>atN (n+1) x (s::r)) (by omega) hl (Nat.succ (m+2)) 0 [] (aC _) (ak _) (by omega);simpa using this
  ·have e5:I v 0=5:=by simpa using h5
   simp only[cond_true,am7,ah,am8 m v (toStr s) e5 (by omega) (by omega),am6];cases hf:fnd (toStr s) (L v 4)with
   |none=>simp only[cond_false]
   |    some x=>
        have:=YE hf;simp only[cond_true,apo,ah,Wd n (m+1) x r (by omega) (by omega) (by omega)]
def kV(k n:Int):Dt:= .agg [.int k,.int n,.str (ByteArray.mk (List.toArray [])),.lst [],.lst []]
def iD(d:Dt):Dt:= .int (I d 1)
def isK(k:Int)(d:Dt):Bool:=I d 0==k
theorem set_mid(A B:List Dt)(z x:Dt):(A++z::B).set A.length x=A++x::B:=by
 induction A with
 |nil=>rfl
 |cons a A ih=>simp only[List.cons_append,List.length_cons,List.set_cons_succ,ih]
theorem Hy(m:Nat):cO (m+1)=some (kV 2 0):=rfl
theorem int_eq(m:Nat)(n:Int):bU (m+1) n=some (kV 3 n):=rfl
theorem Hz(m:Nat):cK (m+1)=some (kV 2 0):=rfl
theorem Wh(m:Nat)(n:Int):dX (m+1) n=some (kV 3 n):=rfl
def w64(n:Int):Int:=IntKind.wrap .i64 n
theorem aqt(n:Int):w64 n=(n+9223372036854775808)%18446744073709551616-9223372036854775808:=by unfold w64;rw[IntKind.wrap_i64]
def quS(a b:Int):Int:=bif (Int.tmod a b !=0)&&!(decide (a<0)==decide (b<0))then w64 (w64 (Int.tdiv a b)-1)else w64 (Int.tdiv a b)
theorem ad9(m:Nat)(a b:Int)(hb:b≠0):iT (m+1) a b=some (quS a b):=by
 have h0:decide (b=0)=false:=decide_eq_false hb;rw[iT,h0,cond_false,cond_false,quS];cases (Int.tmod a b !=0);·simp only[cond_false,Bool.false_and,mZ];rfl
 ·simp only[cond_true,Bool.true_and,mZ];cases (!(decide (a<0)==decide (b<0)))<;>rfl
theorem tmod_neg(a b:Int)(h:Int.tmod a b≠0):decide (Int.tmod a b<0)=decide (a<0):=by
 by_cases ha:a<0
 ·have h1:Int.tmod a b= -Int.tmod (-a) b:=by rw[Int.neg_tmod];omega
  have h2:=Int.tmod_nonneg b (show 0<= -a by omega);rw[decide_eq_true ha,decide_eq_true (by omega)]
 ·have h2:=Int.tmod_nonneg b (show 0<=a by omega);rw[decide_eq_false ha,decide_eq_false (by omega)]
theorem YF(m:Nat)(a b:Int)(hb:b≠0):eZ (m+1) a b=some (quS a b):=by
 have h0:decide (b=0)=false:=decide_eq_false hb;rw[eZ];by_cases h1:b= -1
 ·subst h1;rw[show ((-1:Int)== -1)=true from rfl,cond_true,quS,Int.tmod_neg,Int.tmod_one];show _=some (w64 (Int.tdiv a (-1)));rw[Int.tdiv_neg,Int.tdiv_one];show some (w64 (0-a))=_;rw[Int.zero_sub]
 ·rw[show (b== -1)=false by simpa using h1,cond_false,h0,cond_false,cond_false,cond_false,quS];cases hc:(Int.tmod a b !=0);·simp only[cond_false,Bool.false_and,lD];rfl
  ·have ht:Int.tmod a b≠0:=by simpa using hc
   rw[tmod_neg a b ht];simp only[cond_true,Bool.true_and,lD];cases (!(decide (a<0)==decide (b<0)))<;>rfl
theorem NR(m:Nat)(l:List Dt)(k:Int)(hl:l.length<9223372036854775807):∀(M i:Nat),i<=l.length->l.length-i<M->qw m M l k (i:Int)=some ((l.drop i).all (isK k))
 |0,i,_,h=>by omega
 |M+1,i,hi,h=>by
  simp only[qw,dlt];by_cases hlt:i<l.length
  ·rw[iL hlt,List.all_cons];simp only[hlt,decide_true,cond_true,bG hlt,ah,bQ (show i<9223372036854775807 by omega),NR m l k hl M (i+1) (by omega) (by omega),isK];cases hc:(I l[i] 0==k);·rw[show (I l[i] 0 !=k)=true by rw[bne,hc];rfl];rfl
   ·rw[show (I l[i] 0 !=k)=false by rw[bne,hc];rfl];rfl
  ·rw[kG hlt];simp only[hlt,decide_false,cond_false,List.all_nil]
theorem NS(m:Nat)(l:List Dt)(k:Int)(hl:l.length<9223372036854775807)(hm:l.length<=m):iY (m+1) l k=some (l.all (isK k)):=by have:=NR m l k hl (Nat.succ m) 0 (aC _) (by omega);simpa [iY]using this
theorem abu(m:Nat)(l:List Dt)(z:Dt)(hl:l.length<9223372036854775807):∀(M i:Nat)(n:Int),i<=l.length->l.length-i<M->iG (m+1) M n l (l.length:Int) (i:Int) z=some (kV 3 ((l.drop i).foldl (fun n d=>w64 (n+toInt d)) n))
 |0,i,_,_,h=>by omega
 |M+1,i,n,hi,h=>by
  simp only[iG,dlt];by_cases hlt:i<l.length
  ·rw[iL hlt,List.foldl_cons];simp only[hlt,decide_true,cond_true,dS,fH,iH,bG hlt,ah,bQ (show i<9223372036854775807 by omega)];exact abu m l z hl M (i+1) _ (by omega) (by omega)
  ·rw[kG hlt];simp only[hlt,decide_false,cond_false,dS,fH,iH,int_eq,ah,List.foldl_nil]
theorem ah0(m:Nat)(l:List Dt)(z:Dt)(hl:l.length<9223372036854775807):∀(M i:Nat)(n:Int),i<=l.length->l.length-i<M->jD (m+1) M n l (l.length:Int) (i:Int) z=some (kV 3 ((l.drop i).foldl (fun n d=>w64 (n*toInt d)) n))
 |0,i,_,_,h=>by omega
 |M+1,i,n,hi,h=>by
  simp only[jD,dlt];by_cases hlt:i<l.length
  ·rw[iL hlt,List.foldl_cons];simp only[hlt,decide_true,cond_true,dS,fH,iH,bG hlt,ah,bQ (show i<9223372036854775807 by omega)];exact ah0 m l z hl M (i+1) _ (by omega) (by omega)
  ·rw[kG hlt];simp only[hlt,decide_false,cond_false,dS,fH,iH,int_eq,ah,List.foldl_nil]
theorem apq(m:Nat)(op:Int)(l:List Dt)(z:Dt)(hl:l.length<9223372036854775807):∀(M i:Nat),i<=l.length->l.length-i<M->
  j4 (m+1) M op l (l.length:Int) (i:Int) z ((l.take i).map iD++List.replicate (l.length-i) (int 0))=bif (l.drop i).all (isK 3)then iH (m+1) op z (l.map iD)else some (kV 2 0)
 |0,i,_,h=>by omega
 |M+    1,i,hi,h=>by
  simp only[j4,dlt];by_cases hlt:i<l.length
  ·rw[iL hlt,List.all_cons];have hA:((l.take i).map iD).length=i:=by rw[List.length_map,List.length_take];omega
   have hR:List.replicate (l.length-i) (int 0)=int 0::List.replicate (l.length-(i+1)) (int 0):=by rw[show l.length-i=(l.length-(i+1))+1 by omega];rfl
   have hin:inL ((l.take i).map iD++List.replicate (l.length-i) (int 0)) (i:Int)=some ():=xV (by rw[aB,hA,List.length_replicate];omega);have hge:((l.take i).map iD++List.replicate (l.length-i) (int 0))[i]? =some (int 0):=by rw[hR,List.getElem?_append_right (by omega),hA,Nat.sub_self];rfl
   have hset:((l.take i).map iD++List.replicate (l.length-i) (int 0)).set i (int (I l[i] 1))=(l.take (i+1)).map iD++List.replicate (l.length-(i+1)) (int 0):=by have:=set_mid ((l.take i).map iD) (List.replicate (l.length-(i+1)) (int 0)) (int 0) (int (I l[i] 1));rw[hA]at this;rw[hR,this,List.take_succ_eq_append_getElem hlt,List.map_append,List.append_assoc];rfl
   simp only[hlt,decide_true,cond_true,bG hlt,ah,bQ (show i<9223372036854775807 by omega),Int.toNat_natCast,hin,hge,hset,isK,Hy];cases hc:(I l[i] 0==3);·rw[show (I l[i] 0 !=3)=true by rw[bne,hc];rfl];rfl
   ·    rw[show (I l[i] 0 !=3)=false by rw[bne,hc];rfl,cond_false,Bool.true_and];exact apq m op l z hl M (i+1) (by omega) (by omega)
  ·have e:i=l.length:=by omega
   subst e;simp only[hlt,decide_false,cond_false,List.drop_length,List.all_nil,cond_true,Nat.sub_self,List.replicate_zero,List.append_nil,List.take_length]
def Cx(op:Int)(l:List Dt):Dt:=
 bif l.all (isK 3)then
    bif op==6 then kV 3 (l.foldl (fun n d=>w64 (n*I d 1)) 1)
    else bif op==4 then kV 3 (l.foldl (fun n d=>w64 (n+I d 1)) 0)
    else bif op==5 then kV 3 (w64 (I (l.getD 0 aj) 1-I (l.getD 1 aj) 1))
    else bif I (l.getD 1 aj) 1==0 then kV 2 0
    else bif op==8 then kV 3 (w64 (I (l.getD 0 aj) 1-w64 (I (l.getD 1 aj) 1*quS (I (l.getD 0 aj) 1) (I (l.getD 1 aj) 1))))
    else kV 3 (quS (I (l.getD 0 aj) 1) (I (l.getD 1 aj) 1))
 else kV 2 0
def YG(op:Int)(l:List Dt):Prop:=op=4∨op=6∨((op=5∨op=7∨op=8)∧∃a b,l=[a,b])
theorem aea(f:Int->Int->Int)(l:List Dt)(n:Int):(l.map iD).foldl (fun n d=>w64 (f n (toInt d))) n=l.foldl (fun n d=>w64 (f n (I d 1))) n:=by rw[List.foldl_map];rfl
theorem Cy(m:Nat)(op:Int)(l:List Dt)(hl:l.length<=137438953472)(hm:l.length<=m)(ho:YG op l):dW (m+2) op l=some (Cx op l):=by
 have h1:=apq m op l aj (by omega) (Nat.succ (m+1)) 0 (aC _) (by omega);rw[List.take_zero,aH,List.map_nil,List.nil_append,Nat.sub_zero,show ((0:Nat):Int)=0 from rfl]at h1;rw[dW,Bv hl,ah,h1,Cx];cases hk:l.all (isK 3);·rfl
 ·rw[   cond_true,cond_true];rcases ho with rfl|rfl| ⟨ho,a,b,rfl⟩
  ·have h2:=abu m (l.map iD) aj (by rw[List.length_map];omega) (Nat.succ (m+1)) 0 0 (aC _) (by rw[List.length_map];omega);rw[aH,aea (fun x y=>x+y)]at h2;exact h2
  ·have h2:=ah0 m (l.map iD) aj (by rw[List.length_map];omega) (Nat.succ (m+1)) 0 1 (aC _) (by rw[List.length_map];omega);rw[aH,aea (fun x y=>x*y)]at h2;exact h2
  ·rcases ho with rfl|rfl|rfl
   ·    have h2:=abu m [iD a,int (w64 (0-I b 1))] aj (by simp) (Nat.succ (m+1)) 0 0 (aC _) (by simp at hm ⊢;omega);refine Eq.trans (show _=_ from rfl) (h2.trans ?_);show some (kV 3 (w64 (w64 (0+I a 1)+w64 (0-I b 1))))=some (kV 3 (w64 (I a 1-I b 1)));rw[show w64 (w64 (0+I a 1)+w64 (0-I b 1))=w64 (I a 1-I b 1) by simp only[aqt];omega]
   ·    show fH (m+1) 7 aj [iD a,iD b]=some (bif I b 1==0 then kV 2 0 else kV 3 (quS (I a 1) (I b 1)));cases hb:(I b 1==0)
        ·have hb':I b 1≠0:=by simpa using hb
         show ((bif (I b 1==0)then _ else dS (m+1) 7 aj [iD a,iD b]):Option Dt)=_;rw[hb,cond_false];show ((iT (m+1) (I a 1) (I b 1)).bind _:Option Dt)=_;rw[ad9 m _ _ hb'];rfl
        ·show ((bif (I b 1==0)then some (kV 2 0)else dS (m+1) 7 aj [iD a,iD b]):Option Dt)=_;rw[hb];rfl
   ·    show fH (m+1) 8 aj [iD a,iD b]=some (bif I b 1==0 then kV 2 0 else kV 3 (w64 (I a 1-w64 (I b 1*quS (I a 1) (I b 1)))));cases hb:(I b 1==0)
        ·have hb':I b 1≠0:=by simpa using hb
         show ((bif (I b 1==0)then _ else dS (m+1) 8 aj [iD a,iD b]):Option Dt)=_;rw[hb,cond_false];show ((iT (m+1) (I a 1) (I b 1)).bind _:Option Dt)=_;rw[ad9 m _ _ hb'];rfl
        ·show ((bif (I b 1==0)then some (kV 2 0)else dS (m+1) 8 aj [iD a,iD b]):Option Dt)=_;rw[hb];rfl
theorem Wi(m:Nat)(op:Int)(l:List Dt)(z:Dt)(hl:l.length<9223372036854775807):∀(M i:Nat)(n:Int),i<=l.length->l.length-i<M->jA (m+1) M op l n (i:Int) z=BD (m+1) op l ((l.drop i).foldl (fun n d=>bif op==6 then w64 (n*I d 1)else w64 (n+I d 1)) n) z
 |0,i,_,_,h=>by omega
 |M+    1,i,n,hi,h=>by
  simp only[jA,dlt];by_cases hlt:i<l.length
  ·rw[iL hlt,List.foldl_cons];simp only[hlt,decide_true,cond_true,bG hlt,ah,bQ (show i<9223372036854775807 by omega)];cases h6:(op==6)
   ·    rw[cond_false,cond_false,Wi m op l z hl M (i+1) _ (by omega) (by omega),h6];rfl
   ·    rw[cond_true,cond_true,Wi m op l z hl M (i+1) _ (by omega) (by omega),h6];rfl
  ·rw[kG hlt];simp only[hlt,decide_false,cond_false,List.foldl_nil]
theorem number_eq(m:Nat)(op:Int)(l:List Dt)(hl:l.length<=137438953472)(hm:l.length<=m)(ho:YG op l):fU (m+2) op l=some (Cx op l):=by
 have hlp:=fun n=>Wi m op l aj (by omega) (Nat.succ (m+1)) 0 n (aC _) (by omega);simp only[aH,show ((0:Nat):Int)=0 from rfl]at hlp;rw[fU,NS m l 3 (by omega) hm,ah,Cx];cases hk:l.all (isK 3);·rfl
 ·rw[   cond_true,Bool.not_true,cond_false];rcases ho with rfl|rfl| ⟨ho,a,b,rfl⟩
  ·have:=hlp 0;exact this
  ·have:=hlp 1;exact this
  ·rcases ho with rfl|rfl|rfl
   ·    have:=hlp 0;exact this
   ·    show jB (m+1) 7 [a,b] (I b 1==0) aj=some (bif I b 1==0 then kV 2 0 else kV 3 (quS (I a 1) (I b 1)));cases hb:(I b 1==0)
        ·have hb':I b 1≠0:=by simpa using hb
         refine Eq.trans (show _=_ from hlp 0) ?_;show ((eZ (m+1) (I a 1) (I b 1)).bind _:Option Dt)=_;rw[YF m _ _ hb'];rfl
        ·rfl
   ·    show jB (m+1) 8 [a,b] (I b 1==0) aj=some (bif I b 1==0 then kV 2 0 else kV 3 (w64 (I a 1-w64 (I b 1*quS (I a 1) (I b 1)))));cases hb:(I b 1==0)
        ·have hb':I b 1≠0:=by simpa using hb
         refine Eq.trans (show _=_ from hlp 0) ?_;show ((eZ (m+1) (I a 1) (I b 1)).bind _:Option Dt)=_;rw[YF m _ _ hb'];rfl
        ·rfl
theorem TP{A:Type}(b:Bool)(x y:A):(bif b then some x else some y)=some (bif b then x else y):=by cases b<;>rfl
def bV(b:Bool):Dt:=kV 9 (bif b then 1 else 0)
def trB(d:Dt):Bool:=bif I d 0==0 then false else bif I d 0==2 then false else bif I d 0==9 then I d 1 !=0 else bif I d 0==3 then I d 1 !=0 else true
def orN(d:Dt):Dt:=bif I d 0==0 then kV 2 0 else d
theorem Ec(m:Nat)(d:Dt):eB (m+1) d=some (trB d):=by
 rw[eB,trB];cases h0:(I d 0==0)
 ·rw[   cond_false,cond_false,sV];cases h2:(I d 0==2)
  ·rw[cond_false,cond_false];cases h9:(I d 0==9)
   ·    rw[cond_false,cond_false,sU];cases h3:(I d 0==3)<;>rfl
   ·rfl
  ·rfl
 ·rfl
theorem Nk(m:Nat)(d:Dt)(hk:0<=I d 0):gB (m+1) d=some (trB d):=by
 rw[gB,trB];by_cases h2:2<I d 0
 ·rw[decide_eq_true h2,cond_true,show (I d 0==0)=false by rw[beq_eq_false_iff_ne];omega,show (I d 0==2)=false by rw[beq_eq_false_iff_ne];omega,show (I d 0==1)=false by rw[beq_eq_false_iff_ne];omega,cond_false,cond_false];cases h9:(I d 0==9)
  ·rw[cond_false,cond_false];cases h3:(I d 0==3);·rfl
   ·cases h1:(I d 1==0)<;>simp[bne,h1]
  ·cases h1:(I d 1==0)<;>simp[bne,h1]
 ·rw[decide_eq_false h2,cond_false];have:I d 0=0∨I d 0=1∨I d 0=2:=by omega
  rcases this with h|h|h<;>rw[h]<;>rfl
theorem HV(m:Nat)(b:Bool):bX (m+1) b=some (bV b):=by cases b<;>rfl
theorem Cz(m:Nat)(b:Bool):bW (m+1) b=some (bV b):=by cases b<;>rfl
theorem abv(m:Nat)(d:Dt):iw (m+2) d=some (orN d):=by rw[iw,orN];cases (I d 0==0)<;>rfl
theorem aeb(m:Nat)(d:Dt):nV (m+2) d=some (orN d):=by rw[nV,orN];cases (I d 0==0)<;>rfl
def zK(op c:Int):Dt:=
 bif op==10 then bV (c==0)else bif op==11 then bV (c !=0)else bif op==12 then bV (decide (0<c))else bif op==13 then bV (decide (0<=c))
 else bif op==14 then bV (decide (c<0))else bif op==15 then bV (decide (c<=0))else kV 3 c
theorem Bc(m:Nat)(op c:Int):jy (m+2) op c=some (zK op c):=by rw[jy,zK];simp only[HV,ah,int_eq,TP]
theorem wW(m:Nat)(op c:Int)(a b:Dt)(hc:bF (m+1) a b=some c):dZ (m+2) op a b=some (zK op c):=by rw[dZ,zK,hc,ah];simp only[Cz,ah,Wh,TP]
theorem aec(m:Nat)(op:Int)(l:List Dt)(z:Dt)(hl:l.length<9223372036854775807):∀(M i:Nat)(a o:Bool),i<=l.length->l.length-i<M->mo (m+1) M op a o l (l.length:Int) (i:Int) z=some (bif op==16 then bV (a&&(l.drop i).all trB)else bV (o||(l.drop i).any trB))
 |0,i,_,_,_,h=>by omega
 |M+1,i,a,o,hi,h=>by
  simp only[mo,dlt];by_cases hlt:i<l.length
  ·rw[iL hlt,List.all_cons,List.any_cons];simp only[hlt,decide_true,cond_true,vk,bG hlt,Ec,ah,bQ (show i<9223372036854775807 by omega),aec m op l z hl M (i+1) _ _ (by omega) (by omega)];cases a<;>cases o<;>cases trB l[i]<;>simp
  ·rw[kG hlt];simp only[hlt,decide_false,cond_false,HV,ah,List.all_nil,List.any_nil,Bool.and_true,Bool.or_false];cases (op==16)<;>rfl
def aoS(op:Int)(l:List Dt):Dt:=bif op==16 then bV (l.all trB)else bV (l.any trB)
theorem YH(m:Nat)(op:Int)(l:List Dt)(hl:l.length<9223372036854775807)(hm:l.length<=m)(ho:op=16∨op=17):gQ (m+2) op l=some (aoS op l):=by have h:=aec m op l aj hl (Nat.succ (m+1)) 0 true false (aC _) (by omega);rw[aH,Bool.true_and,Bool.false_or]at h;rcases ho with rfl|rfl<;>exact h
theorem YI(m:Nat)(op:Int)(l:List Dt)(z:Dt)(hl:l.length<9223372036854775807)(hk:∀d∈l,0<=I d 0)(ho:op=16∨op=17):∀(M i:Nat),i<=l.length->l.length-i<M->ql (m+1) M op l (i:Int) z=some (aoS op (l.drop i))
 |0,i,_,h=>by omega
 |M+1,i,hi,h=>by
  simp only[ql,dlt];by_cases hlt:i<l.length
  ·have ih:=YI m op l z hl hk ho M (i+1) (by omega) (by omega);rw[iL hlt];simp only[hlt,decide_true,cond_true,bG hlt,Nk m _ (hk _ (aI hlt)),Cz,ah,bQ (show i<9223372036854775807 by omega),ih];generalize l[i]=x;generalize l.drop (i+1)=r;rcases ho with rfl|rfl;·cases ht:trB x<;>simp[aoS,ht]
   ·cases ht:trB x<;>simp[aoS,ht]
  ·rw[kG hlt];simp only[hlt,decide_false,cond_false,Cz,ah];rcases ho with rfl|rfl<;>rfl
theorem TW(m:Nat)(op:Int)(l:List Dt)(hl:l.length<9223372036854775807)(hm:l.length<=m)(hk:∀d∈l,0<=I d 0)(ho:op=16∨op=17):nL (m+2) op l=some (aoS op l):=by have h:=YI m op l aj hl hk ho (Nat.succ (m+1)) 0 (aC _) (by omega);rw[aH]at h;exact h
theorem agy(m:Nat)(a:Dt):gQ (m+2) 18 [a]=some (bV (!trB a)):=by show ((eB (m+1) a).bind _:Option Dt)=_;rw[Ec,ah,HV];rfl
theorem ah1(m:Nat)(a b c:Dt):gQ (m+2) 19 [a,b,c]=some (bif trB a then b else c):=by show ((eB (m+1) a).bind _:Option Dt)=_;rw[Ec,ah];cases trB a<;>rfl
theorem agz(m:Nat)(a b:Dt):gQ (m+3) 20 [a,b]=some (bif I (orN a) 0==2 then b else a):=by show ((iw (m+2) a).bind _:Option Dt)=_;rw[abv,ah];cases (I (orN a) 0==2)<;>rfl
end Go.Proofs.YtmecfjhdnbgfeaaGreatDoor
namespace Go.Proofs.YtmecfjhdnbgfeaaGreatDoor
open Go.Am
def bs(l:List UInt8):ByteArray:=⟨l.toArray⟩
theorem Wj(l:List UInt8):(bs l).size=l.length:=by show (List.toArray l).size=_;rw[List.size_toArray]
theorem ah2(l r:List UInt8):bs l++bs r=bs (l++r):=by apply ByteArray.ext;rw[ByteArray.data_append];simp[bs]
theorem aqu(y:Int):strOfNums [y]=bs [UInt8.ofNat y.toNat]:=rfl
theorem aed{a b:Nat}(h:a+b<=1152921504606846976):Nat.ble (a+b) 1152921504606846976=true:=Nat.ble_eq_true_of_le h
def ltI(up:Bool)(x:Int):Int:=bif up then(bif decide (97<=x)&&decide (x<=122)then x-32 else x)else(bif decide (65<=x)&&decide (x<=90)then x+32 else x)
theorem aqv(up:Bool)(x:Int)(h0:0<=x)(h1:x<=255):ltI up x=shI (bif up then 97 else 65) (bif up then 65 else 97) x:=by
 unfold ltI shI;cases up
 ·simp only[cond_false];by_cases h:65<=x∧x<=90
  ·rw[decide_eq_true h.1,decide_eq_true h.2,if_pos (by omega)];show x+32=_;omega
  ·rw[if_neg (by omega)];have:(decide (65<=x)&&decide (x<=90))=false:=by simp;omega
   rw[this];rfl
 ·simp only[cond_true];by_cases h:97<=x∧x<=122
  ·rw[decide_eq_true h.1,decide_eq_true h.2,if_pos (by omega)];show x-32=_;omega
  ·rw[if_neg (by omega)];have:(decide (97<=x)&&decide (x<=122))=false:=by simp;omega
   rw[this];rfl
theorem ah3(m:Nat)(rec1:ByteArray->Bool->ByteArray->Int->Option ByteArray)(s:ByteArray)(up:Bool)(acc:List UInt8)(i x:Int)(h0:0<=x)(h1:x<=255)(ha:acc.length<=1000000000000000)(hx:idxS s i=some x):
  uD m rec1 s up (bs acc) i=rec1 s up (bs (acc++[UInt8.ofNat (ltI up x).toNat])) (IntKind.wrap .i64 (i+1)):=by
 have fin:∀y,mR m rec1 s up (bs acc) i y=rec1 s up (bs (acc++[UInt8.ofNat y.toNat])) (IntKind.wrap .i64 (i+1)):=fun y=>by rw[mR,aqu,aed (by rw[Wj,Wj];simp;omega),cond_true,ah2]
 rw[uD,hx,ah];cases up
 ·rw[   cond_false];simp only[gG,iF,gF,cond_false,cond_true,Bool.not_false,fin,ltI];by_cases h65:65<=x
  ·by_cases h90:x<=90
   ·    rw[decide_eq_true h65,decide_eq_true h90,IntKind.wrap_u8,Int.emod_eq_of_lt (by omega) (by omega)];rfl
   ·    rw[decide_eq_true h65,decide_eq_false h90];rfl
  ·rw[decide_eq_false h65];rfl
 ·rw[   cond_true];by_cases h97:97<=x
  ·by_cases h122:x<=122
   ·    simp only[decide_eq_true h97,decide_eq_true h122,gG,iF,gF,cond_false,cond_true,Bool.not_true,fin,ltI,Bool.and_true];rw[IntKind.wrap_u8,Int.emod_eq_of_lt (by omega) (by omega)]
   ·simp only[decide_eq_true h97,decide_eq_false h122,gG,iF,gF,cond_false,cond_true,Bool.not_true,fin,ltI,Bool.and_false]
  ·simp only[decide_eq_false h97,gG,iF,gF,cond_false,cond_true,Bool.not_true,fin,ltI,Bool.false_and]
theorem am9(x:UInt8):0<=(x.toNat:Int)∧(x.toNat:Int)<=255:=by have:=x.toNat_lt;omega
theorem YJ(m:Nat)(s:ByteArray)(up:Bool)(hs:s.size<=1000000000000000):∀(M i:Nat)(acc:List UInt8),i<=s.size->acc.length<=i->s.size-i<M->
  jP m M s up (bs acc) (i:Int)=some (bs (acc++(s.data.toList.drop i).map (shB (bif up then 97 else 65) (bif up then 65 else 97))))
 |0,i,_,_,_,h=>by omega
 |M+1,i,acc,hi,ha,h=>by
  simp only[jP,dlt];by_cases hlt:i<s.size
  ·have hlt':i<s.data.toList.length:=by rw[ahn];exact hlt
   have hb:=am9 (s[i]);have e:s.data.toList[i]=s[i]:=rfl;rw[iL hlt',List.map_cons];simp only[hlt,decide_true,cond_true];rw[ah3 m _ s up acc _ _ hb.1 hb.2 (by omega) (qX hlt),bQ (by omega),YJ m s up hs M (i+1) _ (by omega) (by rw[aB];simp;omega) (by omega),List.append_assoc,aqv up _ hb.1 hb.2];rfl
  ·rw[kG (by rw[ahn];exact hlt)];simp only[hlt,decide_false,cond_false,List.map_nil,List.append_nil]
theorem NT(m:Nat)(s:ByteArray)(up:Bool)(hs:s.size<=1000000000000000)(hm:s.size<=m):gL (m+1) s up=some (shS s (bif up then 97 else 65) (bif up then 65 else 97)):=by have h:=YJ m s up hs (Nat.succ m) 0 [] (aC _) (ak _) (by omega);rw[aH,List.nil_append]at h;exact h
def abw(s:ByteArray)(a n:Int):ByteArray:=s.extract (min a.toNat s.size) (min a.toNat s.size+min n.toNat (s.size-min a.toNat s.size))
def slS(a b c:Dt):Dt:=bif isK 4 a&&isK 3 b&&isK 3 c&&!decide (Dt.I b 1<0)&&!decide (Dt.I c 1<0)then Ad (abw (Dt.S a 2) (Dt.I b 1) (Dt.I c 1))else kV 2 0
end Go.Proofs.YtmecfjhdnbgfeaaGreatDoor
namespace Go.Proofs.YtmecfjhdnbgfeaaGreatDoor
open Go.Am Dt
theorem ana(s:ByteArray)(A k:Nat)(h:A+k<=s.size):(s.extract A s.size).extract 0 k=s.extract A (A+k):=by rw[ByteArray.extract_extract,Nat.add_zero,Nat.min_eq_left (by omega)]
theorem ext_size(s:ByteArray)(A:Nat):(s.extract A s.size).size=s.size-A:=by rw[ByteArray.size_extract,Nat.min_self]
theorem as8(a b:Nat):(bif decide ((b:Int)<(a:Int))then(b:Int)else(a:Int))=((min a b:Nat):Int):=by
 by_cases h:(b:Int)<a;·rw[decide_eq_true h,cond_true,Nat.min_eq_right (by omega)]
 ·rw[decide_eq_false h,cond_false,Nat.min_eq_left (by omega)]
theorem abx(m:Nat)(s:ByteArray)(a n:Nat)(z b c:Dt)(hb:I b 1=a)(hc:I c 1=n):P1.expr_ofTexts_j9 (m+1) s z b c=some (Ad (abw s a n)):=by rw[P1.expr_ofTexts_j9,hb,hc,as8,Rm (Nat.min_le_right _ _) (ak _),ah,ext_size,as8];rw[show (0:Int)=((0:Nat):Int)from rfl,Rm (aC _) (by rw[ext_size];exact Nat.min_le_right _ _),ah,ana _ _ _ (by omega)];rfl
theorem aby(m:Nat)(s:ByteArray)(a n:Nat)(x y z:Dt)(hs:s.size<=1000000000000000000)(hx:S x 2=s)(hb:I y 1=a)(w:Dt)(hc:I w 1=n):wP (m+1) x y w z=some (Ad (abw s a n)):=by
 have key:qo (m+1) ((min a s.size:Nat):Int) x w z=some (Ad (abw s a n)):=by
  rw[qo,hx,hc,wrap64 (by omega) (by omega)];have hA:min a s.size<=s.size:=Nat.min_le_right _ _;have e:(s.size:Int)-((min a s.size:Nat):Int)=((s.size-min a s.size:Nat):Int):=by omega
  have fin:∀k:Nat,k=min n (s.size-min a s.size)->qm (m+1) ((min a s.size:Nat):Int) (k:Int) x z=some (Ad (abw s a n)):=fun k hk=>by rw[qm,hx,wrap64 (by omega) (by omega),show ((min a s.size:Nat):Int)+(k:Int)=((min a s.size+k:Nat):Int) by omega,Rm (by omega) (by omega),ah,hk];rfl
  rw[e];by_cases h:((s.size-min a s.size:Nat):Int)<(n:Int)
  ·rw[decide_eq_true h,cond_true];exact fin _ (by omega)
  ·rw[decide_eq_false h,cond_false];exact fin _ (by omega)
 rw[wP,hx,hb];by_cases h:(s.size:Int)<(a:Int)
 ·rw[decide_eq_true h,cond_true];rw[Nat.min_eq_right (by omega)]at key;exact key
 ·rw[decide_eq_false h,cond_false];rw[Nat.min_eq_left (by omega)]at key;exact key
theorem NU{x:Int}(h:¬x<0):∃n:Nat,x=n:=⟨x.toNat,by omega⟩
theorem agA(a b c:Dt):d9 25 [a,b,c]=some (slS a b c):=by
 show P1.expr_ofTexts_j5 99 25 [a,b,c] aj=_;show ((bif (I a 0 !=4)then some (kV 2 0)else P1.expr_ofTexts_j7 99 [a,b,c] (S a 2) aj):Option Dt)=_;unfold slS isK;cases h4:(I a 0==4);·rw[show (I a 0 !=4)=true by rw[bne,h4];rfl];rfl
 ·rw[   show (I a 0 !=4)=false by rw[bne,h4];rfl,cond_false,Bool.true_and];show ((bif (I b 0 !=3)then some (kV 2 0)else _):Option Dt)=_;cases h3:(I b 0==3);·rw[show (I b 0 !=3)=true by rw[bne,h3];rfl];rfl
  ·rw[   show (I b 0 !=3)=false by rw[bne,h3];rfl,cond_false,Bool.true_and];cases h33:(I c 0==3);·rw[show (I c 0 !=3)=true by rw[bne,h33];rfl];rfl
   ·    rw[show (I c 0 !=3)=false by rw[bne,h33];rfl,cond_false,Bool.true_and];by_cases hb:I b 1<0;·rw[decide_eq_true hb];rfl
        ·rw[decide_eq_false hb,cond_false,Bool.not_false,Bool.true_and];by_cases hc:I c 1<0;·rw[decide_eq_true hc];rfl
         · rw[decide_eq_false hc,Bool.not_false,cond_true];obtain⟨x,hx⟩:=NU hb;obtain⟨y,hy⟩:=NU hc;rw[hx,hy];exact abx 98 (S a 2) x y aj b c hx hy
theorem agB(m:Nat)(a b c:Dt)(hs:(S a 2).size<=1000000000000000000):nM (m+2) a b c=some (slS a b c):=by
 rw[nM];unfold slS isK;cases h4:(I a 0==4);·rw[show (I a 0 !=4)=true by rw[bne,h4];rfl];rfl
 ·rw[   show (I a 0 !=4)=false by rw[bne,h4];rfl,cond_false,Bool.true_and];cases h3:(I b 0==3);·rw[show (I b 0 !=3)=true by rw[bne,h3];rfl];rfl
  ·rw[   show (I b 0 !=3)=false by rw[bne,h3];rfl,cond_false,Bool.true_and];cases h33:(I c 0==3);·rw[show (I c 0 !=3)=true by rw[bne,h33];rfl];rfl
   ·    rw[show (I c 0 !=3)=false by rw[bne,h33];rfl,cond_false,Bool.true_and];by_cases hb:I b 1<0;·rw[decide_eq_true hb];rfl
        ·rw[decide_eq_false hb,cond_false,Bool.not_false,Bool.true_and];by_cases hc:I c 1<0;·rw[decide_eq_true hc];rfl
         · rw[decide_eq_false hc,Bool.not_false,cond_true];obtain⟨x,hx⟩:=NU hb;obtain⟨y,hy⟩:=NU hc;rw[jZ,cond_false,aby m (S a 2) x y a b aj hs rfl hx c hy,hx,hy]
def HY(op:Int)(a:Dt):Dt:=bif isK 4 a then(bif op==22 then Ad (shS (S a 2) 65 97)else bif op==23 then Ad (shS (S a 2) 97 65)else kV 3 ((S a 2).size:Int))else kV 2 0
theorem Wl(op:Int)(a:Dt)(ho:op=22∨op=23∨op=24):d9 op [a]=some (HY op a):=by
 unfold HY isK;rcases ho with rfl|rfl|rfl<;>show ((bif (I a 0 !=4)then some (kV 2 0)else _):Option Dt)=_<;>cases h4:(I a 0==4);·rw[show (I a 0 !=4)=true by rw[bne,h4];rfl];rfl
 ·rw[show (I a 0 !=4)=false by rw[bne,h4];rfl];rfl
 ·rw[show (I a 0 !=4)=true by rw[bne,h4];rfl];rfl
 ·rw[show (I a 0 !=4)=false by rw[bne,h4];rfl];rfl
 ·rw[show (I a 0 !=4)=true by rw[bne,h4];rfl];rfl
 ·rw[show (I a 0 !=4)=false by rw[bne,h4];rfl];rfl
def Bd(l:List Dt):List Dt:=l.flatMap fun d=>L d 3
theorem wJ(a:Dt)(l:List Dt):Bd (a::l)=L a 3++Bd l:=rfl
theorem YK(m:Nat)(op:Int)(ks l:List Dt)(z:Dt)(hl:l.length<9223372036854775807):∀(M i:Nat)(acc:List Dt),i<=l.length->l.length-i<M->acc.length+(Bd (l.drop i)).length<=137438953472->
  oF (m+1) M op ks l (l.length:Int) (i:Int) z acc=bif (l.drop i).all (isK 6)then vQ (m+1) op ks z (acc++Bd (l.drop i))else some (kV 2 0)
 |0,i,_,_,h,_=>by omega
 |M+1,i,acc,hi,h,hc=>by
  simp only[oF,dlt];by_cases hlt:i<l.length
  ·rw[iL hlt]at hc;rw[wJ,aB]at hc;rw[iL hlt,List.all_cons,wJ];simp only[hlt,decide_true,cond_true,bG hlt,ah,bQ (show i<9223372036854775807 by omega),Hy,isK];cases hk:(I l[i] 0==6);·rw[show (I l[i] 0 !=6)=true by rw[bne,hk];rfl];rfl
   ·rw[show (I l[i] 0 !=6)=false by rw[bne,hk];rfl,cond_false,Bool.true_and,kH (by omega),ah,YK m op ks l z hl M (i+1) _ (by omega) (by omega) (by rw[aB];omega),List.append_assoc]
  ·rw[kG hlt];simp only[hlt,decide_false,cond_false,List.all_nil,cond_true];rw[show Bd []=[]from rfl,List.append_nil]
theorem Jw(m:Nat)(op:Int)(ks l:List Dt)(hl:l.length<9223372036854775807)(hm:l.length<=m)(hc:(Bd l).length<=137438953472):
  fE (m+1) op ks l aj=bif l.all (isK 6)then vQ (m+1) op ks aj (Bd l)else some (kV 2 0):=by
 have h:=YK m op ks l aj hl (Nat.succ (m+1)) 0 [] (aC _) (by omega) (by rw[aH];simpa using hc);rw[aH,List.nil_append]at h;exact h
def awf(l:List Dt):Int:=l.foldl (fun n d=>bif isK 3 d then w64 (n+I d 1)else n) 0
theorem NV(m:Nat)(l:List Dt)(z:Dt)(hl:l.length<9223372036854775807):∀(M i:Nat)(n:Int),i<=l.length->l.length-i<M->jQ (m+1) M n l (l.length:Int) (i:Int) z=some (kV 3 ((l.drop i).foldl (fun n d=>bif isK 3 d then w64 (n+I d 1)else n) n))
 |0,i,_,_,h=>by omega
 |M+    1,i,n,hi,h=>by
  simp only[jQ,dlt];by_cases hlt:i<l.length
  ·rw[iL hlt,List.foldl_cons];simp only[hlt,decide_true,cond_true,bG hlt,ah,bQ (show i<9223372036854775807 by omega),isK];cases hk:(I l[i] 0==3)
   ·    simp only[cond_false];exact NV m l z hl M (i+1) _ (by omega) (by omega)
   ·    simp only[cond_true];exact NV m l z hl M (i+1) _ (by omega) (by omega)
  ·rw[kG hlt];simp only[hlt,decide_false,cond_false,int_eq,ah,List.foldl_nil]
def as9(l R:List Dt)(i:Nat):Prop:=R.length=l.length∧∀k(hk:k<l.length),R[k]? =if k<i∨l.length<=k+i then l[l.length-1-k]? else l[k]?
theorem anb{l R:List Dt}{i:Nat}(h:as9 l R i)(hi:l.length<=2*i+1):R=l.reverse:=by
 apply List.ext_getElem?;intro k;by_cases hk:k<l.length
 ·rw[h.2 k hk,List.getElem?_reverse hk];by_cases hc:k<i∨l.length<=k+i;·rw[if_pos hc]
  ·rw[if_neg hc,show l.length-1-k=k by omega]
 ·rw[List.getElem?_eq_none (by have:=h.1;omega),List.getElem?_eq_none (by rw[List.length_reverse];omega)]
theorem YL(m:Nat)(l:List Dt)(z:Dt)(hl:l.length<9223372036854775807):∀(M i:Nat)(R:List Dt),2*i<=l.length->l.length-i<M->as9 l R i->kP m M (i:Int) ((l.length:Int)-1-i) z R=some (wF l.reverse)
 |0,i,_,_,h,_=>by omega
 |M+    1,i,R,hi,h,hR=>by
  rw[kP];by_cases hlt:(i:Int)<(l.length:Int)-1-i
  ·obtain⟨j,hj⟩:∃j:Nat,(l.length:Int)-1-i=j:=⟨l.length-1-i,by omega⟩;have hjl:j=l.length-1-i:=by omega
   have hil:i<R.length:=by have:=hR.1;omega
   have hjR:j<R.length:=by have:=hR.1;omega
   have gi:R[i]? =l[i]? :=by rw[hR.2 i (by omega),if_neg (by omega)]
   have gj:R[j]? =l[j]? :=by rw[hR.2 j (by omega),if_neg (by omega)]
   have li:l[i]? =some l[i]:=aF (by omega);have lj:l[j]? =some l[j]:=aF (by omega);have hjs:j<(R.set i l[j]).length:=by rw[List.length_set];exact hjR
   have gs:(R.set i l[j])[j]? =l[j]? :=by rw[List.getElem?_set_ne (by omega),gj]
   rw[decide_eq_true hlt,cond_true,hj];rw[xV hjR,ah,Int.toNat_natCast,gj,lj,ah,xV hil,ah,Int.toNat_natCast,gi,li,ah,ah,ah];rw[xV hjs,ah,gs,lj,ah,bQ (by omega),wrap64 (by omega) (by omega)];have e2:(j:Int)-1=(l.length:Int)-1-((i+1:Nat):Int):=by omega
   rw[e2];refine YL m l z hl M (i+1) _ (by omega) (by omega) ⟨by rw[List.length_set,List.length_set];exact hR.1,fun k hk=>?_⟩;by_cases h1:k=j
   ·    subst h1;rw[List.getElem?_set_self (by rw[List.length_set];omega),if_pos (by omega),show l.length-1-k=i by omega,li]
   ·    rw[List.getElem?_set_ne (by omega)];by_cases h2:k=i
        ·subst h2;rw[List.getElem?_set_self (by omega),if_pos (by omega),←hjl,lj]
        ·rw[List.getElem?_set_ne (by omega),hR.2 k hk];by_cases h3:k<i∨l.length<=k+i;·rw[if_pos h3,if_pos (by omega)]
         ·rw[if_neg h3,if_neg (by omega)]
  ·rw[decide_eq_false hlt,cond_false,qN,anb hR (by omega)];rfl
def YM(l:List Dt)(i:Dt):Dt:=bif isK 3 i then
    (bif decide ((bif decide (I i 1<0)then w64 (I i 1+(l.length:Int))else I i 1)<0)||decide ((l.length:Int)<=(bif decide (I i 1<0)then w64 (I i 1+(l.length:Int))else I i 1))then aj
    else l.getD (bif decide (I i 1<0)then w64 (I i 1+(l.length:Int))else I i 1).toNat aj)
 else kV 2 0
theorem YN{l:List Dt}{n:Int}(h0:¬n<0)(h1:¬(l.length:Int)<=n):idx l n=some (l.getD n.toNat aj):=by obtain⟨k,rfl⟩:=NU h0;rw[bG (show k<l.length by omega),Int.toNat_natCast,List.getD_eq_getElem?_getD,aF (by omega)];rfl
theorem ah4(m:Nat)(l:List Dt)(n:Int)(z:Dt):oD m l n z=some (bif decide (n<0)||decide ((l.length:Int)<=n)then aj else l.getD n.toNat aj):=by
 rw[oD];by_cases h0:n<0;·rw[decide_eq_true h0];rfl
 ·rw[decide_eq_false h0,cond_false,Bool.false_or];by_cases h1:(l.length:Int)<=n;·rw[decide_eq_true h1];rfl
  ·rw[decide_eq_false h1,cond_false,rW,cond_false,YN h0 h1];rfl
theorem aqw(m:Nat)(l:List Dt)(i:Dt):kY (m+2) l i=some (YM l i):=by
 rw[kY,YM,isK,Hy];cases h3:(I i 0==3);·rw[show (I i 0 !=3)=true by rw[bne,h3];rfl];rfl
 ·rw[show (I i 0 !=3)=false by rw[bne,h3];rfl,cond_false,cond_true];cases decide (I i 1<0);·rw[cond_false,cond_false,ah4]
  ·rw[cond_true,cond_true,ah4];rfl
theorem aee(m:Nat)(d:Dt)(n:Int)(z:Dt):mU m n d z=some (bif decide (n<0)||decide (((L d 3).length:Int)<=n)then aj else(L d 3).getD n.toNat aj):=by
 rw[mU];by_cases h0:n<0;·rw[decide_eq_true h0];rfl
 ·rw[decide_eq_false h0,cond_false,Bool.false_or];by_cases h1:((L d 3).length:Int)<=n;·rw[decide_eq_true h1];rfl
  ·rw[decide_eq_false h1,cond_false,qL,cond_false,YN h0 h1];rfl
theorem anc(m:Nat)(d i z:Dt)(h3:isK 3 i=true):uE m d i z=some (YM (L d 3) i):=by
 rw[uE,YM,h3,cond_true];cases decide (I i 1<0);·rw[cond_false,cond_false,aee]
 ·rw[cond_true,cond_true,aee];rfl
def YO(a:Dt):Dt:=bif isK 6 a then kV 3 ((L a 3).length:Int)else kV 2 0
def YP(a:Dt):Dt:=bif isK 6 a then wF (L a 3).reverse else kV 2 0
def YQ(a:Dt):Dt:=bif isK 6 a then kV 3 (awf (L a 3))else kV 2 0
def YR(l:List Dt):Dt:=bif l.all (isK 6)then wF (Bd l)else kV 2 0
def YS(a i:Dt):Dt:=bif isK 6 a then YM (L a 3) i else kV 2 0
def abz(q:Dt->Bool)(l:Dt):Dt:=bif isK 6 l then bV ((L l 3).any q)else kV 2 0
theorem rO(a:Dt):Bd [a]=L a 3:=by rw[wJ];exact List.append_nil _
theorem HZ(k:Int)(a:Dt):[a].all (isK k)=isK k a:=by rw[List.all_cons,List.all_nil,Bool.and_true]
theorem aqx(m:Nat)(a:Dt)(h:(L a 3).length<=137438953472):dM (m+3) 26 [a]=some (YO a):=by show fE (m+2) 26 [a] [a] aj=_;rw[Jw (m+1) 26 [a] [a] (by simp) (by simp) (by rw[rO];exact h),HZ,rO,YO];cases isK 6 a<;>rfl
theorem rev_eq(m:Nat)(a:Dt)(h:(L a 3).length<=137438953472)(hm:(L a 3).length<=m):dM (m+3) 30 [a]=some (YP a):=by
 show fE (m+2) 30 [a] [a] aj=_;rw[Jw (m+1) 30 [a] [a] (by simp) (by simp) (by rw[rO];exact h),HZ,rO,YP];cases isK 6 a;·rfl
 ·rw[cond_true,cond_true];show kP (m+2) (Nat.succ (m+2)) 0 (IntKind.wrap .i64 (((L a 3).length:Int)-1)) aj (L a 3)=_;rw[wrap64 (by omega) (by omega)];have:=YL (m+2) (L a 3) aj (by omega) (Nat.succ (m+2)) 0 (L a 3) (by omega) (by omega) ⟨rfl,fun k hk=>by rw[if_neg (by omega)]⟩;simpa using this
theorem aqy(m:Nat)(a:Dt)(h:(L a 3).length<=137438953472)(hm:(L a 3).length<=m):dM (m+3) 31 [a]=some (YQ a):=by
 show fE (m+2) 31 [a] [a] aj=_;rw[Jw (m+1) 31 [a] [a] (by simp) (by simp) (by rw[rO];exact h),HZ,rO,YQ];cases isK 6 a;·rfl
 ·rw[cond_true,cond_true];have:=NV (m+1) (L a 3) aj (by omega) (Nat.succ (m+2)) 0 0 (aC _) (by omega);rw[aH]at this;exact this
theorem aqz(m:Nat)(l:List Dt)(hl:l.length<=m)(hl2:l.length<9223372036854775807)(h:(Bd l).length<=137438953472):dM (m+3) 29 l=some (YR l):=by show fE (m+2) 29 l l aj=_;rw[Jw (m+1) 29 l l hl2 (by omega) h,YR];cases l.all (isK 6)<;>rfl
theorem aqA(m:Nat)(a i:Dt)(h:(L a 3).length<=137438953472):dM (m+4) 27 [a,i]=some (YS a i):=by
 show fE (m+3) 27 [a,i] [a] aj=_;rw[Jw (m+2) 27 [a,i] [a] (by simp) (by simp) (by rw[rO];exact h),HZ,rO,YS];cases isK 6 a;·rfl
 ·rw[cond_true,cond_true];show ((kY (m+3) (L a 3) i).bind _:Option Dt)=_;rw[aqw,ah]
theorem YT(m:Nat)(v w:Dt)(l:List Dt)(z:Dt)(q:Dt->Bool)(hl:l.length<9223372036854775807)(hq:∀x∈l,jM (m+1) x v=some (q x)):∀(M i:Nat),i<=l.length->l.length-i<M->ng (m+1) M [v,w] l (l.length:Int) (i:Int) z=some (bV ((l.drop i).any q))
 |0,i,_,h=>by omega
 |M+1,i,hi,h=>by
  simp only[ng,dlt];by_cases hlt:i<l.length
  ·have ih:=YT m v w l z q hl hq M (i+1) (by omega) (by omega);rw[iL hlt];simp only[hlt,decide_true,cond_true,bG hlt,am7,hq _ (aI hlt),HV,ah,bQ (show i<9223372036854775807 by omega),ih,List.any_cons];cases q l[i]<;>rfl
  ·rw[kG hlt];simp only[hlt,decide_false,cond_false,HV,ah,List.any_nil]
theorem aqB(m:Nat)(v a:Dt)(q:Dt->Bool)(h:(L a 3).length<=137438953472)(hm:(L a 3).length<=m)(hq:∀x∈L a 3,jM (m+2) x v=some (q x)):dM (m+3) 28 [v,a]=some (abz q a):=by
 show fE (m+2) 28 [v,a] [a] aj=_;rw[Jw (m+1) 28 [v,a] [a] (by simp) (by simp) (by rw[rO];exact h),HZ,rO,abz];cases isK 6 a;·rfl
 ·rw[cond_true,cond_true];have:=YT (m+1) v a (L a 3) aj q (by omega) hq (Nat.succ (m+2)) 0 (aC _) (by omega);rw[aH]at this;exact this
theorem TY(m:Nat)(v:Dt)(l:List Dt)(q:Dt->Bool)(hl:l.length<9223372036854775807)(hq:∀x∈l,jN m x v=some (q x)):∀(M i:Nat),i<=l.length->l.length-i<M->lF m M l (i:Int) v=some ((l.drop i).any q)
 |0,i,_,h=>by omega
 |M+1,i,hi,h=>by
  simp only[lF,dlt];by_cases hlt:i<l.length
  ·have ih:=TY m v l q hl hq M (i+1) (by omega) (by omega);rw[iL hlt];simp only[hlt,decide_true,cond_true,bG hlt,hq _ (aI hlt),ah,bQ (show i<9223372036854775807 by omega),ih,List.any_cons];cases q l[i]<;>rfl
  ·rw[kG hlt];simp only[hlt,decide_false,cond_false,List.any_nil]
theorem ane(m:Nat)(v:Dt)(l:List Dt)(q:Dt->Bool)(hl:l.length<9223372036854775807)(hm:l.length<=m)(hq:∀x∈l,jN m x v=some (q x)):j5 (m+1) l v=some (l.any q):=by have:=TY m v l q hl hq (Nat.succ m) 0 (aC _) (by omega);rw[aH]at this;exact this
theorem anf(m:Nat)(a i:Dt):jG (m+2) a i=some (YS a i):=by
 rw[jG,YS,isK];cases h6:(I a 0==6);·rw[show (I a 0 !=6)=true by rw[bne,h6];rfl];rfl
 ·rw[show (I a 0 !=6)=false by rw[bne,h6];rfl,cond_false,cond_true];cases h3:isK 3 i;·rw[show (I i 0 !=3)=true by rw[isK]at h3;rw[bne,h3];rfl,YM,h3];rfl
  ·rw[show (I i 0 !=3)=false by rw[isK]at h3;rw[bne,h3];rfl,qM,cond_false,anc _ _ _ _ h3]
theorem T9(m:Nat)(l:List Dt)(z:Dt)(hl:l.length<9223372036854775807):∀(M i:Nat)(acc:List Dt),i<=l.length->l.length-i<M->acc.length+(Bd (l.drop i)).length<=137438953472->
  rz m M l (i:Int) z 6 0 (ByteArray.mk (List.toArray [])) acc []=some (wF (acc++Bd (l.drop i)))
 |0,i,_,_,h,_=>by omega
 |M+1,i,acc,hi,h,hc=>by
  simp only[rz,dlt];by_cases hlt:i<l.length
  ·rw[iL hlt]at hc;rw[wJ,aB]at hc;rw[iL hlt,wJ];simp only[hlt,decide_true,cond_true,bG hlt,ah,bQ (show i<9223372036854775807 by omega)];rw[kH (by omega),ah,T9 m l z hl M (i+1) _ (by omega) (by omega) (by rw[aB];omega),List.append_assoc]
  ·rw[kG hlt];simp only[hlt,decide_false,cond_false];rw[show Bd []=[]from rfl,List.append_nil];rfl
theorem ang(m:Nat)(l:List Dt)(hl:l.length<=m)(hl2:l.length<9223372036854775807)(h:(Bd l).length<=137438953472):qx (m+2) l=some (YR l):=by
 rw[qx,NS m l 6 hl2 hl,ah,YR,Hz];cases l.all (isK 6);·rfl
 ·have:=T9 (m+1) l aj hl2 (Nat.succ (m+1)) 0 [] (aC _) (by omega) (by rw[aH];simpa using h);rw[aH,List.nil_append]at this;exact this
theorem aef(m:Nat)(op:Int)(v z:Dt)(hl:(L v 3).length<=137438953472):∀(M i:Nat)(acc:List Dt)(n:Int),i<=(L v 3).length->acc.length<=i->(L v 3).length-i<M->
  o9 (m+1) M op n (i:Int) v z 6 0 (ByteArray.mk (List.toArray [])) acc []=some (bif op==31 then kV 3 (((L v 3).drop i).foldl (fun n d=>bif isK 3 d then w64 (n+I d 1)else n) n)else wF (acc++(L v 3).reverse.drop i))
 |0,i,_,_,_,_,h=>by omega
 |M+    1,i,acc,n,hi,ha,h=>by
  simp only[o9,dlt];by_cases hlt:i<(L v 3).length
  ·have hr:i<(L v 3).reverse.length:=by rw[List.length_reverse];exact hlt
   have e1:IntKind.wrap .i64 (IntKind.wrap .i64 (((L v 3).length:Int)-1)-(i:Int))=(((L v 3).length-1-i:Nat):Int):=by rw[wrap64 (n:=((L v 3).length:Int)-1) (by omega) (by omega),wrap64 (by omega) (by omega)];omega
   have hj:(L v 3).length-1-i<(L v 3).length:=by omega
   have er:(L v 3).reverse[i]=(L v 3)[(L v 3).length-1-i]:=List.getElem_reverse hr;have hac:(acc++[(L v 3)[(L v 3).length-1-i]]).length<=i+1:=by rw[aB];simp;omega
   have ap:app acc [(L v 3)[(L v 3).length-1-i]]=some (acc++[(L v 3)[(L v 3).length-1-i]]):=kH (by simp;omega);have ih:=fun n=>aef m op v z hl M (i+1) (acc++[(L v 3)[(L v 3).length-1-i]]) n (by omega) hac (by omega);rw[iL hlt,iL hr,List.foldl_cons,er];simp only[hlt,decide_true,cond_true,e1,bG hj,ap,bG hlt,ah,bQ (show i<9223372036854775807 by omega),ih,isK,List.append_assoc,List.singleton_append];cases (I (L v 3)[i] 0==3)<;>rfl
  ·rw[kG hlt,kG (by rw[List.length_reverse];exact hlt),List.append_nil];simp only[hlt,decide_false,cond_false,Wh,ah,List.foldl_nil];cases (op==31)<;>rfl
def liS(op:Int)(a:Dt):Dt:=bif op==26 then YO a else bif op==31 then YQ a else YP a
theorem NW(m:Nat)(op:Int)(a:Dt)(h:(L a 3).length<=137438953472)(hm:(L a 3).length<=m)(ho:op=26∨op=30∨op=31):lZ (m+2) op a=some (liS op a):=by
 have hlp:=aef m op a aj h (Nat.succ (m+1)) 0 [] 0 (aC _) (ak _) (by omega);rw[aH,aH,List.nil_append]at hlp;rw[lZ,Hz,liS,YO,YQ,YP,isK];cases h6:(I a 0==6)
 ·rw[show (I a 0 !=6)=true by rw[bne,h6];rfl];rcases ho with rfl|rfl|rfl<;>rfl
 ·rw[show (I a 0 !=6)=false by rw[bne,h6];rfl];rcases ho with rfl|rfl|rfl;·rfl
  ·exact hlp
  ·exact hlp
def Mh:Nat->List Dt->ByteArray->ByteArray
 |_,[],s=>s
 |n,d::l,s=>if s.size<=4096 then Mh n l (s++S d 2)else s
theorem YU(m:Nat)(l:List Dt)(z:Dt)(hl:l.length<9223372036854775807)(hs:∀d∈l,(S d 2).size<=1000000000000000):∀(M i:Nat)(s:ByteArray),i<=l.length->l.length-i<M->oG (m+1) M l s (i:Int) z=some (Ad (Mh 0 (l.drop i) s))
 |0,i,_,_,h=>by omega
 |M+    1,i,s,hi,h=>by
  simp only[oG,dlt];by_cases hlt:i<l.length
  ·rw[iL hlt,Mh];simp only[hlt,decide_true,cond_true];by_cases h4:s.size<=4096
   ·    have:=hs _ (aI hlt);rw[decide_eq_true (by omega),cond_true,if_pos h4,bG hlt,ah,aed (by omega),cond_true,bQ (by omega)];exact YU m l z hl hs M (i+1) _ (by omega) (by omega)
   ·    rw[decide_eq_false (by omega),cond_false,if_neg h4];rfl
  ·rw[kG hlt];simp only[hlt,decide_false,cond_false,Mh];rfl
def abA(l:List Dt):Dt:=bif l.all (isK 4)then Ad (Mh 0 l (ByteArray.mk (List.toArray [])))else kV 2 0
theorem aqC(m:Nat)(l:List Dt)(hl:l.length<9223372036854775807)(hm:l.length<=m)(hs:∀d∈l,(S d 2).size<=1000000000000000):lC (m+2) l=some (abA l):=by
 rw[lC,NS m l 4 hl hm,ah,abA,Hz];cases l.all (isK 4);·rfl
 ·have:=YU m l aj hl hs (Nat.succ (m+1)) 0 (ByteArray.mk (List.toArray [])) (aC _) (by omega);rw[aH]at this;exact this
def abB(l:List Dt):Dt:=bif l.all (isK 4)then Ad (bs (catB l))else kV 2 0
theorem aqD(l:List Dt)(h:(catB l).length<=137438953472):d9 21 l=some (abB l):=by rw[d9,show ((21:Int)==21)=true from rfl,cond_true,Nat.ble_eq_true_of_le h,cond_true,abB];rfl
theorem aeg:∀(l:List Dt)(s:ByteArray),Mh 0 l s=s++bs (catB l)∨(4096<(Mh 0 l s).size∧4096<(s++bs (catB l)).size)
 | [],s=> .inl (by rw[Mh,show catB []=[]from rfl];exact(ByteArray.append_empty (b:=s)).symm)
 |d::l,s=>by
  rw[Mh];have e:s++bs (catB (d::l))=(s++S d 2)++bs (catB l):=by rw[ByteArray.append_assoc];congr 1
  by_cases h4:s.size<=4096
  ·rw[if_pos h4,e];exact aeg l _
  ·rw[if_neg h4];exact .inr ⟨by omega,by rw[ByteArray.size_append];omega⟩
def vE(l:List Dt):Dt:= .agg [.int 5,.int 0,.str (ByteArray.mk (List.toArray [])),.lst [],.lst l]
def CB:List Dt->List Dt->List Dt
 |n::ns,k::ks=>bif nnB k then agg [.str (toStr n),k]::CB ns ks else CB ns ks
 |_,_=>[]
theorem aeh(m:Nat)(l:List Dt)(z:Dt)(hl:l.length<=137438953472):∀(M i:Nat)(acc:List Dt),i<=l.length->acc.length<=i->l.length-i<M->
  j3 (m+2) M l (l.length:Int) (i:Int) z 6 0 (ByteArray.mk (List.toArray [])) acc []=some (wF (acc++(l.drop i).map orN))
 |0,i,_,_,_,h=>by omega
 |M+1,i,acc,hi,ha,h=>by
  simp only[j3,dlt];by_cases hlt:i<l.length
  ·have hac:(acc++[orN l[i]]).length<=i+1:=by rw[aB];simp;omega
   have ap:app acc [orN l[i]]=some (acc++[orN l[i]]):=kH (by simp;omega);rw[iL hlt,List.map_cons];simp only[hlt,decide_true,cond_true,bG hlt,abv,ap,ah,bQ (show i<9223372036854775807 by omega)];rw[aeh m l z hl M (i+1) _ (by omega) hac (by omega),List.append_assoc];rfl
  ·rw[kG hlt];simp only[hlt,decide_false,cond_false,List.map_nil,List.append_nil];rfl
theorem Wm(m:Nat)(l:List Dt)(e z:Dt)(hl:l.length<=137438953472)(hn:(L e 3).length=l.length):∀(M i:Nat)(acc:List Dt),i<=l.length->acc.length<=i->l.length-i<M->
  gD m M l (l.length:Int) (i:Int) e z 5 0 (ByteArray.mk (List.toArray [])) [] acc=some (vE (acc++CB ((L e 3).drop i) (l.drop i)))
 |0,i,_,_,_,h=>by omega
 |M+    1,i,acc,hi,ha,h=>by
  simp only[gD,dlt];by_cases hlt:i<l.length
  ·have hln:i<(L e 3).length:=by omega
   have hac:(acc++[agg [str (toStr (L e 3)[i]),l[i]]]).length<=i+1:=by rw[aB];simp;omega
   have ap:app acc [agg [str (toStr (L e 3)[i]),l[i]]]=some (acc++[agg [str (toStr (L e 3)[i]),l[i]]]):=kH (by simp;omega);rw[iL hlt,iL hln,CB];simp only[hlt,decide_true,cond_true,nZ,bG hlt,bG hln,ap,ah,bQ (show i<9223372036854775807 by omega),nnB];rcases Bool.eq_false_or_eq_true (I l[i] 0 !=0)with hc|hc
   ·    rw[hc,cond_true,cond_true,Wm m l e z hl hn M (i+1) _ (by omega) hac (by omega),List.append_assoc];rfl
   ·rw[hc,cond_false,cond_false,Wm m l e z hl hn M (i+1) _ (by omega) (by omega) (by omega)]
  ·rw[kG hlt];have:CB ((L e 3).drop i) []=[]:=by cases (L e 3).drop i<;>rfl
   simp only[hlt,decide_false,cond_false,this,List.append_nil];rfl
theorem ah5(m:Nat)(e:Dt)(l:List Dt)(he:I e 0=35)(hl:l.length<=137438953472)(hm:l.length<=m):eF (m+3) e l=some (wF (l.map orN)):=by have h:=aeh m l aj hl (Nat.succ (m+2)) 0 [] (aC _) (ak _) (by omega);rw[aH,List.nil_append]at h;rw[eF,he,show ((35:Int)==35)=true from rfl,cond_true];exact h
theorem anh(m:Nat)(e:Dt)(l:List Dt)(he:I e 0=34)(hl:l.length<=137438953472)(hm:l.length<=m)(hn:(L e 3).length=l.length):eF (m+1) e l=some (vE (CB (L e 3) l)):=by have h:=Wm m l e aj hl hn (Nat.succ m) 0 [] (aC _) (ak _) (by omega);rw[aH,aH,List.nil_append]at h;rw[eF,he,show ((34:Int)==35)=false from rfl,cond_false];exact h
theorem YV(m:Nat)(l:List Dt)(z:Dt)(hl:l.length<=137438953472):∀(M i:Nat)(acc:List Dt),i<=l.length->acc.length<=i->l.length-i<M->
  oH (m+2) M l (i:Int) z 6 0 (ByteArray.mk (List.toArray [])) acc []=some (wF (acc++(l.drop i).map orN))
 |0,i,_,_,_,h=>by omega
 |M+1,i,acc,hi,ha,h=>by
  simp only[oH,dlt];by_cases hlt:i<l.length
  ·have hac:(acc++[orN l[i]]).length<=i+1:=by rw[aB];simp;omega
   have ap:app acc [orN l[i]]=some (acc++[orN l[i]]):=kH (by simp;omega);rw[iL hlt,List.map_cons];simp only[hlt,decide_true,cond_true,bG hlt,aeb,ap,ah,bQ (show i<9223372036854775807 by omega)];rw[YV m l z hl M (i+1) _ (by omega) hac (by omega),List.append_assoc];rfl
  ·rw[kG hlt];simp only[hlt,decide_false,cond_false,List.map_nil,List.append_nil];rfl
theorem NY(m:Nat)(l:List Dt)(e z:Dt)(hl:l.length<=137438953472)(hn:(L e 3).length=l.length):∀(M i:Nat)(acc:List Dt),i<=l.length->acc.length<=i->l.length-i<M->
  jC m M l (i:Int) e z 5 0 (ByteArray.mk (List.toArray [])) [] acc=some (vE (acc++CB ((L e 3).drop i) (l.drop i)))
 |0,i,_,_,_,h=>by omega
 |M+    1,i,acc,hi,ha,h=>by
  simp only[jC,dlt];by_cases hlt:i<l.length
  ·have hln:i<(L e 3).length:=by omega
   have hac:(acc++[agg [str (toStr (L e 3)[i]),l[i]]]).length<=i+1:=by rw[aB];simp;omega
   have ap:app acc [agg [str (toStr (L e 3)[i]),l[i]]]=some (acc++[agg [str (toStr (L e 3)[i]),l[i]]]):=kH (by simp;omega);rw[iL hlt,iL hln,CB];simp only[hlt,decide_true,cond_true,rX,bG hlt,bG hln,ap,ah,bQ (show i<9223372036854775807 by omega),nnB];rcases Bool.eq_false_or_eq_true (I l[i] 0 !=0)with hc|hc
   ·    rw[hc,cond_true,cond_true,NY m l e z hl hn M (i+1) _ (by omega) hac (by omega),List.append_assoc];rfl
   ·rw[hc,cond_false,cond_false,NY m l e z hl hn M (i+1) _ (by omega) (by omega) (by omega)]
  ·rw[kG hlt];have:CB ((L e 3).drop i) []=[]:=by cases (L e 3).drop i<;>rfl
   simp only[hlt,decide_false,cond_false,this,List.append_nil];rfl
section
variable(m:Nat)(s3 s25:Dt->Dt->Dt->Option Dt)(e z:Dt)
theorem awg(l:List Dt)(hl:l.length<=137438953472)(hm:l.length<=m)(he:I e 0=4):aJ (m+5) s3 s25 e z l=some (Cx 4 l):=by rw[aJ,he];show ((dW (m+5) (I e 0) l).bind _:Option Dt)=_;rw[he,Cy (m+3) 4 l hl (by omega) (.inl rfl)];rfl
theorem awh(l:List Dt)(hl:l.length<=137438953472)(hm:l.length<=m)(he:I e 0=6):aJ (m+5) s3 s25 e z l=some (Cx 6 l):=by rw[aJ,he];show ((dW (m+5) (I e 0) l).bind _:Option Dt)=_;rw[he,Cy (m+3) 6 l hl (by omega) (.inr (.inl rfl))];rfl
theorem awi(l:List Dt)(hl:l.length<=137438953472)(hm:l.length<=m)(ho:YG 5 l)(he:I e 0=5):aJ (m+5) s3 s25 e z l=some (Cx 5 l):=by rw[aJ,he];show ((dW (m+5) (I e 0) l).bind _:Option Dt)=_;rw[he,Cy (m+3) 5 l hl (by omega) ho];rfl
theorem awj(l:List Dt)(hl:l.length<=137438953472)(hm:l.length<=m)(ho:YG 7 l)(he:I e 0=7):aJ (m+5) s3 s25 e z l=some (Cx 7 l):=by rw[aJ,he];show ((dW (m+5) (I e 0) l).bind _:Option Dt)=_;rw[he,Cy (m+3) 7 l hl (by omega) ho];rfl
theorem awk(l:List Dt)(hl:l.length<=137438953472)(hm:l.length<=m)(ho:YG 8 l)(he:I e 0=8):aJ (m+5) s3 s25 e z l=some (Cx 8 l):=by rw[aJ,he];show ((dW (m+5) (I e 0) l).bind _:Option Dt)=_;rw[he,Cy (m+3) 8 l hl (by omega) ho];rfl
theorem awl(a b:Dt)(c:Int)(hc:bD (m+5) a b=some c)(he:I e 0=9):aJ (m+5) s3 s25 e z [a,b]=some (zK 9 c):=by rw[aJ,he];show ((bD (m+5) a b).bind _:Option Dt)=_;rw[hc,ah,he,Bc (m+3)];rfl
theorem ata(a b:Dt)(c:Int)(hc:bD (m+5) a b=some c)(he:I e 0=10):aJ (m+5) s3 s25 e z [a,b]=some (zK 10 c):=by rw[aJ,he];show ((bD (m+5) a b).bind _:Option Dt)=_;rw[hc,ah,he,Bc (m+3)];rfl
theorem atb(a b:Dt)(c:Int)(hc:bD (m+5) a b=some c)(he:I e 0=11):aJ (m+5) s3 s25 e z [a,b]=some (zK 11 c):=by rw[aJ,he];show ((bD (m+5) a b).bind _:Option Dt)=_;rw[hc,ah,he,Bc (m+3)];rfl
theorem atc(a b:Dt)(c:Int)(hc:bD (m+5) a b=some c)(he:I e 0=12):aJ (m+5) s3 s25 e z [a,b]=some (zK 12 c):=by rw[aJ,he];show ((bD (m+5) a b).bind _:Option Dt)=_;rw[hc,ah,he,Bc (m+3)];rfl
theorem atd(a b:Dt)(c:Int)(hc:bD (m+5) a b=some c)(he:I e 0=13):aJ (m+5) s3 s25 e z [a,b]=some (zK 13 c):=by rw[aJ,he];show ((bD (m+5) a b).bind _:Option Dt)=_;rw[hc,ah,he,Bc (m+3)];rfl
theorem ate(a b:Dt)(c:Int)(hc:bD (m+5) a b=some c)(he:I e 0=14):aJ (m+5) s3 s25 e z [a,b]=some (zK 14 c):=by rw[aJ,he];show ((bD (m+5) a b).bind _:Option Dt)=_;rw[hc,ah,he,Bc (m+3)];rfl
theorem atf(a b:Dt)(c:Int)(hc:bD (m+5) a b=some c)(he:I e 0=15):aJ (m+5) s3 s25 e z [a,b]=some (zK 15 c):=by rw[aJ,he];show ((bD (m+5) a b).bind _:Option Dt)=_;rw[hc,ah,he,Bc (m+3)];rfl
theorem atg(l:List Dt)(hl:l.length<=137438953472)(hm:l.length<=m)(he:I e 0=16):aJ (m+5) s3 s25 e z l=some (aoS 16 l):=by rw[aJ,he];show ((gQ (m+5) (I e 0) l).bind _:Option Dt)=_;rw[he,YH (m+3) 16 l (by omega) (by omega) (.inl rfl)];rfl
theorem ath(l:List Dt)(hl:l.length<=137438953472)(hm:l.length<=m)(he:I e 0=17):aJ (m+5) s3 s25 e z l=some (aoS 17 l):=by rw[aJ,he];show ((gQ (m+5) (I e 0) l).bind _:Option Dt)=_;rw[he,YH (m+3) 17 l (by omega) (by omega) (.inr rfl)];rfl
theorem ati(a:Dt)(he:I e 0=18):aJ (m+5) s3 s25 e z [a]=some (bV (!trB a)):=by rw[aJ,he];show ((gQ (m+5) (I e 0) [a]).bind _:Option Dt)=_;rw[he,agy (m+3)];rfl
theorem atj(a b c:Dt)(he:I e 0=19):aJ (m+5) s3 s25 e z [a,b,c]=some (bif trB a then b else c):=by rw[aJ,he];show ((gQ (m+5) (I e 0) [a,b,c]).bind _:Option Dt)=_;rw[he,ah1 (m+3)];rfl
theorem atl(a b:Dt)(he:I e 0=20):aJ (m+5) s3 s25 e z [a,b]=some (bif I (orN a) 0==2 then b else a):=by rw[aJ,he];show ((gQ (m+5) (I e 0) [a,b]).bind _:Option Dt)=_;rw[he,agz (m+2)];rfl
theorem atm(l:List Dt)(h:(catB l).length<=137438953472)(he:I e 0=21):aJ (m+5) s3 s25 e z l=some (abB l):=by rw[aJ,he];show ((d9 (I e 0) l).bind _:Option Dt)=_;rw[he,aqD l h];rfl
theorem atn(a:Dt)(he:I e 0=22):aJ (m+5) s3 s25 e z [a]=some (HY 22 a):=by rw[aJ,he];show ((d9 (I e 0) [a]).bind _:Option Dt)=_;rw[he,Wl 22 a (by simp)];rfl
theorem ato(a:Dt)(he:I e 0=23):aJ (m+5) s3 s25 e z [a]=some (HY 23 a):=by rw[aJ,he];show ((d9 (I e 0) [a]).bind _:Option Dt)=_;rw[he,Wl 23 a (by simp)];rfl
theorem atp(a:Dt)(he:I e 0=24):aJ (m+5) s3 s25 e z [a]=some (HY 24 a):=by rw[aJ,he];show ((d9 (I e 0) [a]).bind _:Option Dt)=_;rw[he,Wl 24 a (by simp)];rfl
theorem atq(a b c:Dt)(he:I e 0=25):aJ (m+5) s3 s25 e z [a,b,c]=some (slS a b c):=by rw[aJ,he];show ((d9 (I e 0) [a,b,c]).bind _:Option Dt)=_;rw[he,agA];rfl
theorem atr(a:Dt)(h:(L a 3).length<=137438953472)(he:I e 0=26):aJ (m+5) s3 s25 e z [a]=some (YO a):=by rw[aJ,he];show ((dM (m+5) (I e 0) [a]).bind _:Option Dt)=_;rw[he,aqx (m+2) a h];rfl
theorem att(a:Dt)(h:(L a 3).length<=137438953472)(hm:(L a 3).length<=m)(he:I e 0=30):aJ (m+5) s3 s25 e z [a]=some (YP a):=by rw[aJ,he];show ((dM (m+5) (I e 0) [a]).bind _:Option Dt)=_;rw[he,rev_eq (m+2) a h (by omega)];rfl
theorem atu(a:Dt)(h:(L a 3).length<=137438953472)(hm:(L a 3).length<=m)(he:I e 0=31):aJ (m+5) s3 s25 e z [a]=some (YQ a):=by rw[aJ,he];show ((dM (m+5) (I e 0) [a]).bind _:Option Dt)=_;rw[he,aqy (m+2) a h (by omega)];rfl
theorem atv(l:List Dt)(hl:l.length<=m)(hl2:l.length<=137438953472)(h:(Bd l).length<=137438953472)(he:I e 0=29):aJ (m+5) s3 s25 e z l=some (YR l):=by rw[aJ,he];show ((dM (m+5) (I e 0) l).bind _:Option Dt)=_;rw[he,aqz (m+2) l (by omega) (by omega) h];rfl
theorem atw(a b:Dt)(h:(L a 3).length<=137438953472)(he:I e 0=27):aJ (m+5) s3 s25 e z [a,b]=some (YS a b):=by rw[aJ,he];show ((dM (m+5) (I e 0) [a,b]).bind _:Option Dt)=_;rw[he,aqA (m+1) a b h];rfl
theorem atx(v a:Dt)(q:Dt->Bool)(h:(L a 3).length<=137438953472)(hm:(L a 3).length<=m)(hq:∀x∈L a 3,jM (m+4) x v=some (q x))(he:I e 0=28):aJ (m+5) s3 s25 e z [v,a]=some (abz q a):=by rw[aJ,he];show ((dM (m+5) (I e 0) [v,a]).bind _:Option Dt)=_;rw[he,aqB (m+2) v a q h (by omega) hq];rfl
theorem aty(a:Dt)(he:I e 0=36):aJ (m+5) s3 s25 e z [a]=some (kV 3 (I a 0)):=by rw[aJ,he];show ((bU (m+5) (I a 0)).bind _:Option Dt)=_;rw[int_eq];rfl
theorem atz(l:List Dt)(r:Dt)(h:qD (m+5) l=some r)(he:I e 0=37):aJ (m+5) s3 s25 e z l=some (r):=by rw[aJ,he];show ((qD (m+5) l).bind _:Option Dt)=_;rw[h];rfl
theorem atA(l:List Dt)(hl:l.length<=137438953472)(hm:l.length<=m)(he:I e 0=35):aJ (m+5) s3 s25 e z l=some (wF (l.map orN)):=by rw[aJ,he];show ((eF (m+5) e l).bind _:Option Dt)=_;rw[ah5 (m+2) e l he hl (by omega)];rfl
theorem atB(l:List Dt)(hl:l.length<=137438953472)(hm:l.length<=m)(hn:(L e 3).length=l.length)(he:I e 0=34):aJ (m+5) s3 s25 e z l=some (vE (CB (L e 3) l)):=by rw[aJ,he];show ((eF (m+5) e l).bind _:Option Dt)=_;rw[anh (m+4) e l he hl (by omega) hn];rfl
end
section
variable(m:Nat)(e:Dt)
theorem awm(l:List Dt)(hl:l.length<=137438953472)(hm:l.length<=m)(he:I e 0=4):aV (m+6) e l=some (Cx 4 l):=by rw[aV,he];show ((fU (m+5) (I e 0) l).bind _:Option Dt)=_;rw[he,number_eq (m+3) 4 l hl (by omega) (.inl rfl)];rfl
theorem awn(l:List Dt)(hl:l.length<=137438953472)(hm:l.length<=m)(he:I e 0=6):aV (m+6) e l=some (Cx 6 l):=by rw[aV,he];show ((fU (m+5) (I e 0) l).bind _:Option Dt)=_;rw[he,number_eq (m+3) 6 l hl (by omega) (.inr (.inl rfl))];rfl
theorem awo(a b:Dt)(he:I e 0=5):aV (m+6) e [a,b]=some (Cx 5 [a,b]):=by rw[aV,he];show ((fU (m+5) (I e 0) [a,b]).bind _:Option Dt)=_;rw[he,number_eq (m+3) 5 [a,b] (by simp) (by simp) (.inr (.inr ⟨.inl rfl,a,b,rfl⟩))];rfl
theorem awp(a b:Dt)(he:I e 0=7):aV (m+6) e [a,b]=some (Cx 7 [a,b]):=by rw[aV,he];show ((fU (m+5) (I e 0) [a,b]).bind _:Option Dt)=_;rw[he,number_eq (m+3) 7 [a,b] (by simp) (by simp) (.inr (.inr ⟨.inr (.inl rfl),a,b,rfl⟩))];rfl
theorem awq(a b:Dt)(he:I e 0=8):aV (m+6) e [a,b]=some (Cx 8 [a,b]):=by rw[aV,he];show ((fU (m+5) (I e 0) [a,b]).bind _:Option Dt)=_;rw[he,number_eq (m+3) 8 [a,b] (by simp) (by simp) (.inr (.inr ⟨.inr (.inr rfl),a,b,rfl⟩))];rfl
theorem awr(a b:Dt)(c:Int)(hc:bF (m+4) a b=some c)(he:I e 0=9):aV (m+6) e [a,b]=some (zK 9 c):=by rw[aV,he];show ((dZ (m+5) (I e 0) a b).bind _:Option Dt)=_;rw[he,wW (m+3) 9 c a b hc];rfl
theorem atC(a b:Dt)(c:Int)(hc:bF (m+4) a b=some c)(he:I e 0=10):aV (m+6) e [a,b]=some (zK 10 c):=by rw[aV,he];show ((dZ (m+5) (I e 0) a b).bind _:Option Dt)=_;rw[he,wW (m+3) 10 c a b hc];rfl
theorem atD(a b:Dt)(c:Int)(hc:bF (m+4) a b=some c)(he:I e 0=11):aV (m+6) e [a,b]=some (zK 11 c):=by rw[aV,he];show ((dZ (m+5) (I e 0) a b).bind _:Option Dt)=_;rw[he,wW (m+3) 11 c a b hc];rfl
theorem atE(a b:Dt)(c:Int)(hc:bF (m+4) a b=some c)(he:I e 0=12):aV (m+6) e [a,b]=some (zK 12 c):=by rw[aV,he];show ((dZ (m+5) (I e 0) a b).bind _:Option Dt)=_;rw[he,wW (m+3) 12 c a b hc];rfl
theorem atF(a b:Dt)(c:Int)(hc:bF (m+4) a b=some c)(he:I e 0=13):aV (m+6) e [a,b]=some (zK 13 c):=by rw[aV,he];show ((dZ (m+5) (I e 0) a b).bind _:Option Dt)=_;rw[he,wW (m+3) 13 c a b hc];rfl
theorem atG(a b:Dt)(c:Int)(hc:bF (m+4) a b=some c)(he:I e 0=14):aV (m+6) e [a,b]=some (zK 14 c):=by rw[aV,he];show ((dZ (m+5) (I e 0) a b).bind _:Option Dt)=_;rw[he,wW (m+3) 14 c a b hc];rfl
theorem atH(a b:Dt)(c:Int)(hc:bF (m+4) a b=some c)(he:I e 0=15):aV (m+6) e [a,b]=some (zK 15 c):=by rw[aV,he];show ((dZ (m+5) (I e 0) a b).bind _:Option Dt)=_;rw[he,wW (m+3) 15 c a b hc];rfl
theorem atI(l:List Dt)(hl:l.length<=137438953472)(hm:l.length<=m)(hk:∀d∈l,0<=I d 0)(he:I e 0=16):aV (m+6) e l=some (aoS 16 l):=by rw[aV,he];show ((nL (m+5) (I e 0) l).bind _:Option Dt)=_;rw[he,TW (m+3) 16 l (by omega) (by omega) hk (.inl rfl)];rfl
theorem atJ(l:List Dt)(hl:l.length<=137438953472)(hm:l.length<=m)(hk:∀d∈l,0<=I d 0)(he:I e 0=17):aV (m+6) e l=some (aoS 17 l):=by rw[aV,he];show ((nL (m+5) (I e 0) l).bind _:Option Dt)=_;rw[he,TW (m+3) 17 l (by omega) (by omega) hk (.inr rfl)];rfl
theorem atK(a:Dt)(hk:0<=I a 0)(he:I e 0=18):aV (m+6) e [a]=some (bV (!trB a)):=by rw[aV,he];show ((gB (m+5) a).bind _:Option Dt)=_;rw[Nk (m+4) a hk,ah,Cz];rfl
theorem atL(a b c:Dt)(hk:0<=I a 0)(he:I e 0=19):aV (m+6) e [a,b,c]=some (bif trB a then b else c):=by rw[aV,he];show ((gB (m+5) a).bind _:Option Dt)=_;rw[Nk (m+4) a hk,ah];cases trB a<;>rfl
theorem atM(a b:Dt)(he:I e 0=20):aV (m+6) e [a,b]=some (bif I (orN a) 0==2 then b else a):=by
 rw[aV,he];show ((bif I a 0==0 then some b else sZ (m+5) [a,b] (I a 0==2) aj):Option Dt)=_;rw[orN];cases h0:(I a 0==0)
 ·rw[cond_false,cond_false];cases (I a 0==2)<;>rfl
 ·rfl
theorem atO(l:List Dt)(hl:l.length<=137438953472)(hm:l.length<=m)(hs:∀d∈l,(S d 2).size<=1000000000000000)(he:I e 0=21):aV (m+6) e l=some (abA l):=by rw[aV,he];show ((lC (m+5) l).bind _:Option Dt)=_;rw[aqC (m+3) l (by omega) (by omega) hs];rfl
theorem atP(a:Dt)(hs:(S a 2).size<=1000000000000000)(hm:(S a 2).size<=m)(he:I e 0=22):aV (m+6) e [a]=some (HY 22 a):=by
 rw[aV,he];show ((bif I a 0 !=4 then some (kV 2 0)else j6 (m+5) [a] e aj):Option Dt)=_;rw[HY,isK];cases h4:(I a 0==4);·rw[show (I a 0 !=4)=true by rw[bne,h4];rfl];rfl
 ·rw[show (I a 0 !=4)=false by rw[bne,h4];rfl,cond_false,cond_true,j6,he];first|(show ((gL (m+5) (S a 2) (I e 0==23)).bind _:Option Dt)=_;rw[he])|show ((gL (m+5) (S a 2) ((22:Int)==23)).bind _:Option Dt)=_
  rw[show ((22:Int)==23)=false from rfl,NT (m+4) (S a 2) false hs (by omega)];rfl
theorem atQ(a:Dt)(hs:(S a 2).size<=1000000000000000)(hm:(S a 2).size<=m)(he:I e 0=23):aV (m+6) e [a]=some (HY 23 a):=by
 rw[aV,he];show ((bif I a 0 !=4 then some (kV 2 0)else j6 (m+5) [a] e aj):Option Dt)=_;rw[HY,isK];cases h4:(I a 0==4);·rw[show (I a 0 !=4)=true by rw[bne,h4];rfl];rfl
 ·rw[show (I a 0 !=4)=false by rw[bne,h4];rfl,cond_false,cond_true,j6,he];first|(show ((gL (m+5) (S a 2) (I e 0==23)).bind _:Option Dt)=_;rw[he])|show ((gL (m+5) (S a 2) ((23:Int)==23)).bind _:Option Dt)=_
  rw[show ((23:Int)==23)=true from rfl,NT (m+4) (S a 2) true hs (by omega)];rfl
theorem atS(a:Dt)(he:I e 0=24):aV (m+6) e [a]=some (HY 24 a):=by
 rw[aV,he];show ((bif I a 0 !=4 then some (kV 2 0)else j6 (m+5) [a] e aj):Option Dt)=_;rw[HY,isK];cases h4:(I a 0==4);·rw[show (I a 0 !=4)=true by rw[bne,h4];rfl];rfl
 ·rw[show (I a 0 !=4)=false by rw[bne,h4];rfl,cond_false,cond_true,j6,he];rfl
theorem atT(a b c:Dt)(hs:(S a 2).size<=1000000000000000000)(he:I e 0=25):aV (m+6) e [a,b,c]=some (slS a b c):=by rw[aV,he];show ((nM (m+5) a b c).bind _:Option Dt)=_;rw[agB (m+3) a b c hs];rfl
theorem atU(a:Dt)(h:(L a 3).length<=137438953472)(hm:(L a 3).length<=m)(he:I e 0=26):aV (m+6) e [a]=some (YO a):=by rw[aV,he];show ((lZ (m+5) (I e 0) a).bind _:Option Dt)=_;rw[he,NW (m+3) 26 a h (by omega) (.inl rfl)];rfl
theorem atV(a:Dt)(h:(L a 3).length<=137438953472)(hm:(L a 3).length<=m)(he:I e 0=30):aV (m+6) e [a]=some (YP a):=by rw[aV,he];show ((lZ (m+5) (I e 0) a).bind _:Option Dt)=_;rw[he,NW (m+3) 30 a h (by omega) (.inr (.inl rfl))];rfl
theorem atW(a:Dt)(h:(L a 3).length<=137438953472)(hm:(L a 3).length<=m)(he:I e 0=31):aV (m+6) e [a]=some (YQ a):=by rw[aV,he];show ((lZ (m+5) (I e 0) a).bind _:Option Dt)=_;rw[he,NW (m+3) 31 a h (by omega) (.inr (.inr rfl))];rfl
theorem atX(a b:Dt)(he:I e 0=27):aV (m+6) e [a,b]=some (YS a b):=by rw[aV,he];show ((jG (m+5) a b).bind _:Option Dt)=_;rw[anf (m+3)];rfl
theorem atY(v a:Dt)(q:Dt->Bool)(h:(L a 3).length<=137438953472)(hm:(L a 3).length<=m)(hq:∀x∈L a 3,jN (m+4) x v=some (q x))(he:I e 0=28):aV (m+6) e [v,a]=some (abz q a):=by
 rw[aV,he];show ((bif I a 0 !=6 then some (kV 2 0)else Co (m+5) [v,a] aj):Option Dt)=_;rw[abz,isK];cases h6:(I a 0==6);·rw[show (I a 0 !=6)=true by rw[bne,h6];rfl];rfl
 ·rw[show (I a 0 !=6)=false by rw[bne,h6];rfl,cond_false,cond_true];show ((j5 (m+5) (L a 3) v).bind _:Option Dt)=_;rw[ane (m+4) v (L a 3) q (by omega) (by omega) hq,ah,Cz];rfl
theorem atZ(l:List Dt)(hl:l.length<=m)(hl2:l.length<=137438953472)(h:(Bd l).length<=137438953472)(he:I e 0=29):aV (m+6) e l=some (YR l):=by rw[aV,he];show ((qx (m+5) l).bind _:Option Dt)=_;rw[ang (m+3) l (by omega) (by omega) h];rfl
theorem at0(a:Dt)(he:I e 0=36):aV (m+6) e [a]=some (kV 3 (I a 0)):=by rw[aV,he];show ((dX (m+5) (I a 0)).bind _:Option Dt)=_;rw[Wh];rfl
theorem at1(l:List Dt)(r:Dt)(h:nT (m+5) l=some r)(he:I e 0=37):aV (m+6) e l=some (r):=by rw[aV,he];show ((nT (m+5) l).bind _:Option Dt)=_;rw[h];rfl
theorem at5(l:List Dt)(hl:l.length<=137438953472)(hm:l.length<=m)(he:I e 0=35):aV (m+6) e l=some (wF (l.map orN)):=by have h:=YV (m+3) l aj hl (Nat.succ (m+5)) 0 [] (aC _) (ak _) (by omega);rw[aH,List.nil_append]at h;rw[aV,he];exact h
theorem at6(l:List Dt)(hl:l.length<=137438953472)(hm:l.length<=m)(hn:(L e 3).length=l.length)(he:I e 0=34):aV (m+6) e l=some (vE (CB (L e 3) l)):=by have h:=NY (m+5) l e aj hl hn (Nat.succ (m+5)) 0 [] (aC _) (ak _) (by omega);rw[aH,aH,List.nil_append]at h;rw[aV,he];exact h
end
def scD:List (ByteArray×Dt)->Dt
 | []=> .lst []
 |p::r=> .lst [.agg [.str p.1,p.2,scD r]]
def bnD(p:ByteArray×Dt):Dt:= .agg [.str p.1,p.2]
def bnL(l:List (ByteArray×Dt)):List Dt:=l.reverse.map bnD
def NZ(h:Dt->Dt)(s:ByteArray):List (ByteArray×Dt)->Dt
 | []=>aj
 |p::r=>bif ByteArray.toList p.1==ByteArray.toList s then h p.2 else NZ h s r
theorem YW(m:Nat)(s3 s25:Dt->Dt->Dt->Option Dt)(e z:Dt)(h:Dt->Dt):∀(env:List (ByteArray×Dt))(M:Nat),env.length<M->(∀p∈env,bZ m p.2 (L e 1)=some (h p.2))->oK m s3 s25 M (scD env) e z=some (NZ h (S e 2) env)
 |_,0,hM,_=>by omega
 | [],M+1,_,_=>rfl
 |p::r,M+1,hM,hv=>by have ih:=YW m s3 s25 e z h r M (by simp at hM;omega) fun q hq=>hv q (bA _ hq);show ((bif (ByteArray.toList p.1==ByteArray.toList (S e 2))then((bZ m p.2 (L e 1)).bind fun r3=>some r3)else oK m s3 s25 M (scD r) e z):Option Dt)=_;rw[hv p (aS ..),ih,NZ];cases (ByteArray.toList p.1==ByteArray.toList (S e 2))<;>rfl
theorem Jy(m:Nat)(s6 s16:Dt->Dt->List Dt->Option Dt)(e z:Dt)(h:Dt->Dt)(l:List Dt)(hl:l.length<9223372036854775807)(hv:∀b∈l,iA m (fld b 1) (L e 1)=some (h (fld b 1))):∀(M i:Nat)(c:Dt),i<=l.length->l.length-i<M->
  pI m s6 s16 M l (i:Int) e z c=fO m s6 s16 z ((l.drop i).foldl (fun c b=>bif ByteArray.toList (S b 0)==ByteArray.toList (S e 2)then h (fld b 1)else c) c)
 |0,i,_,_,hM=>by omega
 |M+    1,i,c,hi,hM=>by
  simp only[pI,dlt];by_cases hlt:i<l.length
  ·rw[iL hlt,List.foldl_cons];simp only[hlt,decide_true,cond_true,bG hlt,hv _ (aI hlt),ah,bQ (show i<9223372036854775807 by omega)];cases (ByteArray.toList (S l[i] 0)==ByteArray.toList (S e 2))
   ·    simp only[cond_false];exact Jy m s6 s16 e z h l hl hv M (i+1) _ (by omega) (by omega)
   ·    simp only[cond_true];exact Jy m s6 s16 e z h l hl hv M (i+1) _ (by omega) (by omega)
  ·rw[kG hlt];simp only[hlt,decide_false,cond_false,List.foldl_nil]
theorem YX(h:Dt->Dt)(s:ByteArray):∀(env:List (ByteArray×Dt)),(bnL env).foldl (fun c b=>bif ByteArray.toList (S b 0)==ByteArray.toList s then h (fld b 1)else c) aj=NZ h s env
 | []=>rfl
 |p::r=>by rw[bnL,List.reverse_cons,List.map_append,List.foldl_append,NZ];show (bif ByteArray.toList p.1==ByteArray.toList s then h p.2 else _)=_;have:=YX h s r;rw[bnL]at this;rw[this]
theorem YZ(m:Nat)(s3 s25:Dt->Dt->Dt->Option Dt)(vs e doc z:Dt)(l:List Dt)(g:Dt->Dt)(hl:l.length<9223372036854775807)(hs:∀k∈l,s3 k doc vs=some (g k)):∀(M i:Nat),i<=l.length->l.length-i<M->
  oL m s3 s25 M vs l (l.length:Int) (i:Int) e doc z ((l.take i).map g++List.replicate (l.length-i) aj)=aJ m s3 s25 e z (l.map g)
 |0,i,_,hM=>by omega
 |M+    1,i,hi,hM=>by
  simp only[oL,dlt];by_cases hlt:i<l.length
  ·have hA:((l.take i).map g).length=i:=by rw[List.length_map,List.length_take];omega
   have hR:List.replicate (l.length-i) aj=aj::List.replicate (l.length-(i+1)) aj:=by rw[show l.length-i=(l.length-(i+1))+1 by omega];rfl
   have hin:inL ((l.take i).map g++List.replicate (l.length-i) aj) (i:Int)=some ():=xV (by rw[aB,hA,List.length_replicate];omega);have hge:((l.take i).map g++List.replicate (l.length-i) aj)[i]? =some aj:=by rw[hR,List.getElem?_append_right (by omega),hA,Nat.sub_self];rfl
   have hset:((l.take i).map g++List.replicate (l.length-i) aj).set i (g l[i])=(l.take (i+1)).map g++List.replicate (l.length-(i+1)) aj:=by have:=set_mid ((l.take i).map g) (List.replicate (l.length-(i+1)) aj) aj (g l[i]);rw[hA]at this;rw[hR,this,List.take_succ_eq_append_getElem hlt,List.map_append,List.append_assoc];rfl
   simp only[hlt,decide_true,cond_true,bG hlt,hs _ (aI hlt),ah,bQ (show i<9223372036854775807 by omega),Int.toNat_natCast,hin,hge,hset];exact YZ m s3 s25 vs e doc z l g hl hs M (i+1) (by omega) (by omega)
  ·have e1:i=l.length:=by omega
   subst e1;simp only[hlt,decide_false,cond_false,Nat.sub_self,List.replicate_zero,List.append_nil,List.take_length]
theorem Ua(m:Nat)(s6 s16:Dt->Dt->List Dt->Option Dt)(vs:List Dt)(e doc z y:Dt)(g:Dt->Dt)(hl:(L e 6).length<=137438953472)(hs:∀k∈L e 6,s6 k doc vs=some (g k)):∀(M i:Nat)(acc:List Dt),i<=(L e 6).length->acc.length<=i->(L e 6).length-i<M->
  rA m s6 s16 M vs (i:Int) e doc z y acc=wS m s6 s16 e z y (acc++((L e 6).drop i).map g)
 |0,i,_,_,_,hM=>by omega
 |M+1,i,acc,hi,ha,hM=>by
  simp only[rA,dlt];by_cases hlt:i<(L e 6).length
  ·have hac:(acc++[g (L e 6)[i]]).length<=i+1:=by rw[aB];simp;omega
   have ap:app acc [g (L e 6)[i]]=some (acc++[g (L e 6)[i]]):=kH (by simp;omega);rw[iL hlt,List.map_cons];simp only[hlt,decide_true,cond_true,bG hlt,hs _ (aI hlt),ap,ah,bQ (show i<9223372036854775807 by omega)];rw[Ua m s6 s16 vs e doc z y g hl hs M (i+1) _ (by omega) hac (by omega),List.append_assoc];rfl
  ·rw[kG hlt];simp only[hlt,decide_false,cond_false,List.map_nil,List.append_nil]
def lpS(op:Int)(g:Dt->Dt)(l:List Dt):List Dt:=bif op==32 then l.map fun x=>orN (g x)else l.filter fun x=>trB (g x)
theorem Y0(op:Int)(g:Dt->Dt)(x:Dt)(l:List Dt):lpS op g (x::l)=bif op==32 then orN (g x)::lpS op g l else bif trB (g x)then x::lpS op g l else lpS op g l:=by
 unfold lpS;cases (op==32)
 ·simp only[cond_false,List.filter_cons];cases trB (g x)<;>rfl
 ·rfl
theorem aei(m:Nat)(s3:Dt->Dt->Dt->Option Dt)(vs e doc z k1:Dt)(l:List Dt)(g:Dt->Dt)(hl:l.length<=137438953472)(hk:idx (L e 6) 1=some k1)(hs:∀x∈l,s3 k1 doc (.lst [.agg [.str (S e 2),x,vs]])=some (g x)):∀(M i:Nat)(acc:List Dt),i<=l.length->acc.length<=i->l.length-i<M->
  lI (m+2) s3 M vs l (l.length:Int) (i:Int) e doc z 6 0 (ByteArray.mk (List.toArray [])) acc []=some (wF (acc++lpS (I e 0) g (l.drop i)))
 |0,i,_,_,_,hM=>by omega
 |M+    1,i,acc,hi,ha,hM=>by
  simp only[lI,dlt];by_cases hlt:i<l.length
  ·have ih:=fun a ha=>aei m s3 vs e doc z k1 l g hl hk hs M (i+1) a (by omega) ha (by omega);have hac:∀y:Dt,(acc++[y]).length<=i+1:=fun y=>by rw[aB];simp;omega
   have ap:∀y:Dt,app acc [y]=some (acc++[y]):=fun y=>kH (by simp;omega);rw[iL hlt,Y0];simp only[hlt,decide_true,cond_true,tH,bG hlt,hk,hs _ (aI hlt),abv,Ec,ap,ah,bQ (show i<9223372036854775807 by omega)];cases (I e 0==32)
   ·    rw[cond_false,cond_false];cases trB (g l[i]);·rw[cond_false,cond_false,ih acc (by omega)]
        ·rw[cond_true,cond_true,ih _ (hac _),List.append_assoc];rfl
   ·    rw[cond_true,cond_true,ih _ (hac _),List.append_assoc];rfl
  ·rw[kG hlt];have:lpS (I e 0) g []=[]:=by unfold lpS;cases (I e 0==32)<;>rfl
   simp only[hlt,decide_false,cond_false,this,List.append_nil];rfl
theorem Y1(m:Nat)(s6:Dt->Dt->List Dt->Option Dt)(vs:List Dt)(e doc z v k1:Dt)(g:Dt->Dt)(hl:(L v 3).length<=137438953472)(hvs:vs.length<137438953472)(hk:idx (L e 6) 1=some k1)(hs:∀x∈L v 3,s6 k1 doc (vs++[.agg [.str (S e 2),x]])=some (g x))(h0:∀x∈L v 3,0<=I (g x) 0):∀(M i:Nat)(acc:List Dt),i<=(L v 3).length->acc.length<=i->(L v 3).length-i<M->
  jO (m+2) s6 M vs (i:Int) e doc z v 6 0 (ByteArray.mk (List.toArray [])) acc []=some (wF (acc++lpS (I e 0) g ((L v 3).drop i)))
 |0,i,_,_,_,hM=>by omega
 |M+    1,i,acc,hi,ha,hM=>by
  simp only[jO,dlt];by_cases hlt:i<(L v 3).length
  ·have ih:=fun a ha=>Y1 m s6 vs e doc z v k1 g hl hvs hk hs h0 M (i+1) a (by omega) ha (by omega);have hac:∀y:Dt,(acc++[y]).length<=i+1:=fun y=>by rw[aB];simp;omega
   have ap:∀y:Dt,app acc [y]=some (acc++[y]):=fun y=>kH (by simp;omega);have av:app [] vs=some vs:=by rw[kH (by simp;omega)];rfl
   have ab:∀y:Dt,app vs [y]=some (vs++[y]):=fun y=>kH (by simp;omega);rw[iL hlt,Y0];simp only[hlt,decide_true,cond_true,rF,bG hlt,hk,av,ab,hs _ (aI hlt),aeb,Nk (m+1) _ (h0 _ (aI hlt)),ap,ah,bQ (show i<9223372036854775807 by omega)];cases (I e 0==32)
   ·    rw[cond_false,cond_false];cases trB (g (L v 3)[i]);·rw[cond_false,cond_false,ih acc (by omega)]
        ·rw[cond_true,cond_true,ih _ (hac _),List.append_assoc];rfl
   ·    rw[cond_true,cond_true,ih _ (hac _),List.append_assoc];rfl
  ·rw[kG hlt];have:lpS (I e 0) g []=[]:=by unfold lpS;cases (I e 0==32)<;>rfl
   simp only[hlt,decide_false,cond_false,this,List.append_nil];rfl
theorem Ub{l:List Dt}{c:Nat}{f:Dt->Nat}(h:∀e∈l,e.bulk<=c*f e):bulkL l<=c*(l.map f).sum:=by
 induction l with
 |nil=>simp[bulkL]
 |cons a r ih=>
  have h1:=h a (aS ..);have h2:=ih fun e he=>h e (bA _ he);rw[bulkL,List.map_cons,List.sum_cons,Nat.mul_add];omega
theorem abC{p:ByteArray->Bool}{self:Dt->Bool}:∀{l:List Dt}{seen:List ByteArray},fl p self seen l=true->∀f∈l,p (S f 0)=true∧self (fld f 1)=true
 |f::r,seen,h,g,hg=>by
  rw[fl]at h;simp only[aK]at h;rcases List.mem_cons.1 hg with rfl|hg;·exact⟨h.1.1.1,h.1.2⟩
  ·exact abC h.2 g hg
theorem ani{s:ByteArray}(h:nm s=true):s.size<=32:=by
 by_cases hs:32<s.size;·rw[NC s hs]at h;cases h
 ·omega
theorem yw{d:Dt}(h:WV d):d.bulk=6+(S d 2).size+bulkL (L d 3)+bulkL (L d 4):=by
 cases h with
 | @mk k i t l ds hl hd=>
   show Dt.bulk (.agg [.int k,.int i,.str t,.lst l,.lst ds])=6+t.size+bulkL l+bulkL ds;simp only[Dt.bulk,bulkL];omega
theorem Ed{f:Dt}(h:WF f):f.bulk=2+(S f 0).size+(fld f 1).bulk∧WV (fld f 1):=by
 cases h with
 | @mk s v hv=>
   refine⟨?_,hv⟩;show Dt.bulk (.agg [.str s,v])=2+s.size+v.bulk;simp only[Dt.bulk,bulkL];omega
theorem wX{d:Dt}(h:WV d):(∀e∈L d 3,WV e)∧∀f∈L d 4,WF f:=by
 cases h with
 |mk hl hd=>exact⟨hl,hd⟩
theorem H6{s:ByteArray}(h:(s.toList==[])=true):s.size=0:=by
 have h1:s.toList=[]:=by simpa using h
 rw[ByteArray.toList_eq]at h1;rw[←Lv,h1];rfl
theorem H7{l:List Dt}(h:(!(decide ((0:Int)<(l.length:Int))))=true):l=[]:=by
 cases l with
 |nil=>rfl
 |cons a r=>simp at h
theorem N7:∀(n:Nat)(d:Dt),WV d->sndF nm n d=true->d.bulk+40<=4200*nds d
 |0,d,_,h=>by cases h
 |n+    1,d,hw,h=>by
  obtain⟨wl,wd⟩:=wX hw;rw[GX hw,yw hw];rw[sndF,aK]at h;obtain⟨hs,h⟩:=h;rw[shp]at hs;simp only[aK]at hs;obtain⟨⟨⟨_,h2⟩,h3⟩,h4⟩:=hs;by_cases k6:I d 0=6
  ·rw[k6]at h h2 h4;have e2:(S d 2).size=0:=H6 (by simpa using h2);have e4:L d 4=[]:=H7 (by simpa using h4);have ha:∀e∈L d 3,sndF nm n e=true:=by have:(L d 3).all (sndF nm n)=true:=h;exact List.all_eq_true.1 this
   have hb:=Ub (l:=L d 3) (c:=4200) (f:=nds) fun e he=>by have:=N7 n e (wl e he) (ha e he);omega
   have hp:sQ d=L d 3:=by rw[sQ,k6];rfl
   rw[hp,e4,e2];simp only[bulkL];omega
  ·have e3  :  L d 3=[]:=H7 (by simpa [k6]using h3);by_cases k5:I d 0=5
   ·    rw[k5]at h h2;have e2:(S d 2).size=0:=H6 (by simpa using h2);have hf:∀f∈L d 4,nm (S f 0)=true∧sndF nm n (fld f 1)=true:=by have:fl nm (sndF nm n) [] (L d 4)=true:=h;exact abC this
        have hb:=Ub (l:=L d 4) (c:=4200) (f:=fun f=>nds (fld f 1)) fun f hf'=>by have h1:=Ed (wd f hf');have h2:=hf f hf';have h3:=N7 n _ h1.2 h2.2;have h4:=ani h2.1;rw[h1.1];omega
        have hp:sQ d=(L d 4).map (·.fld 1):=by rw[sQ,k5];rfl
        rw[hp,e3,e2,List.map_map];simp only[bulkL];have:(List.map (nds∘fun x=>x.fld 1) (L d 4)).sum=((L d 4).map fun f=>nds (fld f 1)).sum:=rfl;rw[this];omega
   ·    have e4:L d 4=[]:=H7 (by simpa [k5]using h4)
        have e2:(S d 2).size<=4096:=by
         by_cases k4:I d 0=4
         ·rw[k4]at h;have:(decide (((S d 2).size:Int)<=4096)&&Lib.validD (S d 2).data.toList)=true:=h;simp only[aK,decide_eq_true_eq]at this;omega
         ·by_cases k7:I d 0=7
          · rw[k7]at h;have:decide (((S d 2).size:Int)<=4096)=true:=h;simp only[decide_eq_true_eq]at this;omega
          · by_cases k8:I d 0=8
            ·  rw[k8]at h;have:(((S d 2).size:Int)==12)=true:=h;have:((S d 2).size:Int)=12:=by simpa using this
               omega
            ·  rw[H6 (by simpa [k4,k7,k8]using h2)];omega
        rw[e3,e4];simp only[bulkL];omega
theorem anj{d:Dt}(hw:WV d)(h:okV d=true):d.bulk<=4300800:=by rw[okV]at h;simp only[aK,decide_eq_true_eq]at h;have:=N7 _ d hw h.2;omega
def nm1(c:Dt):Dt:=bif I c 0==0 then aj else bif okV c then c else kV 2 0
theorem ank(m:Nat)(e doc vs c:Dt)(hc:fF (m+3) e doc vs=some c)(hw:WV c)(hm:3*c.bulk+300<=m)(hb:c.bulk<=100000000000):cZ (m+4) e doc vs=some (nm1 c):=by
 rw[cZ,hc,ah,nm1];cases (I c 0==0)
 ·rw[cond_false,cond_false,VG hw m hm hb,ah];cases okV c<;>rfl
 ·rfl
theorem ah6(m:Nat)(s6 s16:Dt->Dt->List Dt->Option Dt)(z c:Dt)(hw:WV c)(h0:I c 0=0->c=aj)(hm:2*c.bulk+300<=m)(hm2:m<9223372036854775000)(hb:c.bulk<=100000000000):fO (m+4) s6 s16 z c=some (nm1 c):=by
 rw[fO,nm1];cases hk:(I c 0==0)
 ·rw[show (I c 0 !=0)=true by rw[bne,hk];rfl,cond_true,cond_false,Lx hw m hm hm2 hb,ah];cases okV c<;>rfl
 ·have e0:c=aj:=h0 (by simpa using hk);rw[show (I c 0 !=0)=false by rw[bne,hk];rfl,cond_false,cond_true,←e0];rfl
def Nd(d:Dt):Prop:=d=aj∨(WV d∧okV d=true)
theorem Y2:WV aj:= .mk (fun _ h=>by cases h) fun _ h=>by cases h
theorem Y3(k n:Int):WV (kV k n):= .mk (fun _ h=>by cases h) fun _ h=>by cases h
theorem aej:okV (kV 2 0)=true:=by
 have hp:sQ (kV 2 0)=[]:=rfl;have h1:nds (kV 2 0)=1:=by rw[GX (Y3 2 0),hp];rfl
 have h2:dpt (kV 2 0)=1:=by rw[adX (Y3 2 0),hp];rfl
 have e:(S (kV 2 0) 2).toList=[]:=by rw[ByteArray.toList_eq];rfl
 have h3:sndF nm (kV 2 0).bulk (kV 2 0)=true:=by rw[show (kV 2 0).bulk=5+1 by decide,sndF,shp,e];rfl
 rw[okV,h1,h2,h3];rfl
theorem aqE{c:Dt}(hw:WV c):Nd (nm1 c):=by
 rw[nm1];cases I c 0==0
 ·rw[cond_false];cases h:okV c;·exact .inr ⟨Y3 2 0,aej⟩
  ·exact .inr ⟨hw,h⟩
 ·exact .inl rfl
theorem Nd.wv{d:Dt}(h:Nd d):WV d:=by
 rcases h with rfl|h;·exact Y2
 ·exact h.1
theorem Nd.bulk{d:Dt}(h:Nd d):d.bulk<=4300800:=by
 rcases h with rfl|h;·decide
 ·exact anj h.1 h.2
theorem aek{l:List Dt}(h:∀e∈l,WV e):WV (wF l):= .mk h fun _ h=>by cases h
theorem Uc(l:List Dt):(wF l).bulk=6+bulkL l:=by show Dt.bulk (.agg [.int 6,.int 0,.str (ByteArray.mk (List.toArray [])),.lst l,.lst []])=_;simp only[Dt.bulk,bulkL];show 1+(1+(0+1+(bulkL l+1+(0+1+0))))+1=_;omega
theorem uL{g:Dt->Dt}{q:Dt->Bool}:∀{l:List Dt},(∀e∈l,(g e).bulk<=e.bulk)->bulkL ((l.map g).filter q)<=bulkL l
 | [],_=>ak _
 |a::l,h=>by
  have h1:=h a (aS ..);have h2:=uL (q:=q) (l:=l) fun e he=>h e (bA _ he);rw[List.map_cons,List.filter_cons];split;·rw[bulkL,bulkL];omega
  ·rw[bulkL];omega
theorem N8:∀(n:Nat)(v:Dt)(p:List Dt),WV v->WV (atN n v p)∧(atN n v p).bulk<=v.bulk
 |0,v,p,h=>⟨Y2,by have:=yw h;rw[show atN 0 v p=aj from rfl,show aj.bulk=6 by decide];omega⟩
 |n+1,v,[],h=>⟨h,ak _⟩
 |n+    1,v,s::r,h=>by
  have hz:WV aj∧aj.bulk<=v.bulk:=⟨Y2,by have:=yw h;rw[show aj.bulk=6 by decide];omega⟩;obtain⟨wl,wd⟩:=wX h;rw[atN];cases I v 0==5
  ·rw[   cond_false];cases I v 0==6;·exact hz
   ·    rw[cond_true];refine⟨aek fun e he=>?_,?_⟩
        ·obtain⟨x,hx,rfl⟩:=List.mem_map.1 (List.mem_filter.1 he).1;exact(N8 n x (s::r) (wl x hx)).1
        ·rw[Uc,yw h];have:=uL (g:=fun e=>atN n e (s::r)) (q:=nnB) (l:=L v 3) fun e he=>(N8 n e (s::r) (wl e he)).2;omega
  ·rw[cond_true];cases hf:fnd (toStr s) (L v 4)with
   |none=>exact hz
   |    some x=>
        obtain⟨f,h1,h2⟩:=Nj hf;have hx:WV x:=by rw[h2];exact(Ed (wd f h1)).2
        exact⟨(N8 n x r hx).1,Nat.le_trans (N8 n x r hx).2 (Nat.le_of_lt (YE hf))⟩
theorem N9{n:Nat}{d:Dt}(h:sndF nm n d=true):1<=I d 0:=by
 cases n with
 |zero=>cases h
 |succ n=>
  rw[sndF,aK]at h;have h:=h.2;by_cases hk:1<=I d 0∧I d 0<=11;·exact hk.1
  ·have ne:∀k:Int,1<=k->k<=11->(I d 0==k)=false:=fun k h1 h2=>by rw[beq_eq_false_iff_ne];omega
   rw[ne 9 (by omega) (by omega),ne 10 (by omega) (by omega),ne 4 (by omega) (by omega),ne 7 (by omega) (by omega),ne 8 (by omega) (by omega),ne 6 (by omega) (by omega),ne 5 (by omega) (by omega)]at h;simp only[cond_false,aK,decide_eq_true_eq]at h;omega
theorem apr:∀(n:Nat)(v:Dt)(p:List Dt)(k:Nat),sndF nm k v=true->atN n v p=aj∨1<=I (atN n v p) 0
 |0,_,_,_,_=> .inl rfl
 |n+1,v,[],k,h=> .inr (N9 h)
 |n+1,v,s::r,0,h=>by cases h
 |n+    1,v,s::r,k+1,h=>by
  rw[atN];cases h5:I v 0==5
  ·rw[cond_false];cases I v 0==6;·exact .inl rfl
   ·exact .inr (by rw[cond_true];show (1:Int)<=6;omega)
  ·rw[cond_true];cases hf:fnd (toStr s) (L v 4)with
   |none=>exact .inl rfl
   |    some x=>
        obtain⟨f,h1,rfl⟩:=Nj hf;have e5:I v 0=5:=by simpa using h5
        rw[sndF,aK,e5]at h;have hfl:fl nm (sndF nm k) [] (L v 4)=true:=h.2;exact apr n _ r k (abC hfl f h1).2
structure Rs (c:Dt) (B:Nat):Prop where
 wv:WV c
 bk:c.bulk<=B
 nz:c=aj∨1<=I c 0
theorem Rs.le{c:Dt}{B B':Nat}(h:Rs c B)(hB:B<=B'):Rs c B':=⟨h.wv,Nat.le_trans h.bk hB,h.nz⟩
theorem Rs.k0{c:Dt}{B:Nat}(h:Rs c B):0<=I c 0:=by
 rcases h.nz with rfl|h;·show (0:Int)<=0;omega
 ·omega
theorem fG{b:Bool}{x y:Dt}{B:Nat}(hx:Rs x B)(hy:Rs y B):Rs (bif b then x else y) B:=by cases b<;>assumption
theorem ael(k n:Int):(kV k n).bulk=6:=rfl
theorem zV(k n:Int)(h:1<=k):Rs (kV k n) 6:=⟨Y3 k n,Nat.le_of_eq (ael k n),.inr h⟩
theorem Wn:Rs aj 6:=⟨Y2,by decide,.inl rfl⟩
theorem CG(b:Bool):Rs (bV b) 6:=zV 9 _ (by omega)
theorem lQ:Rs (kV 2 0) 6:=zV 2 0 (by omega)
theorem Nd.rs{d:Dt}(h:Nd d):Rs d d.bulk:=by
 rcases h with rfl| ⟨h1,h2⟩;·exact⟨Y2,ak _,.inl rfl⟩
 ·rw[okV]at h2;simp only[aK]at h2;exact⟨h1,ak _,.inr (N9 h2.2)⟩
theorem zL(op:Int)(l:List Dt):Rs (Cx op l) 6:=by unfold Cx;exact fG (fG (zV 3 _ (by omega)) (fG (zV 3 _ (by omega)) (fG (zV 3 _ (by omega)) (fG lQ (fG (zV 3 _ (by omega)) (zV 3 _ (by omega))))))) lQ
theorem tN(op c:Int):Rs (zK op c) 6:=by unfold zK;exact fG (CG _) (fG (CG _) (fG (CG _) (fG (CG _) (fG (CG _) (fG (CG _) (zV 3 _ (by omega)))))))
theorem aem(op:Int)(l:List Dt):Rs (aoS op l) 6:=fG (CG _) (CG _)
theorem aen(s:ByteArray):WV (Ad s):= .mk (fun _ h=>by cases h) fun _ h=>by cases h
theorem Ud(s:ByteArray):(Ad s).bulk=6+s.size:=by rw[yw (aen s)];rfl
theorem Oa{s:ByteArray}{B:Nat}(h:6+s.size<=B):Rs (Ad s) B:=⟨aen s,by rw[Ud];exact h,.inr (by show (1:Int)<=4;omega)⟩
theorem Ee(op:Int)(a:Dt):Rs (HY op a) (a.bulk+6):=by have h:=vX a 2;unfold HY;exact fG (fG (Oa (by rw[Pb];omega)) (fG (Oa (by rw[Pb];omega)) ((zV 3 _ (by omega)).le (by omega)))) (lQ.le (by omega))
theorem ah7(s:ByteArray)(a n:Int):(abw s a n).size<=s.size:=by rw[abw,ByteArray.size_extract];omega
theorem apt(a b c:Dt):Rs (slS a b c) (a.bulk+6):=by have h:=vX a 2;have:=ah7 (S a 2) (I b 1) (I c 1);unfold slS;exact fG (Oa (by omega)) (lQ.le (by omega))
theorem Wo{l:List Dt}{B:Nat}(h:∀e∈l,WV e)(hB:6+bulkL l<=B):Rs (wF l) B:=⟨aek h,by rw[Uc];exact hB,.inr (by show (1:Int)<=6;omega)⟩
theorem agC(l:List Dt):bulkL l.reverse=bulkL l:=by
 have app:∀a b:List Dt,bulkL (a++b)=bulkL a+bulkL b:=fun a b=>by
  induction a with
  |nil=>simp[bulkL]
  |cons x a ih=>rw[List.cons_append,bulkL,bulkL,ih];omega
 induction l with
 |nil=>rfl
 |cons a l ih=>rw[List.reverse_cons,app,ih];simp only[bulkL];omega
theorem ah8(a:Dt):Rs (YO a) 6:=fG (zV 3 _ (by omega)) lQ
theorem ah9(a:Dt):Rs (YQ a) 6:=fG (zV 3 _ (by omega)) lQ
theorem aia(a:Dt)(hw:WV a):Rs (YP a) (a.bulk+6):=by have:=GV a 3;exact fG (Wo (fun e he=>(wX hw).1 e (List.mem_reverse.1 he)) (by rw[agC];omega)) (lQ.le (by omega))
theorem aib(q:Dt->Bool)(l:Dt):Rs (abz q l) 6:=fG (CG _) lQ
theorem Y4{n:Nat}{a:Dt}(hw:WV a)(h:sndF nm n a=true):∀e∈L a 3,WV e∧∃k,sndF nm k e=true:=by
 intro e he;refine⟨(wX hw).1 e he,?_⟩;cases n with
 |zero=>cases h
 |succ n=>
  rw[sndF,aK]at h;obtain⟨hs,h⟩:=h;by_cases k6:I a 0=6
  ·rw[k6]at h;have:(L a 3).all (sndF nm n)=true:=h;exact⟨n,List.all_eq_true.1 this e he⟩
  ·rw[shp]at hs;simp only[aK]at hs;have e3:L a 3=[]:=H7 (by simpa [k6]using hs.1.2);rw[e3]at he;cases he
theorem Nd.elem{a:Dt}(h:Nd a):∀e∈L a 3,Rs e e.bulk:=by
 rcases h with rfl| ⟨h1,h2⟩;·intro e he;cases he
 ·rw[okV]at h2;simp only[aK]at h2;intro e he;obtain⟨hw,k,hk⟩:=Y4 h1 h2.2 e he;exact⟨hw,ak _,.inr (N9 hk)⟩
theorem aqF(l:List Dt)(i:Dt)(B:Nat)(h:∀e∈l,Rs e B)(hB:6<=B):Rs (YM l i) B:=by
 unfold YM;refine fG (fG (Wn.le hB) ?_) (lQ.le hB);rw[List.getD_eq_getElem?_getD];cases hg:l[(bif decide (I i 1<0)then w64 (I i 1+(l.length:Int))else I i 1).toNat]? with
 |none=>exact Wn.le hB
 |some x=>exact h x (aW hg)
theorem aic(a i:Dt)(h:Nd a):Rs (YS a i) (a.bulk+6):=by refine fG (aqF _ _ _ (fun e he=>?_) (by omega)) (lQ.le (by omega));have:=p9 he;exact(h.elem e he).le (by omega)
theorem Ue(a b:List Dt):bulkL (a++b)=bulkL a+bulkL b:=by
 induction a with
 |nil=>simp[bulkL]
 |cons x a ih=>rw[List.cons_append,bulkL,bulkL,ih];omega
theorem Ef:∀l:List Dt,bulkL (Bd l)<=bulkL l
 | []=>ak _
 |a::l=>by have:=GV a 3;have:=Ef l;rw[wJ,Ue,bulkL];omega
theorem aie(l:List Dt)(h:∀e∈l,WV e):Rs (YR l) (bulkL l+6):=by have:=Ef l;refine fG (Wo (fun e he=>?_) (by omega)) (lQ.le (by omega));obtain⟨a,h1,h2⟩:=List.mem_flatMap.1 he;exact(wX (h a h1)).1 e h2
theorem aqG{d:Dt}(h:WV d):WV (orN d):=by
 unfold orN;cases (I d 0==0);·exact h
 ·exact Y3 2 0
theorem aif{d:Dt}(h:WV d):(orN d).bulk<=d.bulk:=by
 have:=yw h;unfold orN;cases (I d 0==0);·exact ak _
 ·rw[cond_true,ael];omega
theorem aeo:∀{l:List Dt},(∀e∈l,WV e)->(∀e∈l.map orN,WV e)∧bulkL (l.map orN)<=bulkL l
 | [],_=>⟨(fun _ h=>by cases h),ak _⟩
 |a::l,h=>by
  have h1:=h a (aS ..);obtain⟨h2,h3⟩:=aeo (l:=l) fun e he=>h e (bA _ he);have:=aif h1;refine⟨fun e he=>?_,by rw[List.map_cons,bulkL,bulkL];omega⟩;rcases List.mem_cons.1 he with rfl|he;·exact aqG h1
  ·exact h2 e he
theorem Wp(l:List Dt)(h:∀e∈l,WV e):Rs (wF (l.map orN)) (bulkL l+6):=by obtain⟨h1,h2⟩:=aeo h;exact Wo h1 (by omega)
theorem aep:∀(ns ks:List Dt),(∀e∈ks,WV e)->(∀f∈CB ns ks,WF f)∧bulkL (CB ns ks)<=2*bulkL ns+2*ns.length+bulkL ks
 | [],ks,_=>⟨(fun _ h=>by cases h),by show 0<=_;omega⟩
 |n::ns,[],_=>⟨(fun _ h=>by cases h),by show 0<=_;omega⟩
 |n::ns,k::ks,h=>by
  have hk:=h k (aS ..);obtain⟨h1,h2⟩:=aep ns ks fun e he=>h e (bA _ he);have hs:(toStr n).size<=n.bulk:=by
   cases n with
   |str s=>show s.size<=s.size+1;omega
   |_=>exact aC _
  rw[CB];cases nnB k
  ·rw[cond_false];refine⟨h1,?_⟩;simp only[bulkL,List.length_cons];omega
  ·rw[cond_true];refine⟨fun f hf=>?_,?_⟩
   ·    rcases List.mem_cons.1 hf with rfl|hf;·exact .mk hk
        ·exact h1 f hf
   ·    simp only[bulkL,Dt.bulk,List.length_cons];omega
theorem Uf{s:ByteArray}(h:4096<s.size):nm1 (Ad s)=kV 2 0:=by
 have hk:okV (Ad s)=false:=by
  cases hc:okV (Ad s);·rfl
  ·rw[okV]at hc;simp only[aK]at hc;have h2:=hc.2;obtain⟨n,hn⟩:∃n,(Ad s).bulk=n+1:=⟨(Ad s).bulk-1,by have:=Ud s;omega⟩;rw[hn,sndF,aK]at h2;have h3:(decide (((s.size:Nat):Int)<=4096)&&Lib.validD s.data.toList)=true:=h2.2;simp only[aK,decide_eq_true_eq]at h3;omega
 rw[nm1,hk];rfl
theorem anl(l:List Dt):nm1 (abB l)=nm1 (abA l):=by
 rw[abB,abA];cases l.all (isK 4);·rfl
 ·rw[cond_true,cond_true];have e0:ByteArray.mk (List.toArray [])++bs (catB l)=bs (catB l):=by have:=ah2 [] (catB l);rw[List.nil_append]at this;exact this
  rcases aeg l (ByteArray.mk (List.toArray []))with h| ⟨h1,h2⟩;·rw[h,e0]
  ·rw[e0]at h2;rw[Uf h1,Uf h2]
theorem Jz:∀l:List Dt,(catB l).length<=bulkL l
 | []=>ak _
 |a::l=>by have h1:=vX a 2;have h2:=Jz l;rw[show catB (a::l)=(S a 2).data.toList++catB l from rfl,aB,ahn,bulkL];omega
theorem anm(l:List Dt):Rs (abB l) (bulkL l+6):=by have:=Jz l;exact fG (Oa (by rw[Wj];omega)) (lQ.le (by omega))
theorem Ug:∀(l:List Dt)(s:ByteArray),(Mh 0 l s).size<=s.size+bulkL l
 | [],s=>by rw[Mh];omega
 |d::l,s=>by
  have h1:=vX d 2;rw[Mh,bulkL];split
  ·have:=Ug l (s++S d 2);rw[ByteArray.size_append]at this;omega
  ·omega
theorem ano(l:List Dt):Rs (abA l) (bulkL l+6):=by have:=Ug l (ByteArray.mk (List.toArray []));have e:(ByteArray.mk (List.toArray [])).size=0:=rfl;exact fG (Oa (by omega)) (lQ.le (by omega))
theorem Wq{l:List Dt}(h:∀f∈l,WF f):WV (vE l):= .mk (fun _ h=>by cases h) h
theorem aii(ns ks:List Dt)(h:∀e∈ks,WV e):Rs (vE (CB ns ks)) (2*bulkL ns+2*ns.length+bulkL ks+6):=by obtain⟨h1,h2⟩:=aep ns ks h;refine⟨Wq h1,?_,.inr (by show (1:Int)<=5;omega)⟩;rw[yw (Wq h1)];show 6+0+0+bulkL (CB ns ks)<=_;omega
theorem apu(a b c:Dt)(hb:Nd b)(hc:Nd c):Rs (bif trB a then b else c) 4300800:=fG (hb.rs.le hb.bulk) (hc.rs.le hc.bulk)
theorem aij(a b:Dt)(ha:Nd a)(hb:Nd b):Rs (bif I (orN a) 0==2 then b else a) 4300800:=fG (hb.rs.le hb.bulk) (ha.rs.le ha.bulk)
def opS(op:Int)(e:Dt)(ks:List Dt)(mg:Dt):Dt:=
 bif decide (op<=8)then Cx op ks
 else bif decide (op<=15)then zK op (cmpD (ks.getD 0 aj) (ks.getD 1 aj))
 else bif decide (op<=17)then aoS op ks
 else bif op==18 then bV (!trB (ks.getD 0 aj))
 else bif op==19 then(bif trB (ks.getD 0 aj)then ks.getD 1 aj else ks.getD 2 aj)
 else bif op==20 then(bif I (orN (ks.getD 0 aj)) 0==2 then ks.getD 1 aj else ks.getD 0 aj)
 else bif op==21 then abB ks
 else bif decide (op<=24)then HY op (ks.getD 0 aj)
 else bif op==25 then slS (ks.getD 0 aj) (ks.getD 1 aj) (ks.getD 2 aj)
 else bif op==26 then YO (ks.getD 0 aj)
 else bif op==27 then YS (ks.getD 0 aj) (ks.getD 1 aj)
 else bif op==28 then abz (fun x=>cmpD x (ks.getD 0 aj)==0) (ks.getD 1 aj)
 else bif op==29 then YR ks
 else bif op==30 then YP (ks.getD 0 aj)
 else bif op==31 then YQ (ks.getD 0 aj)
 else bif op==34 then vE (CB (L e 3) ks)
 else bif op==35 then wF (ks.map orN)
 else bif op==36 then kV 3 (I (ks.getD 0 aj) 0)
 else mg
def evS(mgS:List Dt->Dt):Nat->Dt->Dt->List (ByteArray×Dt)->Dt
 |0,_,_,_=>aj
 |  r+1,e,doc,env=>nm1 (
    bif I e 0==1 then fld e 4
    else bif I e 0==2 then atN 4300801 doc (L e 1)
    else bif I e 0==3 then NZ (fun v=>atN 4300801 v (L e 1)) (S e 2) env
    else bif I e 0==32||I e 0==33 then
     bif isK 6 (evS mgS r ((L e 6).getD 0 aj) doc env)then
      wF (lpS (I e 0) (fun x=>evS mgS r ((L e 6).getD 1 aj) doc ((S e 2,x)::env)) (L (evS mgS r ((L e 6).getD 0 aj) doc env) 3))
     else kV 2 0
    else opS (I e 0) e ((L e 6).map fun k=>evS mgS r k doc env) (mgS ((L e 6).map fun k=>evS mgS r k doc env)))
def zM(r:Dt):List Dt->Dt
 | []=>r
 |f::l=>zM (DW r (S f 0) (fld f 1)) l
def mgP:Bool->Dt->List Dt->Dt
 |_,r,[]=>r
 |b,r,k::l=>bif (I k 0==0||I k 0==2)then mgP b r l else bif I k 0==5 then(bif b then mgP false k l else bif decide ((1024:Int)<((L (zM r (L k 4)) 4).length:Int))then kV 2 0 else mgP false (zM r (L k 4)) l)else kV 2 0
def mgR:Dt->List Dt->Dt
 |r,[]=>r
 |r,k::l=>bif (I k 0==0||I k 0==2)then mgR r l else bif I k 0==5 then mgR (zM r (L k 4)) l else kV 2 0
def mgS(l:List Dt):Dt:=mgP true (vE []) l
structure Dc (r:Dt):Prop where
 wv:WV r
 k5:I r 0=5
theorem Ws{r x:Dt}{s:ByteArray}(h:Dc r)(hx:WV x):Dc (DW r s x)∧(L r 4).length<=(L (DW r s x) 4).length∧(DW r s x).bulk<=r.bulk+(2+s.size+x.bulk):=by
 refine⟨⟨apg h.wv hx,?_⟩,?_,?_⟩
 ·unfold DW;split;·exact h.k5
  ·exact h.k5
 ·unfold DW;split
  ·show _<=((L r 4).set _ _).length;rw[List.length_set];exact ak _
  ·show _<=(L r 4++[_]).length;rw[aB];omega
 ·unfold DW;split
  ·rename_i k hk;have:=ahH (c:=x) h.wv (agk hk);omega
  ·rw[as3,aa6,(ad3 h.wv).2.2,Ue];have:bulkL [agg [.str s,x]]=2+s.size+x.bulk:=by have:=(Ed (.mk hx:WF (.agg [.str s,x]))).1;rw[bulkL,this];show 2+s.size+x.bulk+0=_;omega
   omega
theorem Bf:∀(l:List Dt){r:Dt},Dc r->(∀f∈l,WF f)->Dc (zM r l)∧(L r 4).length<=(L (zM r l) 4).length∧(zM r l).bulk<=r.bulk+bulkL l
 | [],r,h,_=>⟨h,ak _,ak _⟩
 |f::l,r,h,hl=>by obtain⟨f1,f2⟩:=Ed (hl f (aS ..));obtain⟨h1,h2,h3⟩:=Ws (s:=S f 0) h f2;obtain⟨h4,h5,h6⟩:=Bf l h1 fun g hg=>hl g (bA _ hg);rw[zM,bulkL];exact⟨h4,by omega,by omega⟩
theorem Nd.doc{k:Dt}(h:Nd k)(hk:I k 0=5):Dc k∧∀f∈L k 4,WF f:=⟨⟨h.wv,hk⟩,(wX h.wv).2⟩
theorem kor{k:Dt}(hk:(I k 0==5)=true):I k 0=5:=by simpa using hk
theorem anp:Dc (vE []):=⟨Wq (fun _ h=>by cases h),rfl⟩
theorem Nl{k:Dt}(h:WV k):bulkL (L k 4)<=k.bulk:=by rw[yw h];omega
theorem apv{r:Dt}(h:Dc r){B:Nat}(hB:r.bulk<=B):Rs r B:=⟨h.wv,hB,.inr (by rw[h.k5];omega)⟩
theorem aik:∀(l:List Dt){r:Dt},Dc r->(∀k∈l,Nd k)->Rs (mgR r l) (r.bulk+bulkL l)
 | [],r,h,_=>apv h (ak _)
 |k::l,r,h,hl=>by
  have hk:=hl k (aS ..);have ih:=fun{r:Dt}(h:Dc r)=>aik l h fun g hg=>hl g (bA _ hg);have h6:=wv6 h.wv;rw[mgR,bulkL];refine fG ((ih h).le (by omega)) ?_;cases h5:(I k 0==5);·exact lQ.le (by omega)
  ·obtain⟨d1,d2⟩:=hk.doc (kor h5);obtain⟨a1,a2,a3⟩:=Bf _ h d2;have:=Nl d1.wv;exact(ih a1).le (by omega)
theorem ail:∀(l:List Dt){b:Bool}{r:Dt},Dc r->(∀k∈l,Nd k)->Rs (mgP b r l) (r.bulk+bulkL l)
 | [],_,r,h,_=>apv h (ak _)
 |k::l,b,r,h,hl=>by
  have hk:=hl k (aS ..);have ih:=fun{b:Bool}{r:Dt}(h:Dc r)=>ail l (b:=b) h fun g hg=>hl g (bA _ hg);have h6:=wv6 h.wv;rw[mgP,bulkL];refine fG ((ih h).le (by omega)) ?_;cases h5:(I k 0==5);·exact lQ.le (by omega)
  ·obtain⟨d1,d2⟩:=hk.doc (kor h5);obtain⟨a1,a2,a3⟩:=Bf _ h d2;have:=Nl d1.wv;rw[cond_true];exact fG ((ih d1).le (by omega)) (fG (lQ.le (by omega)) ((ih a1).le (by omega)))
theorem Wt{A:Type}(f:A->Nat)(h:∀a,1<=f a):∀l:List A,l.length<=(l.map f).sum
 | []=>ak _
 |a::l=>by
  have:=h a;have:=Wt f h l
  rw[List.map_cons,List.sum_cons,List.length_cons];omega
theorem at7(d:Dt):1<=nds d:=by
 unfold nds;cases d.bulk with
 |zero=>exact ak _
 |succ n=>rw[adW];omega
theorem ain{r:Dt}(h:Dc r)(hl:1024<(L r 4).length):nm1 r=kV 2 0:=by
 have hn:okV r=false:=by
  have h1:=GX h.wv;have h2:=Wt nds at7 (sQ r);have h3:sQ r=(L r 4).map (·.fld 1):=by rw[sQ,h.k5];rfl
  rw[h3]at h2;rw[List.length_map,←h3]at h2;rw[okV,decide_eq_false (by omega),Bool.false_and,Bool.false_and]
 rw[nm1,h.k5,hn];rfl
theorem Y5:nm1 (kV 2 0)=kV 2 0:=by rw[nm1,aej];rfl
theorem aer:∀(l:List Dt){r:Dt},Dc r->(∀k∈l,Nd k)->1024<(L r 4).length->nm1 (mgR r l)=kV 2 0
 | [],r,h,_,hb=>ain h hb
 |k::l,r,h,hl,hb=>by
  have hk:=hl k (aS ..);have ih:=fun{r:Dt}(h:Dc r)=>aer l h fun g hg=>hl g (bA _ hg);rw[mgR];cases (I k 0==0||I k 0==2)
  ·rw[cond_false];cases h5:(I k 0==5);·exact Y5
   ·    obtain⟨d1,d2⟩:=hk.doc (kor h5);obtain⟨a1,a2,a3⟩:=Bf _ h d2;exact ih a1 (by omega)
  ·exact ih h hb
theorem Oc:∀(l:List Dt){r:Dt},Dc r->(∀k∈l,Nd k)->nm1 (mgP false r l)=nm1 (mgR r l)
 | [],r,_,_=>rfl
 |k::l,r,h,hl=>by
  have hk:=hl k (aS ..);have hl':∀g∈l,Nd g:=fun g hg=>hl g (bA _ hg);rw[mgR,mgP];cases (I k 0==0||I k 0==2)
  ·rw[   cond_false,cond_false];cases h5:(I k 0==5);·rfl
   ·    obtain⟨d1,d2⟩:=hk.doc (kor h5);obtain⟨a1,a2,a3⟩:=Bf _ h d2;rw[cond_true,cond_true,cond_false];cases hd:decide ((1024:Int)<((L (zM r (L k 4)) 4).length:Int));·exact Oc l a1 hl'
        ·have:1024<(L (zM r (L k 4)) 4).length:=by have:=of_decide_eq_true hd;omega
         rw[cond_true,aer l a1 hl' this,Y5]
  ·exact Oc l h hl'
theorem aes{s:ByteArray}:∀{l:List Dt},(∀g∈l,eqb s (S g 0)=false)->fi s l=none
 | [],_=>rfl
 |g::l,h=>by have h1:=h g (aS ..);rw[Jl]at h1;have h1:(ByteArray.toList (S g 0)==ByteArray.toList s)=false:=h1;rw[fi,h1,cond_false,aes fun x hx=>h x (bA _ hx)];rfl
theorem any_map(s:ByteArray)(l:List Dt)(h:(!((l.map fun g=>S g 0).any (eqb s)))=true):∀g∈l,eqb s (S g 0)=false:=by
 intro g hg;cases he:eqb s (S g 0);·rfl
 ·have:(l.map fun g=>S g 0).any (eqb s)=true:=List.any_eq_true.2 ⟨_,List.mem_map.2 ⟨g,hg,rfl⟩,he⟩;rw[this]at h;cases h
theorem Od{p:ByteArray->Bool}{self:Dt->Bool}:∀(l pre:List Dt),(∀f∈l,WF f)->fl p self (pre.map fun g=>S g 0) l=true->zM (vE pre) l=vE (pre++l)
 | [],pre,_,_=>by rw[zM,List.append_nil]
 |f::l,pre,hw,h=>by
  rw[fl]at h;simp only[aK]at h;obtain⟨⟨⟨_,h2⟩,_⟩,h4⟩:=h;have hn:=aes (any_map _ _ h2);have hf:agg [.str (S f 0),fld f 1]=f:=by
   have:=hw f (aS ..);cases this with
   |mk hv=>rfl
  have e1:DW (vE pre) (S f 0) (fld f 1)=vE (pre++[f]):=by have e0:L (vE pre) 4=pre:=rfl;unfold DW;rw[e0,hn];show agg [.int 5,.int 0,.str (ByteArray.mk (List.toArray [])),.lst [],.lst (pre++[agg [.str (S f 0),fld f 1]])]=_;rw[hf];rfl
  rw[zM,e1,Od l (pre++[f]) (fun g hg=>hw g (bA _ hg)) (by rw[List.map_append];exact h4),List.append_assoc];rfl
theorem aua{t:ByteArray}(h:t.size=0):t=ByteArray.mk (List.toArray []):=by
 cases t with
 |mk a=>
  have:a.size=0:=h;have:a= #[]:=Array.eq_empty_of_size_eq_zero this;rw[this]
theorem agD{k:Dt}(h:Nd k)(hk:I k 0=5):zM (vE []) (L k 4)=k:=by
 rcases h with rfl| ⟨hw,ho⟩;·exact absurd hk (by decide)
 ·rw[   okV]at ho;simp only[aK]at ho;have ho:=ho.2;obtain⟨n,hn⟩:∃n,k.bulk=n+1:=⟨k.bulk-1,by have:=jc k;omega⟩;rw[hn,sndF,aK]at ho;obtain⟨hs,hf⟩:=ho;rw[hk]at hf;have hf:fl nm (sndF nm n) [] (L k 4)=true:=hf;rw[Od (L k 4) [] (wX hw).2 hf,List.nil_append];rw[shp]at hs;simp only[aK]at hs;obtain⟨⟨⟨h1,h2⟩,h3⟩,_⟩:=hs;rw[hk]at h1 h2 h3;cases hw with
  | @mk kk i t l ds hl hd=>
    have hk':kk=5:=hk;have e1:i=0:=by have:((i:Int)==0)=true:=h1;simpa using this
    have e2:t=ByteArray.mk (List.toArray []):=aua (H6 (by have:(t.toList==[])=true:=h2;exact this));have e3:l=[]:=H7 h3;subst hk' e1 e2 e3;rfl
theorem aeu:∀(l:List Dt),(∀k∈l,Nd k)->nm1 (mgP true (vE []) l)=nm1 (mgR (vE []) l)
 | [],_=>rfl
 |k::l,hl=>by
  have hk:=hl k (aS ..);have hl':∀g∈l,Nd g:=fun g hg=>hl g (bA _ hg);rw[mgR,mgP];cases (I k 0==0||I k 0==2)
  ·rw[cond_false,cond_false];cases h5:(I k 0==5);·rfl
   ·    rw[cond_true,cond_true,cond_true,agD hk (kor h5)];exact Oc l (hk.doc (kor h5)).1 hl'
  ·exact aeu l hl'
theorem apw(m:Nat)(rec1:Bool->List Dt->Int->Int->Dt->Dt->Option Dt)(b:Bool)(l:List Dt)(n i:Int)(z:Dt)(fs:List Dt)(hf:∀f∈fs,WF f)(hfl:fs.length<9223372036854775000)(hm:1200000000<=m)(hm2:m<9223372036854775000):∀(M j:Nat)(r:Dt),j<=fs.length->fs.length-j<M->Dc r->r.bulk+bulkL (fs.drop j)<=1200000000->
  rM (m+2) rec1 M b l n i fs (fs.length:Int) (j:Int) z r=wT (m+2) rec1 b l n i z (zM r (fs.drop j))
 |0,j,_,_,h,_,_=>by omega
 |M+1,j,r,hj,h,hr,hb=>by
  have hl:=sP (fs.drop j);rw[List.length_drop]at hl;simp only[rM,dlt];by_cases hlt:j<fs.length
  ·rw[iL hlt]at hb ⊢
   rw[bulkL]at hb;obtain⟨f1,f2⟩:=Ed (hf _ (aI hlt));obtain⟨s1,_,s3⟩:=Ws (s:=S fs[j] 0) hr f2;have hs:=apj m (S fs[j] 0) r (fld fs[j] 1) hr.wv f2 hr.k5 (by omega) (by omega) (by omega) (by omega) (by omega);have ih:=apw m rec1 b l n i z fs hf hfl hm hm2 M (j+1) (DW r (S fs[j] 0) (fld fs[j] 1)) (by omega) (by omega) s1 (by omega);have hj2:j<9223372036854775807:=by omega
   simp only[hlt,decide_true,cond_true,bG hlt,ah,hs,bQ hj2,zM];exact ih
  ·rw[kG hlt];simp only[hlt,decide_false,cond_false,zM]
theorem aio(m:Nat)(l:List Dt)(z:Dt)(hk:∀k∈l,Nd k)(hl:l.length<9223372036854775000)(hm:1200000000<=m)(hm2:m<9223372036854775000):∀(M i:Nat)(b:Bool)(r:Dt),i<=l.length->l.length-i<M->Dc r->r.bulk+bulkL (l.drop i)<=1200000000->
  gM (m+2) M b l (l.length:Int) (i:Int) z r=some (mgP b r (l.drop i))
 |0,i,_,_,_,h,_,_=>by omega
 |M+    1,i,  b,r,hi,h,hr,hb=>by
  simp only[gM,dlt];by_cases hlt:i<l.length
  ·rw[   iL hlt]at hb ⊢
   rw[bulkL]at hb;have ih:=fun b r=>aio m l z hk hl hm hm2 M (i+1) b r (by omega) (by omega);have hn:=hk _ (aI hlt);have e4:∀b r,rJ (m+2) (gM (m+2) M) b l (l.length:Int) (i:Int) z r=gM (m+2) M b l (l.length:Int) (((i+1:Nat)):Int) z r:=fun b r=>by rw[rJ,bQ (by omega)]
   simp only[hlt,decide_true,cond_true,vo,bG hlt,ah,mgP,Hy (m+1),e4];cases h0:(I l[i] 0==0)
   ·    cases h2:(I l[i] 0==2)
        ·cases h5:(I l[i] 0==5);·rfl
         ·obtain⟨d1,d2⟩:=hn.doc (kor h5);have hL:=Nl d1.wv;cases b
          ·   obtain⟨a1,a2,a3⟩:=Bf _ hr d2;have hl4:=sP (L l[i] 4);have hin:=apw m (gM (m+2) M) false l (l.length:Int) (i:Int) z (L l[i] 4) d2 (by omega) hm hm2 (Nat.succ (m+2)) 0 r (aC _) (by omega) hr (by rw[aH];omega);rw[aH]at hin;simp only[cond_true,cond_false,Bool.or_false,Bool.false_or];refine hin.trans ?_;simp only[wT,Hy (m+1),ah,e4];cases decide ((1024:Int)<((L (zM r (L l[i] 4)) 4).length:Int));·exact ih false _ a1 (by omega)
              ·rfl
          ·exact ih false _ d1 (by have:=wv6 hr.wv;omega)
        ·exact ih b r hr (by omega)
   ·exact ih b r hr (by omega)
  ·rw[kG hlt];simp only[hlt,decide_false,cond_false,mgP]
theorem apx(m:Nat)(rec1:List Dt->Int->Dt->Dt->Option Dt)(l:List Dt)(i:Nat)(hi:i<l.length)(z:Dt)(hf:∀f∈L l[i] 4,WF f)(hfl:(L l[i] 4).length<9223372036854775000)(hm:1200000000<=m)(hm2:m<9223372036854775000):∀(M j:Nat)(r:Dt),j<=(L l[i] 4).length->(L l[i] 4).length-j<M->Dc r->r.bulk+bulkL ((L l[i] 4).drop j)<=1200000000->
  qy (m+2) rec1 M l (i:Int) (j:Int) z r=nk (m+2) rec1 l (i:Int) z (zM r ((L l[i] 4).drop j))
 |0,j,_,_,h,_,_=>by omega
 |M+1,j,r,hj,h,hr,hb=>by
  have hl:=sP ((L l[i] 4).drop j);rw[List.length_drop]at hl;simp only[qy,bG hi,ah,dlt];by_cases hlt:j<(L l[i] 4).length
  ·rw[iL hlt]at hb ⊢
   rw[bulkL]at hb;obtain⟨f1,f2⟩:=Ed (hf _ (aI hlt));obtain⟨s1,_,s3⟩:=Ws (s:=S (L l[i] 4)[j] 0) hr f2;have hs:=aph m (S (L l[i] 4)[j] 0) r (fld (L l[i] 4)[j] 1) hr.k5 (by omega) (by omega) (by omega);have ih:=apx m rec1 l i hi z hf hfl hm hm2 M (j+1) (DW r (S (L l[i] 4)[j] 0) (fld (L l[i] 4)[j] 1)) (by omega) (by omega) s1 (by omega);have hj2:j<9223372036854775807:=by omega
   simp only[hlt,decide_true,cond_true,bG hi,bG hlt,ah,hs,bQ hj2,zM];exact ih
  ·rw[kG hlt];simp only[hlt,decide_false,cond_false,zM]
theorem aip(m:Nat)(l:List Dt)(z:Dt)(hk:∀k∈l,Nd k)(hl:l.length<9223372036854775000)(hm:1200000000<=m)(hm2:m<9223372036854775000):∀(M i:Nat)(r:Dt),i<=l.length->l.length-i<M->Dc r->r.bulk+bulkL (l.drop i)<=1200000000->
  fu (m+2) M l (i:Int) z r=some (mgR r (l.drop i))
 |0,i,_,_,h,_,_=>by omega
 |M+    1,i,r,hi,h,hr,hb=>by
  simp only[fu,dlt];by_cases hlt:i<l.length
  ·rw[   iL hlt]at hb ⊢
   rw[bulkL]at hb;have ih:=fun r=>aip m l z hk hl hm hm2 M (i+1) r (by omega) (by omega);have hn:=hk _ (aI hlt);have e3:∀r,nk (m+2) (fu (m+2) M) l (i:Int) z r=fu (m+2) M l (((i+1:Nat)):Int) z r:=fun r=>by rw[nk,bQ (by omega)]
   simp only[hlt,decide_true,cond_true,bG hlt,ah,mgR,Hz (m+1),e3];cases h0:(I l[i] 0==0)
   ·    cases h2:(I l[i] 0==2)
        ·cases h5:(I l[i] 0==5)
         ·rw[show (I l[i] 0 !=5)=true by rw[bne,h5];rfl];rfl
         ·obtain⟨d1,d2⟩:=hn.doc (kor h5);have hL:=Nl d1.wv;obtain⟨a1,a2,a3⟩:=Bf _ hr d2;have hl4:=sP (L l[i] 4);have hin:=apx m (fu (m+2) M) l i hlt z d2 (by omega) hm hm2 (Nat.succ (m+2)) 0 r (aC _) (by omega) hr (by rw[aH];omega);rw[aH]at hin;rw[show (I l[i] 0 !=5)=false by rw[bne,h5];rfl];refine hin.trans ?_;rw[e3];exact ih _ a1 (by omega)
        ·exact ih r hr (by omega)
   ·exact ih r hr (by omega)
  ·rw[kG hlt];simp only[hlt,decide_false,cond_false,mgR]
theorem wK:∀(l:List Dt),(∀k∈l,Nd k)->bulkL l<=4300800*l.length
 | [],_=>ak _
 |a::l,h=>by have h1:=(h a (aS ..)).bulk;have h2:=wK l fun k hk=>h k (bA _ hk);rw[bulkL,List.length_cons];omega
theorem anq(l:List Dt)(hk:∀k∈l,Nd k)(h:l.length<=256)(m:Nat)(hm:1200000001<=m)(hm2:m<9223372036854775000):qD (m+2) l=some (mgS l):=by have hB:=wK l hk;obtain⟨q,rfl⟩:∃q,m=q+1:=⟨m-1,by omega⟩;have key:=aio q l aj hk (by omega) (by omega) (by omega) (Nat.succ (q+2)) 0 true (vE []) (aC _) (by omega) anp (by have:(vE []).bulk=6:=rfl;rw[aH];omega);rw[aH]at key;exact key
theorem anr(l:List Dt)(hk:∀k∈l,Nd k)(h:l.length<=256)(m:Nat)(hm:1200000001<=m)(hm2:m<9223372036854775000):nT (m+2) l=some (mgR (vE []) l):=by have hB:=wK l hk;obtain⟨q,rfl⟩:∃q,m=q+1:=⟨m-1,by omega⟩;have key:=aip q l aj hk (by omega) (by omega) (by omega) (Nat.succ (q+2)) 0 (vE []) (aC _) (by omega) anp (by have:(vE []).bulk=6:=rfl;rw[aH];omega);rw[aH]at key;exact key
def VE:Nat->Dt->Prop
 |0,_=>False
 |r+1,d=>nodeS d=0∧(L d 6).length<=256∧∀k∈L d 6,VE r k
theorem aiq{b:Bool}{x y:Int}(h:(bif b then x else y)=0)(hx:x≠0):b=false∧y=0:=by
 cases b;·exact⟨rfl,h⟩
 ·exact absurd h hx
theorem aev{f:Dt->Nat->Nat×Int}(hf:∀e n,n<=256->(f e n).2=0->n<(f e n).1∧(f e n).1<=256):∀(l:List Dt)(n:Nat),n<=256->(ckL f l n).2=0->n+l.length<=(ckL f l n).1∧∀e∈l,∃n',n'<=256∧(f e n').2=0
 | [],n,hn,h=>⟨ak _,fun _ h=>by cases h⟩
 |e::r,n,hn,h=>by
  rw[ckL]at h ⊢
  cases hb:((f e n).2 !=0)with
  |true=>
   rw[hb,cond_true]at h;rw[h]at hb;cases hb
  |false=>
   have hz:(f e n).2=0:=by simpa [bne]using hb
   rw[hb,cond_false]at h;rw[cond_false];obtain⟨h1,h2⟩:=hf e n hn hz;obtain⟨h3,h4⟩:=aev hf r _ h2 h;refine⟨by rw[List.length_cons];omega,fun x hx=>?_⟩;rcases List.mem_cons.1 hx with rfl|hx;·exact⟨n,hn,hz⟩
   ·exact h4 x hx
theorem Wu:∀(r:Nat)(d:Dt)(n:Nat),n<=256->(ckE r d n).2=0->n<(ckE r d n).1∧VE r d
 |0,_,_,_,h=>absurd (show (2:Int)=0 from h) (by decide)
 |r+    1,d,n,hn,h=>by
  rw[ckE]at h ⊢
  cases hb:Nat.beq n 256 with
  |true=>
   rw[hb,cond_true]at h;exact absurd (show (2:Int)=0 from h) (by decide)
  |false=>
   have h9:n≠256:=fun h=>by subst h;cases hb
   rw[hb,cond_false]at h;rw[cond_false];cases hz:(nodeS d !=0)with
   |    true=>
        rw[hz,cond_true]at h;have h:nodeS d=0:=h;rw[h]at hz;cases hz
   |    false=>
        have hz':nodeS d=0:=by simpa [bne]using hz
        rw[hz,cond_false]at h;rw[cond_false];obtain⟨h1,h2⟩:=aev (f:=ckE r) (fun e n hn he=>⟨(Wu r e n hn he).1,Rz r e n hn⟩) (L d 6) (n+1) (by omega) h;have h3:=ad5 (f:=ckE r) (fun e n h=>Rz r e n h) (L d 6) (n+1) (by omega);refine⟨by omega,hz',by omega,fun k hk=>?_⟩;obtain⟨n',hn',he⟩:=h2 k hk;exact(Wu r k n' hn' he).2
theorem Eh{d:Dt}(h:nodeS d=0):1<=I d 0∧I d 0<=37∧ehk (TA (I d 0)) ((L d 6).length:Int)=true∧(I d 0=34->(L d 3).length=(L d 6).length)∧(I d 0=1->okV (fld d 4)=true):=by
 rw[nodeS]at h;obtain⟨h1,h⟩:=aiq h (by decide);obtain⟨h2,h⟩:=aiq h (by decide);rw[sE]at h;obtain⟨_,h⟩:=aiq h (by decide);rw[sD]at h;obtain⟨_,h⟩:=aiq h (by decide);rw[sC]at h;obtain⟨h3,_⟩:=aiq h (by decide);rw[Bool.or_eq_false_iff]at h1 h2;have h11:=of_decide_eq_false h1.1;have h12:=of_decide_eq_false h1.2;refine⟨by omega,by omega,by simpa using h2.1,fun e=>?_,fun e=>?_⟩
 ·have h4:=h2.2;rw[e,show ((34:Int)==34)=true from rfl,Bool.true_and]at h4;have h5:((L d 6).length:Int)=((L d 3).length:Int):=by simpa [bne]using h4
  omega
 ·rw[e,show ((1:Int)==1)=true from rfl,Bool.true_and]at h3;simpa using h3
