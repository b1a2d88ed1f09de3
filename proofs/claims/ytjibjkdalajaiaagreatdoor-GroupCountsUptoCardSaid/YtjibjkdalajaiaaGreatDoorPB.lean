/- expr: the value at a path, by the program and by the reference.
expr:operators on integers,by the program and by the reference.
expr:truth values,comparisons,logic,by the program and by the reference.
expr:operators on strings,by the program and by the reference.
expr:parts of strings,joined strings.
expr:operators on lists,by the program and by the reference.
expr:each operator on lists.
expr:the reference's operators on one list;joined strings.
expr:lists and documents out of the values of kids.
expr:each operator,by the program's and the reference's branches. Printed by eap.py.
expr:the loops over kids,elements and variables.
Valid values are small.
expr:a node's value is missing,valid or null.
expr:values at paths are well-formed,no bigger,and missing only as the zero value.
expr:the results of the operators are well-formed and of bounded size.
expr:the results of the operators on lists and of collections.
expr:joined strings:the program's and the reference's agree as values of a node;documents.
expr:the value of an expression,in plain Lean.
expr:documents merged,in plain Lean:the program's and the reference's rule give the same value of a node.
expr:documents merged:the program's and the reference's loops.
expr:what a valid expression is:a tree of at most 16 levels with good nodes,each of at most 256 kids. -/
import Derived.Test.YtjibjkdalajaiaaGreatDoorSh
import Derived.Test.YtjibjkdalajaiaaGreatDoorPA
set_option linter.all false
namespace Go.Proofs.YtjibjkdalajaiaaGreatDoor
open Go.Am Dt
def fnd(x:ByteArray):List Dt->Option Dt
 | []=>none
 |f::r=>bif ByteArray.toList (S f 0)==ByteArray.toList x then some (fld f 1)else fnd x r
def aoU(x:ByteArray)(L:List Dt):Dt×Bool:=match fnd x L with
 |some v=>(v,true)
 |none=>(aj,false)
def vN(l:List Dt):Dt:= .agg [.int 6,.int 0,.str (ByteArray.mk (List.toArray [])),.lst l,.lst []]
def nnB(x:Dt):Bool:=I x 0 !=0
def atN:Nat->Dt->List Dt->Dt
 |0,_,_=>aj
 |_+1,v,[]=>v
 |  n+1,v,s::r=>
    bif I v 0==5 then(match fnd (toStr s) (L v 4)with
     |some x=>atN n x r
     |none=>aj)
    else bif I v 0==6 then vN (((L v 3).map fun e=>atN n e (s::r)).filter nnB)else aj
theorem ap8(s:Dt)(p:List Dt):cutL (s::p) 1 ((s::p).length:Int)=some p:=by have:=alH (l:=s::p) (i:=1) (j:=(s::p).length) (by simp) (ay _);simpa using this
theorem aoV(s:Dt)(p:List Dt):idx (s::p) 0=some s:=bE (l:=s::p) (i:=0) (by simp)
theorem iB{A:Type}{L:List A}{i:Nat}(h:i<L.length):L.drop i=L[i]::L.drop (i+1):=aH h
theorem j4{A:Type}{L:List A}{i:Nat}(h:¬i<L.length):L.drop i=[]:=List.drop_eq_nil_of_le (by omega)
theorem Ni{x:ByteArray}{v:Dt}:∀{L:List Dt},fnd x L=some v->∃f∈L,v=fld f 1
 |f::r,h=>by
  rw[fnd]at h;cases hc:ByteArray.toList (S f 0)==ByteArray.toList x
  ·rw[hc,cond_false]at h;obtain⟨g,h1,h2⟩:=Ni h;exact⟨g,aT _ h1,h2⟩
  ·rw[hc,cond_true]at h;cases h;exact⟨f,aO ..,rfl⟩
theorem aac{x:ByteArray}{v d:Dt}{i:Nat}(h:fnd x (L d i)=some v):v.bulk<d.bulk:=by obtain⟨f,h1,rfl⟩:=Ni h;have:=pI f 1;have:=qj h1;omega
theorem afs(m:Nat)(self:Dt->List Dt->Option Dt)(s:Dt)(r fs:List Dt)(z:Dt)(g:Dt->Dt)(hl:fs.length<9223372036854775807)(hs:∀f∈fs,self (fld f 1) r=some (g (fld f 1))):
  ∀(M i:Nat),i<=fs.length->fs.length-i<M->nN m self M (s::r) fs (fs.length:Int) (i:Int) z=some (match fnd (toStr s) (fs.drop i)with
   |some x=>g x
   |none=>aj)
 |0,i,_,h=>by omega
 |M+    1,i,hi,h=>by
  simp only[nN,dlt];by_cases hlt:i<fs.length
  ·rw[iB hlt,fnd];simp only[hlt,decide_true,cond_true,iZ,ku,bE hlt,aoV,ah,bR (show i<9223372036854775807 by omega),ap8 s r];cases hc:ByteArray.toList (S fs[i] 0)==ByteArray.toList (toStr s)
   ·    simp only[cond_false];exact afs m self s r fs z g hl hs M (i+1) (by omega) (by omega)
   ·simp only[cond_true,hs _ (aI hlt),ah]
  ·rw[j4 hlt];simp only[hlt,decide_false,cond_false,iZ,ku,fnd]
theorem Xo(m:Nat)(self:Dt->List Dt->Option Dt)(p l:List Dt)(z:Dt)(g:Dt->Dt)(hl:l.length<=137438953472)(hs:∀e∈l,self e p=some (g e)):
  ∀(M i:Nat)(acc:List Dt),i<=l.length->acc.length<=i->l.length-i<M->jc m self M p l (l.length:Int) (i:Int) z 6 0 (ByteArray.mk (List.toArray [])) acc []=some (vN (acc++((l.drop i).map g).filter nnB))
 |0,i,_,_,_,h=>by omega
 |M+    1,i,acc,hi,ha,h=>by
  simp only[jc,dlt];by_cases hlt:i<l.length
  ·rw[iB hlt,List.map_cons,List.filter_cons];simp only[hlt,decide_true,cond_true,iZ,ku,bE hlt,ah,bR (show i<9223372036854775807 by omega),hs _ (aI hlt),nnB];rcases Bool.eq_false_or_eq_true (I (g l[i]) 0 !=0)with hc|hc
   case inr=>
        simp only[hc,cond_false,Bool.false_eq_true,if_false];exact Xo m self p l z g hl hs M (i+1) acc (by omega) (by omega) (by omega)
   case inl=>
        have h1:(acc++[g l[i]]).length<=i+1:=by rw[aR];simp;omega
        simp only[hc,cond_true,if_true,mU (l:=acc) (r:=[g l[i]]) (by simp;omega),ah];rw[Xo m self p l z g hl hs M (i+1) _ (by omega) h1 (by omega),List.append_assoc];rfl
  ·rw[j4 hlt];simp only[hlt,decide_false,cond_false,iZ,ku,List.map_nil,List.filter_nil,List.append_nil];rfl
theorem Xp:∀(n m:Nat)(v:Dt)(p:List Dt),v.bulk<=n->n<=m->v.bulk<=137438953472->bU (m+1) v p=some (atN (n+1) v p)
 |n,m,v,[],_,_,_=>by simp[bU,atN]
 |0,m,v,s::r,h,_,_=>by have:=qd v;omega
 |n+    1,m,v,s::r,h,hm,hb=>by
  obtain⟨m,rfl⟩:∃k,m=k+1:=⟨m-1,by omega⟩;have y0:(((s::r).length:Int)==0)=false:=by rw[show (0:Int)=((0:Nat):Int)from rfl,ieq];simp
  have hd:∀f∈L v 4,bU (m+1) (fld f 1) r=some ((fun x=>atN (n+1) x r) (fld f 1)):=fun f hf=>by have:=pI f 1;have:=qj hf;exact Xp n m _ r (by omega) (by omega) (by omega)
  have hl:∀e∈L v 3,bU (m+1) e (s::r)=some ((fun x=>atN (n+1) x (s::r)) e):=fun e he=>by have:=qj he;exact Xp n m _ (s::r) (by omega) (by omega) (by omega)
  have n4:=iQ v 4;have n3:=iQ v 3;rw[bU,y0,cond_false,atN];unfold ku;cases h5:(I v 0==5)
  ·simp only[cond_false];cases h6:(I v 0==6);·simp only[cond_false]
   ·    simp only[cond_true];have:=Xo (m+1) (bU (m+1)) (s::r) (L v 3) aj (fun x=>atN (n+1) x (s::r)) (by omega) hl (Nat.succ (m+1)) 0 [] (aC _) (ay _) (by omega);simpa using this
  ·simp only[cond_true];have:=afs (m+1) (bU (m+1)) s r (L v 4) aj (fun x=>atN (n+1) x r) (by omega) hd (Nat.succ (m+1)) 0 (aC _) (by omega);simpa using this
theorem at_loop(m:Nat)(x:ByteArray)(v:Dt)(hl:(L v 4).length<9223372036854775807):∀(M i:Nat),i<=(L v 4).length->(L v 4).length-i<M->(∃(k:Nat)(h:k<(L v 4).length),nk m M x (i:Int) v=some (k:Int)∧fnd x ((L v 4).drop i)=some (fld (L v 4)[k] 1))∨(nk m M x (i:Int) v=some (-1)∧fnd x ((L v 4).drop i)=none)
 |0,i,_,h=>by omega
 |M+1,i,hi,h=>by
  simp only[nk,dlt];by_cases hlt:i<(L v 4).length
  ·rw[iB hlt,fnd];simp only[hlt,decide_true,cond_true,bE hlt,ah,bR (show i<9223372036854775807 by omega)];cases (ByteArray.toList (S (L v 4)[i] 0)==ByteArray.toList x);·exact at_loop m x v hl M (i+1) (by omega) (by omega)
   ·exact .inl ⟨i,hlt,rfl,rfl⟩
  ·rw[j4 hlt];simp only[hlt,decide_false,cond_false];exact .inr ⟨trivial,rfl⟩
theorem aoW(m:Nat)(v:Dt)(x:ByteArray)(h5:I v 0=5)(hm:v.bulk<=m)(hm2:v.bulk<9223372036854775807):qZ (m+2) v x=some (aoU x (L v 4)):=by
 have hn:=iQ v 4;have y5:(I v 0 !=5)=false:=by rw[h5];rfl
 have h:=at_loop m x v (by omega) (m+1) 0 (aC _) (by omega);rw[aF]at h;rcases h with⟨k,hk,h1,h2⟩| ⟨h1,h2⟩
 ·have ha:mJ (m+1) v x=some (k:Int):=by simp only[mJ,y5,cond_false];exact h1
  have d0:decide ((k:Int)<0)=false:=decide_eq_false (by omega);simp only[qZ,ha,ah,d0,cond_false,bE hk,aoU,h2]
 ·have ha:mJ (m+1) v x=some (-1):=by simp only[mJ,y5,cond_false];exact h1
  have d0:decide ((-1:Int)<0)=true:=rfl;simp only[qZ,ha,ah,d0,cond_true,aoU,h2]
theorem Xq(m:Nat)(self:Dt->List Dt->Option Dt)(p:List Dt)(v z:Dt)(g:Dt->Dt)(hl:(L v 3).length<=137438953472)(hs:∀e∈L v 3,self e p=some (g e)):
  ∀(M i:Nat)(acc:List Dt),i<=(L v 3).length->acc.length<=i->(L v 3).length-i<M->ru m self M p (i:Int) v z 6 0 (ByteArray.mk (List.toArray [])) acc []=some (vN (acc++(((L v 3).drop i).map g).filter nnB))
 |0,i,_,_,_,h=>by omega
 |M+    1,i,acc,hi,ha,h=>by
  simp only[ru,dlt];by_cases hlt:i<(L v 3).length
  ·rw[iB hlt,List.map_cons,List.filter_cons];simp only[hlt,decide_true,cond_true,xX,bE hlt,ah,bR (show i<9223372036854775807 by omega),hs _ (aI hlt),nnB];rcases Bool.eq_false_or_eq_true (I (g (L v 3)[i]) 0 !=0)with hc|hc
   case inr=>
        simp only[hc,cond_false,Bool.false_eq_true,if_false];exact Xq m self p v z g hl hs M (i+1) acc (by omega) (by omega) (by omega)
   case inl=>
        have h1:(acc++[g (L v 3)[i]]).length<=i+1:=by rw[aR];simp;omega
        simp only[hc,cond_true,if_true,mU (l:=acc) (r:=[g (L v 3)[i]]) (by simp;omega),ah];rw[Xq m self p v z g hl hs M (i+1) _ (by omega) h1 (by omega),List.append_assoc];rfl
  ·rw[j4 hlt];simp only[hlt,decide_false,cond_false,xX,List.map_nil,List.filter_nil,List.append_nil];rfl
theorem Xr:∀(n m:Nat)(v:Dt)(p:List Dt),v.bulk<=n->n+2<=m->v.bulk<=137438953472->gW (m+1) v p=some (atN (n+1) v p)
 |n,m,v,[],_,_,_=>by simp[gW,atN]
 |0,m,v,s::r,h,_,_=>by have:=qd v;omega
 |n+    1,m,v,s::r,h,hm,hb=>by
  obtain⟨m,rfl⟩:∃k,m=k+2:=⟨m-2,by omega⟩;have y0:(((s::r).length:Int)==0)=false:=by rw[show (0:Int)=((0:Nat):Int)from rfl,ieq];simp
  have hl:∀e∈L v 3,gW (m+2) e (s::r)=some ((fun x=>atN (n+1) x (s::r)) e):=fun e he=>by have:=qj he;exact Xr n (m+1) _ (s::r) (by omega) (by omega) (by omega)
  have n4:=iQ v 4;have n3:=iQ v 3;rw[gW,y0,cond_false,atN];unfold xX;cases h5:(I v 0==5)
  ·simp only[cond_false];cases h6:(I v 0==6);·simp only[cond_false]
   ·    simp only[cond_true];have:=Xq (m+2) (gW (m+2)) (s::r) v aj (fun x=>atN (n+1) x (s::r)) (by omega) hl (Nat.succ (m+2)) 0 [] (aC _) (ay _) (by omega);simpa using this
  ·have e5:I v 0=5:=by simpa using h5
   simp only[cond_true,aoV,ah,aoW m v (toStr s) e5 (by omega) (by omega),aoU];cases hf:fnd (toStr s) (L v 4)with
   |none=>simp only[cond_false]
   |    some x=>
        have:=aac hf;simp only[cond_true,ap8,ah,Xr n (m+1) x r (by omega) (by omega) (by omega)]
def kV(k n:Int):Dt:= .agg [.int k,.int n,.str (ByteArray.mk (List.toArray [])),.lst [],.lst []]
def iD(d:Dt):Dt:= .int (I d 1)
def isK(k:Int)(d:Dt):Bool:=I d 0==k
theorem set_mid(A B:List Dt)(z x:Dt):(A++z::B).set A.length x=A++x::B:=by
 induction A with
 |nil=>rfl
 |cons a A ih=>simp only[List.cons_append,List.length_cons,List.set_cons_succ,ih]
theorem Iz(m:Nat):cB (m+1)=some (kV 2 0):=rfl
theorem int_eq(m:Nat)(n:Int):bM (m+1) n=some (kV 3 n):=rfl
theorem IB(m:Nat):bZ (m+1)=some (kV 2 0):=rfl
theorem Xt(m:Nat)(n:Int):dP (m+1) n=some (kV 3 n):=rfl
def w64(n:Int):Int:=IntKind.wrap .i64 n
theorem as7(n:Int):w64 n=(n+9223372036854775808)%18446744073709551616-9223372036854775808:=by unfold w64;rw[IntKind.wrap_i64]
def quS(a b:Int):Int:=bif (Int.tmod a b !=0)&&!(decide (a<0)==decide (b<0))then w64 (w64 (Int.tdiv a b)-1)else w64 (Int.tdiv a b)
theorem aft(m:Nat)(a b:Int)(hb:b≠0):iK (m+1) a b=some (quS a b):=by
 have h0:decide (b=0)=false:=decide_eq_false hb;rw[iK,h0,cond_false,cond_false,quS];cases (Int.tmod a b !=0);·simp only[cond_false,Bool.false_and,mH];rfl
 ·simp only[cond_true,Bool.true_and,mH];cases (!(decide (a<0)==decide (b<0)))<;>rfl
theorem tmod_neg(a b:Int)(h:Int.tmod a b≠0):decide (Int.tmod a b<0)=decide (a<0):=by
 by_cases ha:a<0
 ·have h1:Int.tmod a b= -Int.tmod (-a) b:=by rw[Int.neg_tmod];omega
  have h2:=Int.tmod_nonneg b (show 0<= -a by omega);rw[decide_eq_true ha,decide_eq_true (by omega)]
 ·have h2:=Int.tmod_nonneg b (show 0<=a by omega);rw[decide_eq_false ha,decide_eq_false (by omega)]
theorem aad(m:Nat)(a b:Int)(hb:b≠0):eO (m+1) a b=some (quS a b):=by
 have h0:decide (b=0)=false:=decide_eq_false hb;rw[eO];by_cases h1:b= -1
 ·subst h1;rw[show ((-1:Int)== -1)=true from rfl,cond_true,quS,Int.tmod_neg,Int.tmod_one];show _=some (w64 (Int.tdiv a (-1)));rw[Int.tdiv_neg,Int.tdiv_one];show some (w64 (0-a))=_;rw[Int.zero_sub]
 ·rw[show (b== -1)=false by simpa using h1,cond_false,h0,cond_false,cond_false,cond_false,quS];cases hc:(Int.tmod a b !=0);·simp only[cond_false,Bool.false_and,kQ];rfl
  ·have ht:Int.tmod a b≠0:=by simpa using hc
   rw[tmod_neg a b ht];simp only[cond_true,Bool.true_and,kQ];cases (!(decide (a<0)==decide (b<0)))<;>rfl
theorem Qq(m:Nat)(l:List Dt)(k:Int)(hl:l.length<9223372036854775807):∀(M i:Nat),i<=l.length->l.length-i<M->o8 m M l k (i:Int)=some ((l.drop i).all (isK k))
 |0,i,_,h=>by omega
 |M+1,i,hi,h=>by
  simp only[o8,dlt];by_cases hlt:i<l.length
  ·rw[iB hlt,List.all_cons];simp only[hlt,decide_true,cond_true,bE hlt,ah,bR (show i<9223372036854775807 by omega),Qq m l k hl M (i+1) (by omega) (by omega),isK];cases hc:(I l[i] 0==k);·rw[show (I l[i] 0 !=k)=true by rw[bne,hc];rfl];rfl
   ·rw[show (I l[i] 0 !=k)=false by rw[bne,hc];rfl];rfl
  ·rw[j4 hlt];simp only[hlt,decide_false,cond_false,List.all_nil]
theorem Qr(m:Nat)(l:List Dt)(k:Int)(hl:l.length<9223372036854775807)(hm:l.length<=m):iP (m+1) l k=some (l.all (isK k)):=by have:=Qq m l k hl (Nat.succ m) 0 (aC _) (by omega);simpa [iP]using this
theorem adw(m:Nat)(l:List Dt)(z:Dt)(hl:l.length<9223372036854775807):∀(M i:Nat)(n:Int),i<=l.length->l.length-i<M->iw (m+1) M n l (l.length:Int) (i:Int) z=some (kV 3 ((l.drop i).foldl (fun n d=>w64 (n+toInt d)) n))
 |0,i,_,_,h=>by omega
 |M+1,i,n,hi,h=>by
  simp only[iw,dlt];by_cases hlt:i<l.length
  ·rw[iB hlt,List.foldl_cons];simp only[hlt,decide_true,cond_true,dM,fD,iy,bE hlt,ah,bR (show i<9223372036854775807 by omega)];exact adw m l z hl M (i+1) _ (by omega) (by omega)
  ·rw[j4 hlt];simp only[hlt,decide_false,cond_false,dM,fD,iy,int_eq,ah,List.foldl_nil]
theorem al8(m:Nat)(l:List Dt)(z:Dt)(hl:l.length<9223372036854775807):∀(M i:Nat)(n:Int),i<=l.length->l.length-i<M->jo (m+1) M n l (l.length:Int) (i:Int) z=some (kV 3 ((l.drop i).foldl (fun n d=>w64 (n*toInt d)) n))
 |0,i,_,_,h=>by omega
 |M+1,i,n,hi,h=>by
  simp only[jo,dlt];by_cases hlt:i<l.length
  ·rw[iB hlt,List.foldl_cons];simp only[hlt,decide_true,cond_true,dM,fD,iy,bE hlt,ah,bR (show i<9223372036854775807 by omega)];exact al8 m l z hl M (i+1) _ (by omega) (by omega)
  ·rw[j4 hlt];simp only[hlt,decide_false,cond_false,dM,fD,iy,int_eq,ah,List.foldl_nil]
theorem ap9(m:Nat)(op:Int)(l:List Dt)(z:Dt)(hl:l.length<9223372036854775807):∀(M i:Nat),i<=l.length->l.length-i<M->
  jV (m+1) M op l (l.length:Int) (i:Int) z ((l.take i).map iD++List.replicate (l.length-i) (int 0))=bif (l.drop i).all (isK 3)then iy (m+1) op z (l.map iD)else some (kV 2 0)
 |0,i,_,h=>by omega
 |M+    1,i,hi,h=>by
  simp only[jV,dlt];by_cases hlt:i<l.length
  ·rw[iB hlt,List.all_cons];have hA:((l.take i).map iD).length=i:=by rw[List.length_map,List.length_take];omega
   have hR:List.replicate (l.length-i) (int 0)=int 0::List.replicate (l.length-(i+1)) (int 0):=by rw[show l.length-i=(l.length-(i+1))+1 by omega];rfl
   have hin:inL ((l.take i).map iD++List.replicate (l.length-i) (int 0)) (i:Int)=some ():=xq (by rw[aR,hA,List.length_replicate];omega);have hge:((l.take i).map iD++List.replicate (l.length-i) (int 0))[i]? =some (int 0):=by rw[hR,List.getElem?_append_right (by omega),hA,Nat.sub_self];rfl
   have hset:((l.take i).map iD++List.replicate (l.length-i) (int 0)).set i (int (I l[i] 1))=(l.take (i+1)).map iD++List.replicate (l.length-(i+1)) (int 0):=by have:=set_mid ((l.take i).map iD) (List.replicate (l.length-(i+1)) (int 0)) (int 0) (int (I l[i] 1));rw[hA]at this;rw[hR,this,List.take_succ_eq_append_getElem hlt,List.map_append,List.append_assoc];rfl
   simp only[hlt,decide_true,cond_true,bE hlt,ah,bR (show i<9223372036854775807 by omega),Int.toNat_natCast,hin,hge,hset,isK,Iz];cases hc:(I l[i] 0==3);·rw[show (I l[i] 0 !=3)=true by rw[bne,hc];rfl];rfl
   ·    rw[show (I l[i] 0 !=3)=false by rw[bne,hc];rfl,cond_false,Bool.true_and];exact ap9 m op l z hl M (i+1) (by omega) (by omega)
  ·have e:i=l.length:=by omega
   subst e;simp only[hlt,decide_false,cond_false,List.drop_length,List.all_nil,cond_true,Nat.sub_self,List.replicate_zero,List.append_nil,List.take_length]
def Dv(op:Int)(l:List Dt):Dt:=
 bif l.all (isK 3)then
    bif op==6 then kV 3 (l.foldl (fun n d=>w64 (n*I d 1)) 1)
    else bif op==4 then kV 3 (l.foldl (fun n d=>w64 (n+I d 1)) 0)
    else bif op==5 then kV 3 (w64 (I (l.getD 0 aj) 1-I (l.getD 1 aj) 1))
    else bif I (l.getD 1 aj) 1==0 then kV 2 0
    else bif op==8 then kV 3 (w64 (I (l.getD 0 aj) 1-w64 (I (l.getD 1 aj) 1*quS (I (l.getD 0 aj) 1) (I (l.getD 1 aj) 1))))
    else kV 3 (quS (I (l.getD 0 aj) 1) (I (l.getD 1 aj) 1))
 else kV 2 0
def aae(op:Int)(l:List Dt):Prop:=op=4∨op=6∨((op=5∨op=7∨op=8)∧∃a b,l=[a,b])
theorem afu(f:Int->Int->Int)(l:List Dt)(n:Int):(l.map iD).foldl (fun n d=>w64 (f n (toInt d))) n=l.foldl (fun n d=>w64 (f n (I d 1))) n:=by rw[List.foldl_map];rfl
theorem Dw(m:Nat)(op:Int)(l:List Dt)(hl:l.length<=137438953472)(hm:l.length<=m)(ho:aae op l):dO (m+2) op l=some (Dv op l):=by
 have h1:=ap9 m op l aj (by omega) (Nat.succ (m+1)) 0 (aC _) (by omega);rw[List.take_zero,aF,List.map_nil,List.nil_append,Nat.sub_zero,show ((0:Nat):Int)=0 from rfl]at h1;rw[dO,AZ hl,ah,h1,Dv];cases hk:l.all (isK 3);·rfl
 ·rw[   cond_true,cond_true];rcases ho with rfl|rfl| ⟨ho,a,b,rfl⟩
  ·have h2:=adw m (l.map iD) aj (by rw[List.length_map];omega) (Nat.succ (m+1)) 0 0 (aC _) (by rw[List.length_map];omega);rw[aF,afu (fun x y=>x+y)]at h2;exact h2
  ·have h2:=al8 m (l.map iD) aj (by rw[List.length_map];omega) (Nat.succ (m+1)) 0 1 (aC _) (by rw[List.length_map];omega);rw[aF,afu (fun x y=>x*y)]at h2;exact h2
  ·rcases ho with rfl|rfl|rfl
   ·    have h2:=adw m [iD a,int (w64 (0-I b 1))] aj (by simp) (Nat.succ (m+1)) 0 0 (aC _) (by simp at hm ⊢;omega);refine Eq.trans (show _=_ from rfl) (h2.trans ?_);show some (kV 3 (w64 (w64 (0+I a 1)+w64 (0-I b 1))))=some (kV 3 (w64 (I a 1-I b 1)));rw[show w64 (w64 (0+I a 1)+w64 (0-I b 1))=w64 (I a 1-I b 1) by simp only[as7];omega]
   ·    show fD (m+1) 7 aj [iD a,iD b]=some (bif I b 1==0 then kV 2 0 else kV 3 (quS (I a 1) (I b 1)));cases hb:(I b 1==0)
        ·have hb':I b 1≠0:=by simpa using hb
         show ((bif (I b 1==0)then _ else dM (m+1) 7 aj [iD a,iD b]):Option Dt)=_;rw[hb,cond_false];show ((iK (m+1) (I a 1) (I b 1)).bind _:Option Dt)=_;rw[aft m _ _ hb'];rfl
        ·show ((bif (I b 1==0)then some (kV 2 0)else dM (m+1) 7 aj [iD a,iD b]):Option Dt)=_;rw[hb];rfl
   ·    show fD (m+1) 8 aj [iD a,iD b]=some (bif I b 1==0 then kV 2 0 else kV 3 (w64 (I a 1-w64 (I b 1*quS (I a 1) (I b 1)))));cases hb:(I b 1==0)
        ·have hb':I b 1≠0:=by simpa using hb
         show ((bif (I b 1==0)then _ else dM (m+1) 8 aj [iD a,iD b]):Option Dt)=_;rw[hb,cond_false];show ((iK (m+1) (I a 1) (I b 1)).bind _:Option Dt)=_;rw[aft m _ _ hb'];rfl
        ·show ((bif (I b 1==0)then some (kV 2 0)else dM (m+1) 8 aj [iD a,iD b]):Option Dt)=_;rw[hb];rfl
theorem Xu(m:Nat)(op:Int)(l:List Dt)(z:Dt)(hl:l.length<9223372036854775807):∀(M i:Nat)(n:Int),i<=l.length->l.length-i<M->je (m+1) M op l n (i:Int) z=Bq (m+1) op l ((l.drop i).foldl (fun n d=>bif op==6 then w64 (n*I d 1)else w64 (n+I d 1)) n) z
 |0,i,_,_,h=>by omega
 |M+    1,i,n,hi,h=>by
  simp only[je,dlt];by_cases hlt:i<l.length
  ·rw[iB hlt,List.foldl_cons];simp only[hlt,decide_true,cond_true,bE hlt,ah,bR (show i<9223372036854775807 by omega)];cases h6:(op==6)
   ·    rw[cond_false,cond_false,Xu m op l z hl M (i+1) _ (by omega) (by omega),h6];rfl
   ·    rw[cond_true,cond_true,Xu m op l z hl M (i+1) _ (by omega) (by omega),h6];rfl
  ·rw[j4 hlt];simp only[hlt,decide_false,cond_false,List.foldl_nil]
theorem number_eq(m:Nat)(op:Int)(l:List Dt)(hl:l.length<=137438953472)(hm:l.length<=m)(ho:aae op l):fJ (m+2) op l=some (Dv op l):=by
 have hlp:=fun n=>Xu m op l aj (by omega) (Nat.succ (m+1)) 0 n (aC _) (by omega);simp only[aF,show ((0:Nat):Int)=0 from rfl]at hlp;rw[fJ,Qr m l 3 (by omega) hm,ah,Dv];cases hk:l.all (isK 3);·rfl
 ·rw[   cond_true,Bool.not_true,cond_false];rcases ho with rfl|rfl| ⟨ho,a,b,rfl⟩
  ·have:=hlp 0;exact this
  ·have:=hlp 1;exact this
  ·rcases ho with rfl|rfl|rfl
   ·    have:=hlp 0;exact this
   ·    show jf (m+1) 7 [a,b] (I b 1==0) aj=some (bif I b 1==0 then kV 2 0 else kV 3 (quS (I a 1) (I b 1)));cases hb:(I b 1==0)
        ·have hb':I b 1≠0:=by simpa using hb
         refine Eq.trans (show _=_ from hlp 0) ?_;show ((eO (m+1) (I a 1) (I b 1)).bind _:Option Dt)=_;rw[aad m _ _ hb'];rfl
        ·rfl
   ·    show jf (m+1) 8 [a,b] (I b 1==0) aj=some (bif I b 1==0 then kV 2 0 else kV 3 (w64 (I a 1-w64 (I b 1*quS (I a 1) (I b 1)))));cases hb:(I b 1==0)
        ·have hb':I b 1≠0:=by simpa using hb
         refine Eq.trans (show _=_ from hlp 0) ?_;show ((eO (m+1) (I a 1) (I b 1)).bind _:Option Dt)=_;rw[aad m _ _ hb'];rfl
        ·rfl
theorem UO{A:Type}(b:Bool)(x y:A):(bif b then some x else some y)=some (bif b then x else y):=by cases b<;>rfl
def bV(b:Bool):Dt:=kV 9 (bif b then 1 else 0)
def trB(d:Dt):Bool:=bif I d 0==0 then false else bif I d 0==2 then false else bif I d 0==9 then I d 1 !=0 else bif I d 0==3 then I d 1 !=0 else true
def orN(d:Dt):Dt:=bif I d 0==0 then kV 2 0 else d
theorem D6(m:Nat)(d:Dt):dV (m+1) d=some (trB d):=by
 rw[dV,trB];cases h0:(I d 0==0)
 ·rw[   cond_false,cond_false,rX];cases h2:(I d 0==2)
  ·rw[cond_false,cond_false];cases h9:(I d 0==9)
   ·    rw[cond_false,cond_false,rW];cases h3:(I d 0==3)<;>rfl
   ·rfl
  ·rfl
 ·rfl
theorem Nj(m:Nat)(d:Dt)(hk:0<=I d 0):fQ (m+1) d=some (trB d):=by
 rw[fQ,trB];by_cases h2:2<I d 0
 ·rw[decide_eq_true h2,cond_true,show (I d 0==0)=false by rw[beq_eq_false_iff_ne];omega,show (I d 0==2)=false by rw[beq_eq_false_iff_ne];omega,show (I d 0==1)=false by rw[beq_eq_false_iff_ne];omega,cond_false,cond_false];cases h9:(I d 0==9)
  ·rw[cond_false,cond_false];cases h3:(I d 0==3);·rfl
   ·cases h1:(I d 1==0)<;>simp[bne,h1]
  ·cases h1:(I d 1==0)<;>simp[bne,h1]
 ·rw[decide_eq_false h2,cond_false];have:I d 0=0∨I d 0=1∨I d 0=2:=by omega
  rcases this with h|h|h<;>rw[h]<;>rfl
theorem IC(m:Nat)(b:Bool):bP (m+1) b=some (bV b):=by cases b<;>rfl
theorem Dx(m:Nat)(b:Bool):bO (m+1) b=some (bV b):=by cases b<;>rfl
theorem adx(m:Nat)(d:Dt):gV (m+2) d=some (orN d):=by rw[gV,orN];cases (I d 0==0)<;>rfl
theorem afv(m:Nat)(d:Dt):nE (m+2) d=some (orN d):=by rw[nE,orN];cases (I d 0==0)<;>rfl
def zu(op c:Int):Dt:=
 bif op==10 then bV (c==0)else bif op==11 then bV (c !=0)else bif op==12 then bV (decide (0<c))else bif op==13 then bV (decide (0<=c))
 else bif op==14 then bV (decide (c<0))else bif op==15 then bV (decide (c<=0))else kV 3 c
theorem Bc(m:Nat)(op c:Int):jd (m+2) op c=some (zu op c):=by rw[jd,zu];simp only[IC,ah,int_eq,UO]
theorem xB(m:Nat)(op c:Int)(a b:Dt)(hc:bB (m+1) a b=some c):dS (m+2) op a b=some (zu op c):=by rw[dS,zu,hc,ah];simp only[Dx,ah,Xt,UO]
theorem afw(m:Nat)(op:Int)(l:List Dt)(z:Dt)(hl:l.length<9223372036854775807):∀(M i:Nat)(a o:Bool),i<=l.length->l.length-i<M->lJ (m+1) M op a o l (l.length:Int) (i:Int) z=some (bif op==16 then bV (a&&(l.drop i).all trB)else bV (o||(l.drop i).any trB))
 |0,i,_,_,_,h=>by omega
 |M+1,i,a,o,hi,h=>by
  simp only[lJ,dlt];by_cases hlt:i<l.length
  ·rw[iB hlt,List.all_cons,List.any_cons];simp only[hlt,decide_true,cond_true,uI,bE hlt,D6,ah,bR (show i<9223372036854775807 by omega),afw m op l z hl M (i+1) _ _ (by omega) (by omega)];cases a<;>cases o<;>cases trB l[i]<;>simp
  ·rw[j4 hlt];simp only[hlt,decide_false,cond_false,IC,ah,List.all_nil,List.any_nil,Bool.and_true,Bool.or_false];cases (op==16)<;>rfl
def aoS(op:Int)(l:List Dt):Dt:=bif op==16 then bV (l.all trB)else bV (l.any trB)
theorem aaf(m:Nat)(op:Int)(l:List Dt)(hl:l.length<9223372036854775807)(hm:l.length<=m)(ho:op=16∨op=17):gI (m+2) op l=some (aoS op l):=by have h:=afw m op l aj hl (Nat.succ (m+1)) 0 true false (aC _) (by omega);rw[aF,Bool.true_and,Bool.false_or]at h;rcases ho with rfl|rfl<;>exact h
theorem aag(m:Nat)(op:Int)(l:List Dt)(z:Dt)(hl:l.length<9223372036854775807)(hk:∀d∈l,0<=I d 0)(ho:op=16∨op=17):∀(M i:Nat),i<=l.length->l.length-i<M->oW (m+1) M op l (i:Int) z=some (aoS op (l.drop i))
 |0,i,_,h=>by omega
 |M+1,i,hi,h=>by
  simp only[oW,dlt];by_cases hlt:i<l.length
  ·have ih:=aag m op l z hl hk ho M (i+1) (by omega) (by omega);rw[iB hlt];simp only[hlt,decide_true,cond_true,bE hlt,Nj m _ (hk _ (aI hlt)),Dx,ah,bR (show i<9223372036854775807 by omega),ih];generalize l[i]=x;generalize l.drop (i+1)=r;rcases ho with rfl|rfl;·cases ht:trB x<;>simp[aoS,ht]
   ·cases ht:trB x<;>simp[aoS,ht]
  ·rw[j4 hlt];simp only[hlt,decide_false,cond_false,Dx,ah];rcases ho with rfl|rfl<;>rfl
theorem UQ(m:Nat)(op:Int)(l:List Dt)(hl:l.length<9223372036854775807)(hm:l.length<=m)(hk:∀d∈l,0<=I d 0)(ho:op=16∨op=17):mY (m+2) op l=some (aoS op l):=by have h:=aag m op l aj hl hk ho (Nat.succ (m+1)) 0 (aC _) (by omega);rw[aF]at h;exact h
theorem aho(m:Nat)(a:Dt):gI (m+2) 18 [a]=some (bV (!trB a)):=by show ((dV (m+1) a).bind _:Option Dt)=_;rw[D6,ah,IC];rfl
theorem al9(m:Nat)(a b c:Dt):gI (m+2) 19 [a,b,c]=some (bif trB a then b else c):=by show ((dV (m+1) a).bind _:Option Dt)=_;rw[D6,ah];cases trB a<;>rfl
theorem ahp(m:Nat)(a b:Dt):gI (m+3) 20 [a,b]=some (bif I (orN a) 0==2 then b else a):=by show ((gV (m+2) a).bind _:Option Dt)=_;rw[adx,ah];cases (I (orN a) 0==2)<;>rfl
end Go.Proofs.YtjibjkdalajaiaaGreatDoor
namespace Go.Proofs.YtjibjkdalajaiaaGreatDoor
open Go.Am
def bs(l:List UInt8):ByteArray:=⟨l.toArray⟩
theorem Xv(l:List UInt8):(bs l).size=l.length:=by show (List.toArray l).size=_;rw[List.size_toArray]
theorem ama(l r:List UInt8):bs l++bs r=bs (l++r):=by apply ByteArray.ext;rw[ByteArray.data_append];simp[bs]
theorem as8(y:Int):strOfNums [y]=bs [UInt8.ofNat y.toNat]:=rfl
theorem afx{a b:Nat}(h:a+b<=1152921504606846976):Nat.ble (a+b) 1152921504606846976=true:=Nat.ble_eq_true_of_le h
def ltI(up:Bool)(x:Int):Int:=bif up then(bif decide (97<=x)&&decide (x<=122)then x-32 else x)else(bif decide (65<=x)&&decide (x<=90)then x+32 else x)
theorem as9(up:Bool)(x:Int)(h0:0<=x)(h1:x<=255):ltI up x=shI (bif up then 97 else 65) (bif up then 65 else 97) x:=by
 unfold ltI shI;cases up
 ·simp only[cond_false];by_cases h:65<=x∧x<=90
  ·rw[decide_eq_true h.1,decide_eq_true h.2,if_pos (by omega)];show x+32=_;omega
  ·rw[if_neg (by omega)];have:(decide (65<=x)&&decide (x<=90))=false:=by simp;omega
   rw[this];rfl
 ·simp only[cond_true];by_cases h:97<=x∧x<=122
  ·rw[decide_eq_true h.1,decide_eq_true h.2,if_pos (by omega)];show x-32=_;omega
  ·rw[if_neg (by omega)];have:(decide (97<=x)&&decide (x<=122))=false:=by simp;omega
   rw[this];rfl
theorem amb(m:Nat)(rec1:ByteArray->Bool->ByteArray->Int->Option ByteArray)(s:ByteArray)(up:Bool)(acc:List UInt8)(i x:Int)(h0:0<=x)(h1:x<=255)(ha:acc.length<=1000000000000000)(hx:idxS s i=some x):
  tK m rec1 s up (bs acc) i=rec1 s up (bs (acc++[UInt8.ofNat (ltI up x).toNat])) (IntKind.wrap .i64 (i+1)):=by
 have fin:∀y,mF m rec1 s up (bs acc) i y=rec1 s up (bs (acc++[UInt8.ofNat y.toNat])) (IntKind.wrap .i64 (i+1)):=fun y=>by rw[mF,as8,afx (by rw[Xv,Xv];simp;omega),cond_true,ama]
 rw[tK,hx,ah];cases up
 ·rw[   cond_false];simp only[gu,iq,gq,cond_false,cond_true,Bool.not_false,fin,ltI];by_cases h65:65<=x
  ·by_cases h90:x<=90
   ·    rw[decide_eq_true h65,decide_eq_true h90,IntKind.wrap_u8,Int.emod_eq_of_lt (by omega) (by omega)];rfl
   ·    rw[decide_eq_true h65,decide_eq_false h90];rfl
  ·rw[decide_eq_false h65];rfl
 ·rw[   cond_true];by_cases h97:97<=x
  ·by_cases h122:x<=122
   ·    simp only[decide_eq_true h97,decide_eq_true h122,gu,iq,gq,cond_false,cond_true,Bool.not_true,fin,ltI,Bool.and_true];rw[IntKind.wrap_u8,Int.emod_eq_of_lt (by omega) (by omega)]
   ·simp only[decide_eq_true h97,decide_eq_false h122,gu,iq,gq,cond_false,cond_true,Bool.not_true,fin,ltI,Bool.and_false]
  ·simp only[decide_eq_false h97,gu,iq,gq,cond_false,cond_true,Bool.not_true,fin,ltI,Bool.false_and]
theorem aoX(x:UInt8):0<=(x.toNat:Int)∧(x.toNat:Int)<=255:=by have:=x.toNat_lt;omega
theorem aah(m:Nat)(s:ByteArray)(up:Bool)(hs:s.size<=1000000000000000):∀(M i:Nat)(acc:List UInt8),i<=s.size->acc.length<=i->s.size-i<M->
  jH m M s up (bs acc) (i:Int)=some (bs (acc++(s.data.toList.drop i).map (shB (bif up then 97 else 65) (bif up then 65 else 97))))
 |0,i,_,_,_,h=>by omega
 |M+1,i,acc,hi,ha,h=>by
  simp only[jH,dlt];by_cases hlt:i<s.size
  ·have hlt':i<s.data.toList.length:=by rw[ahc];exact hlt
   have hb:=aoX (s[i]);have e:s.data.toList[i]=s[i]:=rfl;rw[iB hlt',List.map_cons];simp only[hlt,decide_true,cond_true];rw[amb m _ s up acc _ _ hb.1 hb.2 (by omega) (qc hlt),bR (by omega),aah m s up hs M (i+1) _ (by omega) (by rw[aR];simp;omega) (by omega),List.append_assoc,as9 up _ hb.1 hb.2];rfl
  ·rw[j4 (by rw[ahc];exact hlt)];simp only[hlt,decide_false,cond_false,List.map_nil,List.append_nil]
theorem Qs(m:Nat)(s:ByteArray)(up:Bool)(hs:s.size<=1000000000000000)(hm:s.size<=m):gF (m+1) s up=some (shS s (bif up then 97 else 65) (bif up then 65 else 97)):=by have h:=aah m s up hs (Nat.succ m) 0 [] (aC _) (ay _) (by omega);rw[aF,List.nil_append]at h;exact h
def ady(s:ByteArray)(a n:Int):ByteArray:=s.extract (min a.toNat s.size) (min a.toNat s.size+min n.toNat (s.size-min a.toNat s.size))
def slS(a b c:Dt):Dt:=bif isK 4 a&&isK 3 b&&isK 3 c&&!decide (Dt.I b 1<0)&&!decide (Dt.I c 1<0)then Ai (ady (Dt.S a 2) (Dt.I b 1) (Dt.I c 1))else kV 2 0
end Go.Proofs.YtjibjkdalajaiaaGreatDoor
namespace Go.Proofs.YtjibjkdalajaiaaGreatDoor
open Go.Am Dt
theorem aoY(s:ByteArray)(A k:Nat)(h:A+k<=s.size):(s.extract A s.size).extract 0 k=s.extract A (A+k):=by rw[ByteArray.extract_extract,Nat.add_zero,Nat.min_eq_left (by omega)]
theorem ext_size(s:ByteArray)(A:Nat):(s.extract A s.size).size=s.size-A:=by rw[ByteArray.size_extract,Nat.min_self]
theorem avE(a b:Nat):(bif decide ((b:Int)<(a:Int))then(b:Int)else(a:Int))=((min a b:Nat):Int):=by
 by_cases h:(b:Int)<a;·rw[decide_eq_true h,cond_true,Nat.min_eq_right (by omega)]
 ·rw[decide_eq_false h,cond_false,Nat.min_eq_left (by omega)]
theorem adz(m:Nat)(s:ByteArray)(a n:Nat)(z b c:Dt)(hb:I b 1=a)(hc:I c 1=n):P1.expr_ofTexts_j9 (m+1) s z b c=some (Ai (ady s a n)):=by rw[P1.expr_ofTexts_j9,hb,hc,avE,Pm (Nat.min_le_right _ _) (ay _),ah,ext_size,avE];rw[show (0:Int)=((0:Nat):Int)from rfl,Pm (aC _) (by rw[ext_size];exact Nat.min_le_right _ _),ah,aoY _ _ _ (by omega)];rfl
theorem adA(m:Nat)(s:ByteArray)(a n:Nat)(x y z:Dt)(hs:s.size<=1000000000000000000)(hx:S x 2=s)(hb:I y 1=a)(w:Dt)(hc:I w 1=n):wI (m+1) x y w z=some (Ai (ady s a n)):=by
 have key:o7 (m+1) ((min a s.size:Nat):Int) x w z=some (Ai (ady s a n)):=by
  rw[o7,hx,hc,wrap64 (by omega) (by omega)];have hA:min a s.size<=s.size:=Nat.min_le_right _ _;have e:(s.size:Int)-((min a s.size:Nat):Int)=((s.size-min a s.size:Nat):Int):=by omega
  have fin:∀k:Nat,k=min n (s.size-min a s.size)->oZ (m+1) ((min a s.size:Nat):Int) (k:Int) x z=some (Ai (ady s a n)):=fun k hk=>by rw[oZ,hx,wrap64 (by omega) (by omega),show ((min a s.size:Nat):Int)+(k:Int)=((min a s.size+k:Nat):Int) by omega,Pm (by omega) (by omega),ah,hk];rfl
  rw[e];by_cases h:((s.size-min a s.size:Nat):Int)<(n:Int)
  ·rw[decide_eq_true h,cond_true];exact fin _ (by omega)
  ·rw[decide_eq_false h,cond_false];exact fin _ (by omega)
 rw[wI,hx,hb];by_cases h:(s.size:Int)<(a:Int)
 ·rw[decide_eq_true h,cond_true];rw[Nat.min_eq_right (by omega)]at key;exact key
 ·rw[decide_eq_false h,cond_false];rw[Nat.min_eq_left (by omega)]at key;exact key
theorem Qt{x:Int}(h:¬x<0):∃n:Nat,x=n:=⟨x.toNat,by omega⟩
theorem ahq(a b c:Dt):dU 25 [a,b,c]=some (slS a b c):=by
 show P1.expr_ofTexts_j5 99 25 [a,b,c] aj=_;show ((bif (I a 0 !=4)then some (kV 2 0)else P1.expr_ofTexts_j7 99 [a,b,c] (S a 2) aj):Option Dt)=_;unfold slS isK;cases h4:(I a 0==4);·rw[show (I a 0 !=4)=true by rw[bne,h4];rfl];rfl
 ·rw[   show (I a 0 !=4)=false by rw[bne,h4];rfl,cond_false,Bool.true_and];show ((bif (I b 0 !=3)then some (kV 2 0)else _):Option Dt)=_;cases h3:(I b 0==3);·rw[show (I b 0 !=3)=true by rw[bne,h3];rfl];rfl
  ·rw[   show (I b 0 !=3)=false by rw[bne,h3];rfl,cond_false,Bool.true_and];cases h33:(I c 0==3);·rw[show (I c 0 !=3)=true by rw[bne,h33];rfl];rfl
   ·    rw[show (I c 0 !=3)=false by rw[bne,h33];rfl,cond_false,Bool.true_and];by_cases hb:I b 1<0;·rw[decide_eq_true hb];rfl
        ·rw[decide_eq_false hb,cond_false,Bool.not_false,Bool.true_and];by_cases hc:I c 1<0;·rw[decide_eq_true hc];rfl
         · rw[decide_eq_false hc,Bool.not_false,cond_true];obtain⟨x,hx⟩:=Qt hb;obtain⟨y,hy⟩:=Qt hc;rw[hx,hy];exact adz 98 (S a 2) x y aj b c hx hy
theorem ahr(m:Nat)(a b c:Dt)(hs:(S a 2).size<=1000000000000000000):mZ (m+2) a b c=some (slS a b c):=by
 rw[mZ];unfold slS isK;cases h4:(I a 0==4);·rw[show (I a 0 !=4)=true by rw[bne,h4];rfl];rfl
 ·rw[   show (I a 0 !=4)=false by rw[bne,h4];rfl,cond_false,Bool.true_and];cases h3:(I b 0==3);·rw[show (I b 0 !=3)=true by rw[bne,h3];rfl];rfl
  ·rw[   show (I b 0 !=3)=false by rw[bne,h3];rfl,cond_false,Bool.true_and];cases h33:(I c 0==3);·rw[show (I c 0 !=3)=true by rw[bne,h33];rfl];rfl
   ·    rw[show (I c 0 !=3)=false by rw[bne,h33];rfl,cond_false,Bool.true_and];by_cases hb:I b 1<0;·rw[decide_eq_true hb];rfl
        ·rw[decide_eq_false hb,cond_false,Bool.not_false,Bool.true_and];by_cases hc:I c 1<0;·rw[decide_eq_true hc];rfl
         · rw[decide_eq_false hc,Bool.not_false,cond_true];obtain⟨x,hx⟩:=Qt hb;obtain⟨y,hy⟩:=Qt hc;rw[jS,cond_false,adA m (S a 2) x y a b aj hs rfl hx c hy,hx,hy]
def IE(op:Int)(a:Dt):Dt:=bif isK 4 a then(bif op==22 then Ai (shS (S a 2) 65 97)else bif op==23 then Ai (shS (S a 2) 97 65)else kV 3 ((S a 2).size:Int))else kV 2 0
theorem Xw(op:Int)(a:Dt)(ho:op=22∨op=23∨op=24):dU op [a]=some (IE op a):=by
 unfold IE isK;rcases ho with rfl|rfl|rfl<;>show ((bif (I a 0 !=4)then some (kV 2 0)else _):Option Dt)=_<;>cases h4:(I a 0==4);·rw[show (I a 0 !=4)=true by rw[bne,h4];rfl];rfl
 ·rw[show (I a 0 !=4)=false by rw[bne,h4];rfl];rfl
 ·rw[show (I a 0 !=4)=true by rw[bne,h4];rfl];rfl
 ·rw[show (I a 0 !=4)=false by rw[bne,h4];rfl];rfl
 ·rw[show (I a 0 !=4)=true by rw[bne,h4];rfl];rfl
 ·rw[show (I a 0 !=4)=false by rw[bne,h4];rfl];rfl
def Bd(l:List Dt):List Dt:=l.flatMap fun d=>L d 3
theorem vS(a:Dt)(l:List Dt):Bd (a::l)=L a 3++Bd l:=rfl
theorem aai(m:Nat)(op:Int)(ks l:List Dt)(z:Dt)(hl:l.length<9223372036854775807):∀(M i:Nat)(acc:List Dt),i<=l.length->l.length-i<M->acc.length+(Bd (l.drop i)).length<=137438953472->
  nR (m+1) M op ks l (l.length:Int) (i:Int) z acc=bif (l.drop i).all (isK 6)then u6 (m+1) op ks z (acc++Bd (l.drop i))else some (kV 2 0)
 |0,i,_,_,h,_=>by omega
 |M+1,i,acc,hi,h,hc=>by
  simp only[nR,dlt];by_cases hlt:i<l.length
  ·rw[iB hlt]at hc;rw[vS,aR]at hc;rw[iB hlt,List.all_cons,vS];simp only[hlt,decide_true,cond_true,bE hlt,ah,bR (show i<9223372036854775807 by omega),Iz,isK];cases hk:(I l[i] 0==6);·rw[show (I l[i] 0 !=6)=true by rw[bne,hk];rfl];rfl
   ·rw[show (I l[i] 0 !=6)=false by rw[bne,hk];rfl,cond_false,Bool.true_and,mU (by omega),ah,aai m op ks l z hl M (i+1) _ (by omega) (by omega) (by rw[aR];omega),List.append_assoc]
  ·rw[j4 hlt];simp only[hlt,decide_false,cond_false,List.all_nil,cond_true];rw[show Bd []=[]from rfl,List.append_nil]
theorem KY(m:Nat)(op:Int)(ks l:List Dt)(hl:l.length<9223372036854775807)(hm:l.length<=m)(hc:(Bd l).length<=137438953472):
  fu (m+1) op ks l aj=bif l.all (isK 6)then u6 (m+1) op ks aj (Bd l)else some (kV 2 0):=by
 have h:=aai m op ks l aj hl (Nat.succ (m+1)) 0 [] (aC _) (by omega) (by rw[aF];simpa using hc);rw[aF,List.nil_append]at h;exact h
def axa(l:List Dt):Int:=l.foldl (fun n d=>bif isK 3 d then w64 (n+I d 1)else n) 0
theorem Qu(m:Nat)(l:List Dt)(z:Dt)(hl:l.length<9223372036854775807):∀(M i:Nat)(n:Int),i<=l.length->l.length-i<M->jI (m+1) M n l (l.length:Int) (i:Int) z=some (kV 3 ((l.drop i).foldl (fun n d=>bif isK 3 d then w64 (n+I d 1)else n) n))
 |0,i,_,_,h=>by omega
 |M+    1,i,n,hi,h=>by
  simp only[jI,dlt];by_cases hlt:i<l.length
  ·rw[iB hlt,List.foldl_cons];simp only[hlt,decide_true,cond_true,bE hlt,ah,bR (show i<9223372036854775807 by omega),isK];cases hk:(I l[i] 0==3)
   ·    simp only[cond_false];exact Qu m l z hl M (i+1) _ (by omega) (by omega)
   ·    simp only[cond_true];exact Qu m l z hl M (i+1) _ (by omega) (by omega)
  ·rw[j4 hlt];simp only[hlt,decide_false,cond_false,int_eq,ah,List.foldl_nil]
def avG(l R:List Dt)(i:Nat):Prop:=R.length=l.length∧∀k(hk:k<l.length),R[k]? =if k<i∨l.length<=k+i then l[l.length-1-k]? else l[k]?
theorem aoZ{l R:List Dt}{i:Nat}(h:avG l R i)(hi:l.length<=2*i+1):R=l.reverse:=by
 apply List.ext_getElem?;intro k;by_cases hk:k<l.length
 ·rw[h.2 k hk,List.getElem?_reverse hk];by_cases hc:k<i∨l.length<=k+i;·rw[if_pos hc]
  ·rw[if_neg hc,show l.length-1-k=k by omega]
 ·rw[List.getElem?_eq_none (by have:=h.1;omega),List.getElem?_eq_none (by rw[List.length_reverse];omega)]
theorem aaj(m:Nat)(l:List Dt)(z:Dt)(hl:l.length<9223372036854775807):∀(M i:Nat)(R:List Dt),2*i<=l.length->l.length-i<M->avG l R i->kC m M (i:Int) ((l.length:Int)-1-i) z R=some (vN l.reverse)
 |0,i,_,_,h,_=>by omega
 |M+    1,i,R,hi,h,hR=>by
  rw[kC];by_cases hlt:(i:Int)<(l.length:Int)-1-i
  ·obtain⟨j,hj⟩:∃j:Nat,(l.length:Int)-1-i=j:=⟨l.length-1-i,by omega⟩;have hjl:j=l.length-1-i:=by omega
   have hil:i<R.length:=by have:=hR.1;omega
   have hjR:j<R.length:=by have:=hR.1;omega
   have gi:R[i]? =l[i]? :=by rw[hR.2 i (by omega),if_neg (by omega)]
   have gj:R[j]? =l[j]? :=by rw[hR.2 j (by omega),if_neg (by omega)]
   have li:l[i]? =some l[i]:=au (by omega);have lj:l[j]? =some l[j]:=au (by omega);have hjs:j<(R.set i l[j]).length:=by rw[List.length_set];exact hjR
   have gs:(R.set i l[j])[j]? =l[j]? :=by rw[List.getElem?_set_ne (by omega),gj]
   rw[decide_eq_true hlt,cond_true,hj];rw[xq hjR,ah,Int.toNat_natCast,gj,lj,ah,xq hil,ah,Int.toNat_natCast,gi,li,ah,ah,ah];rw[xq hjs,ah,gs,lj,ah,bR (by omega),wrap64 (by omega) (by omega)];have e2:(j:Int)-1=(l.length:Int)-1-((i+1:Nat):Int):=by omega
   rw[e2];refine aaj m l z hl M (i+1) _ (by omega) (by omega) ⟨by rw[List.length_set,List.length_set];exact hR.1,fun k hk=>?_⟩;by_cases h1:k=j
   ·    subst h1;rw[List.getElem?_set_self (by rw[List.length_set];omega),if_pos (by omega),show l.length-1-k=i by omega,li]
   ·    rw[List.getElem?_set_ne (by omega)];by_cases h2:k=i
        ·subst h2;rw[List.getElem?_set_self (by omega),if_pos (by omega),←hjl,lj]
        ·rw[List.getElem?_set_ne (by omega),hR.2 k hk];by_cases h3:k<i∨l.length<=k+i;·rw[if_pos h3,if_pos (by omega)]
         ·rw[if_neg h3,if_neg (by omega)]
  ·rw[decide_eq_false hlt,cond_false,p8,aoZ hR (by omega)];rfl
def aak(l:List Dt)(i:Dt):Dt:=bif isK 3 i then
    (bif decide ((bif decide (I i 1<0)then w64 (I i 1+(l.length:Int))else I i 1)<0)||decide ((l.length:Int)<=(bif decide (I i 1<0)then w64 (I i 1+(l.length:Int))else I i 1))then aj
    else l.getD (bif decide (I i 1<0)then w64 (I i 1+(l.length:Int))else I i 1).toNat aj)
 else kV 2 0
theorem aal{l:List Dt}{n:Int}(h0:¬n<0)(h1:¬(l.length:Int)<=n):idx l n=some (l.getD n.toNat aj):=by obtain⟨k,rfl⟩:=Qt h0;rw[bE (show k<l.length by omega),Int.toNat_natCast,List.getD_eq_getElem?_getD,au (by omega)];rfl
theorem amc(m:Nat)(l:List Dt)(n:Int)(z:Dt):nQ m l n z=some (bif decide (n<0)||decide ((l.length:Int)<=n)then aj else l.getD n.toNat aj):=by
 rw[nQ];by_cases h0:n<0;·rw[decide_eq_true h0];rfl
 ·rw[decide_eq_false h0,cond_false,Bool.false_or];by_cases h1:(l.length:Int)<=n;·rw[decide_eq_true h1];rfl
  ·rw[decide_eq_false h1,cond_false,qJ,cond_false,aal h0 h1];rfl
theorem ata(m:Nat)(l:List Dt)(i:Dt):kL (m+2) l i=some (aak l i):=by
 rw[kL,aak,isK,Iz];cases h3:(I i 0==3);·rw[show (I i 0 !=3)=true by rw[bne,h3];rfl];rfl
 ·rw[show (I i 0 !=3)=false by rw[bne,h3];rfl,cond_false,cond_true];cases decide (I i 1<0);·rw[cond_false,cond_false,amc]
  ·rw[cond_true,cond_true,amc];rfl
theorem afy(m:Nat)(d:Dt)(n:Int)(z:Dt):mG m n d z=some (bif decide (n<0)||decide (((L d 3).length:Int)<=n)then aj else(L d 3).getD n.toNat aj):=by
 rw[mG];by_cases h0:n<0;·rw[decide_eq_true h0];rfl
 ·rw[decide_eq_false h0,cond_false,Bool.false_or];by_cases h1:((L d 3).length:Int)<=n;·rw[decide_eq_true h1];rfl
  ·rw[decide_eq_false h1,cond_false,pX,cond_false,aal h0 h1];rfl
theorem ao0(m:Nat)(d i z:Dt)(h3:isK 3 i=true):tL m d i z=some (aak (L d 3) i):=by
 rw[tL,aak,h3,cond_true];cases decide (I i 1<0);·rw[cond_false,cond_false,afy]
 ·rw[cond_true,cond_true,afy];rfl
def aam(a:Dt):Dt:=bif isK 6 a then kV 3 ((L a 3).length:Int)else kV 2 0
def aan(a:Dt):Dt:=bif isK 6 a then vN (L a 3).reverse else kV 2 0
def aao(a:Dt):Dt:=bif isK 6 a then kV 3 (axa (L a 3))else kV 2 0
def aap(l:List Dt):Dt:=bif l.all (isK 6)then vN (Bd l)else kV 2 0
def aaq(a i:Dt):Dt:=bif isK 6 a then aak (L a 3) i else kV 2 0
def adB(q:Dt->Bool)(l:Dt):Dt:=bif isK 6 l then bV ((L l 3).any q)else kV 2 0
theorem qG(a:Dt):Bd [a]=L a 3:=by rw[vS];exact List.append_nil _
theorem IG(k:Int)(a:Dt):[a].all (isK k)=isK k a:=by rw[List.all_cons,List.all_nil,Bool.and_true]
theorem atb(m:Nat)(a:Dt)(h:(L a 3).length<=137438953472):dI (m+3) 26 [a]=some (aam a):=by show fu (m+2) 26 [a] [a] aj=_;rw[KY (m+1) 26 [a] [a] (by simp) (by simp) (by rw[qG];exact h),IG,qG,aam];cases isK 6 a<;>rfl
theorem rev_eq(m:Nat)(a:Dt)(h:(L a 3).length<=137438953472)(hm:(L a 3).length<=m):dI (m+3) 30 [a]=some (aan a):=by
 show fu (m+2) 30 [a] [a] aj=_;rw[KY (m+1) 30 [a] [a] (by simp) (by simp) (by rw[qG];exact h),IG,qG,aan];cases isK 6 a;·rfl
 ·rw[cond_true,cond_true];show kC (m+2) (Nat.succ (m+2)) 0 (IntKind.wrap .i64 (((L a 3).length:Int)-1)) aj (L a 3)=_;rw[wrap64 (by omega) (by omega)];have:=aaj (m+2) (L a 3) aj (by omega) (Nat.succ (m+2)) 0 (L a 3) (by omega) (by omega) ⟨rfl,fun k hk=>by rw[if_neg (by omega)]⟩;simpa using this
theorem atc(m:Nat)(a:Dt)(h:(L a 3).length<=137438953472)(hm:(L a 3).length<=m):dI (m+3) 31 [a]=some (aao a):=by
 show fu (m+2) 31 [a] [a] aj=_;rw[KY (m+1) 31 [a] [a] (by simp) (by simp) (by rw[qG];exact h),IG,qG,aao];cases isK 6 a;·rfl
 ·rw[cond_true,cond_true];have:=Qu (m+1) (L a 3) aj (by omega) (Nat.succ (m+2)) 0 0 (aC _) (by omega);rw[aF]at this;exact this
theorem atd(m:Nat)(l:List Dt)(hl:l.length<=m)(hl2:l.length<9223372036854775807)(h:(Bd l).length<=137438953472):dI (m+3) 29 l=some (aap l):=by show fu (m+2) 29 l l aj=_;rw[KY (m+1) 29 l l hl2 (by omega) h,aap];cases l.all (isK 6)<;>rfl
theorem ate(m:Nat)(a i:Dt)(h:(L a 3).length<=137438953472):dI (m+4) 27 [a,i]=some (aaq a i):=by
 show fu (m+3) 27 [a,i] [a] aj=_;rw[KY (m+2) 27 [a,i] [a] (by simp) (by simp) (by rw[qG];exact h),IG,qG,aaq];cases isK 6 a;·rfl
 ·rw[cond_true,cond_true];show ((kL (m+3) (L a 3) i).bind _:Option Dt)=_;rw[ata,ah]
theorem aar(m:Nat)(v w:Dt)(l:List Dt)(z:Dt)(q:Dt->Bool)(hl:l.length<9223372036854775807)(hq:∀x∈l,jE (m+1) x v=some (q x)):∀(M i:Nat),i<=l.length->l.length-i<M->mI (m+1) M [v,w] l (l.length:Int) (i:Int) z=some (bV ((l.drop i).any q))
 |0,i,_,h=>by omega
 |M+1,i,hi,h=>by
  simp only[mI,dlt];by_cases hlt:i<l.length
  ·have ih:=aar m v w l z q hl hq M (i+1) (by omega) (by omega);rw[iB hlt];simp only[hlt,decide_true,cond_true,bE hlt,aoV,hq _ (aI hlt),IC,ah,bR (show i<9223372036854775807 by omega),ih,List.any_cons];cases q l[i]<;>rfl
  ·rw[j4 hlt];simp only[hlt,decide_false,cond_false,IC,ah,List.any_nil]
theorem atf(m:Nat)(v a:Dt)(q:Dt->Bool)(h:(L a 3).length<=137438953472)(hm:(L a 3).length<=m)(hq:∀x∈L a 3,jE (m+2) x v=some (q x)):dI (m+3) 28 [v,a]=some (adB q a):=by
 show fu (m+2) 28 [v,a] [a] aj=_;rw[KY (m+1) 28 [v,a] [a] (by simp) (by simp) (by rw[qG];exact h),IG,qG,adB];cases isK 6 a;·rfl
 ·rw[cond_true,cond_true];have:=aar (m+1) v a (L a 3) aj q (by omega) hq (Nat.succ (m+2)) 0 (aC _) (by omega);rw[aF]at this;exact this
theorem UR(m:Nat)(v:Dt)(l:List Dt)(q:Dt->Bool)(hl:l.length<9223372036854775807)(hq:∀x∈l,jF m x v=some (q x)):∀(M i:Nat),i<=l.length->l.length-i<M->kR m M l (i:Int) v=some ((l.drop i).any q)
 |0,i,_,h=>by omega
 |M+1,i,hi,h=>by
  simp only[kR,dlt];by_cases hlt:i<l.length
  ·have ih:=UR m v l q hl hq M (i+1) (by omega) (by omega);rw[iB hlt];simp only[hlt,decide_true,cond_true,bE hlt,hq _ (aI hlt),ah,bR (show i<9223372036854775807 by omega),ih,List.any_cons];cases q l[i]<;>rfl
  ·rw[j4 hlt];simp only[hlt,decide_false,cond_false,List.any_nil]
theorem ao1(m:Nat)(v:Dt)(l:List Dt)(q:Dt->Bool)(hl:l.length<9223372036854775807)(hm:l.length<=m)(hq:∀x∈l,jF m x v=some (q x)):jW (m+1) l v=some (l.any q):=by have:=UR m v l q hl hq (Nat.succ m) 0 (aC _) (by omega);rw[aF]at this;exact this
theorem ao2(m:Nat)(a i:Dt):jD (m+2) a i=some (aaq a i):=by
 rw[jD,aaq,isK];cases h6:(I a 0==6);·rw[show (I a 0 !=6)=true by rw[bne,h6];rfl];rfl
 ·rw[show (I a 0 !=6)=false by rw[bne,h6];rfl,cond_false,cond_true];cases h3:isK 3 i;·rw[show (I i 0 !=3)=true by rw[isK]at h3;rw[bne,h3];rfl,aak,h3];rfl
  ·rw[show (I i 0 !=3)=false by rw[isK]at h3;rw[bne,h3];rfl,pY,cond_false,ao0 _ _ _ _ h3]
theorem UU(m:Nat)(l:List Dt)(z:Dt)(hl:l.length<9223372036854775807):∀(M i:Nat)(acc:List Dt),i<=l.length->l.length-i<M->acc.length+(Bd (l.drop i)).length<=137438953472->
  qz m M l (i:Int) z 6 0 (ByteArray.mk (List.toArray [])) acc []=some (vN (acc++Bd (l.drop i)))
 |0,i,_,_,h,_=>by omega
 |M+1,i,acc,hi,h,hc=>by
  simp only[qz,dlt];by_cases hlt:i<l.length
  ·rw[iB hlt]at hc;rw[vS,aR]at hc;rw[iB hlt,vS];simp only[hlt,decide_true,cond_true,bE hlt,ah,bR (show i<9223372036854775807 by omega)];rw[mU (by omega),ah,UU m l z hl M (i+1) _ (by omega) (by omega) (by rw[aR];omega),List.append_assoc]
  ·rw[j4 hlt];simp only[hlt,decide_false,cond_false];rw[show Bd []=[]from rfl,List.append_nil];rfl
theorem ao3(m:Nat)(l:List Dt)(hl:l.length<=m)(hl2:l.length<9223372036854775807)(h:(Bd l).length<=137438953472):o9 (m+2) l=some (aap l):=by
 rw[o9,Qr m l 6 hl2 hl,ah,aap,IB];cases l.all (isK 6);·rfl
 ·have:=UU (m+1) l aj hl2 (Nat.succ (m+1)) 0 [] (aC _) (by omega) (by rw[aF];simpa using h);rw[aF,List.nil_append]at this;exact this
theorem afz(m:Nat)(op:Int)(v z:Dt)(hl:(L v 3).length<=137438953472):∀(M i:Nat)(acc:List Dt)(n:Int),i<=(L v 3).length->acc.length<=i->(L v 3).length-i<M->
  lH (m+1) M op n (i:Int) v z 6 0 (ByteArray.mk (List.toArray [])) acc []=some (bif op==31 then kV 3 (((L v 3).drop i).foldl (fun n d=>bif isK 3 d then w64 (n+I d 1)else n) n)else vN (acc++(L v 3).reverse.drop i))
 |0,i,_,_,_,_,h=>by omega
 |M+    1,i,acc,n,hi,ha,h=>by
  simp only[lH,dlt];by_cases hlt:i<(L v 3).length
  ·have hr:i<(L v 3).reverse.length:=by rw[List.length_reverse];exact hlt
   have e1:IntKind.wrap .i64 (IntKind.wrap .i64 (((L v 3).length:Int)-1)-(i:Int))=(((L v 3).length-1-i:Nat):Int):=by rw[wrap64 (n:=((L v 3).length:Int)-1) (by omega) (by omega),wrap64 (by omega) (by omega)];omega
   have hj:(L v 3).length-1-i<(L v 3).length:=by omega
   have er:(L v 3).reverse[i]=(L v 3)[(L v 3).length-1-i]:=List.getElem_reverse hr;have hac:(acc++[(L v 3)[(L v 3).length-1-i]]).length<=i+1:=by rw[aR];simp;omega
   have ap:app acc [(L v 3)[(L v 3).length-1-i]]=some (acc++[(L v 3)[(L v 3).length-1-i]]):=mU (by simp;omega);have ih:=fun n=>afz m op v z hl M (i+1) (acc++[(L v 3)[(L v 3).length-1-i]]) n (by omega) hac (by omega);rw[iB hlt,iB hr,List.foldl_cons,er];simp only[hlt,decide_true,cond_true,uG,e1,bE hj,ap,bE hlt,ah,bR (show i<9223372036854775807 by omega),ih,isK,List.append_assoc,List.singleton_append];cases (I (L v 3)[i] 0==3)<;>rfl
  ·rw[j4 hlt,j4 (by rw[List.length_reverse];exact hlt),List.append_nil];simp only[hlt,decide_false,cond_false,Xt,ah,List.foldl_nil];cases (op==31)<;>rfl
def liS(op:Int)(a:Dt):Dt:=bif op==26 then aam a else bif op==31 then aao a else aan a
theorem Qv(m:Nat)(op:Int)(a:Dt)(h:(L a 3).length<=137438953472)(hm:(L a 3).length<=m)(ho:op=26∨op=30∨op=31):lI (m+2) op a=some (liS op a):=by
 have hlp:=afz m op a aj h (Nat.succ (m+1)) 0 [] 0 (aC _) (ay _) (by omega);rw[aF,aF,List.nil_append]at hlp;rw[lI,IB,liS,aam,aao,aan,isK];cases h6:(I a 0==6)
 ·rw[show (I a 0 !=6)=true by rw[bne,h6];rfl];rcases ho with rfl|rfl|rfl<;>rfl
 ·rw[show (I a 0 !=6)=false by rw[bne,h6];rfl];rcases ho with rfl|rfl|rfl;·rfl
  ·exact hlp
  ·exact hlp
def MR:Nat->List Dt->ByteArray->ByteArray
 |_,[],s=>s
 |n,d::l,s=>if s.size<=4096 then MR n l (s++S d 2)else s
theorem aas(m:Nat)(l:List Dt)(z:Dt)(hl:l.length<9223372036854775807)(hs:∀d∈l,(S d 2).size<=1000000000000000):∀(M i:Nat)(s:ByteArray),i<=l.length->l.length-i<M->nS (m+1) M l s (i:Int) z=some (Ai (MR 0 (l.drop i) s))
 |0,i,_,_,h=>by omega
 |M+    1,i,s,hi,h=>by
  simp only[nS,dlt];by_cases hlt:i<l.length
  ·rw[iB hlt,MR];simp only[hlt,decide_true,cond_true];by_cases h4:s.size<=4096
   ·    have:=hs _ (aI hlt);rw[decide_eq_true (by omega),cond_true,if_pos h4,bE hlt,ah,afx (by omega),cond_true,bR (by omega)];exact aas m l z hl hs M (i+1) _ (by omega) (by omega)
   ·    rw[decide_eq_false (by omega),cond_false,if_neg h4];rfl
  ·rw[j4 hlt];simp only[hlt,decide_false,cond_false,MR];rfl
def adC(l:List Dt):Dt:=bif l.all (isK 4)then Ai (MR 0 l (ByteArray.mk (List.toArray [])))else kV 2 0
theorem atg(m:Nat)(l:List Dt)(hl:l.length<9223372036854775807)(hm:l.length<=m)(hs:∀d∈l,(S d 2).size<=1000000000000000):kP (m+2) l=some (adC l):=by
 rw[kP,Qr m l 4 hl hm,ah,adC,IB];cases l.all (isK 4);·rfl
 ·have:=aas m l aj hl hs (Nat.succ (m+1)) 0 (ByteArray.mk (List.toArray [])) (aC _) (by omega);rw[aF]at this;exact this
def adD(l:List Dt):Dt:=bif l.all (isK 4)then Ai (bs (catB l))else kV 2 0
theorem ath(l:List Dt)(h:(catB l).length<=137438953472):dU 21 l=some (adD l):=by rw[dU,show ((21:Int)==21)=true from rfl,cond_true,Nat.ble_eq_true_of_le h,cond_true,adD];rfl
theorem afA:∀(l:List Dt)(s:ByteArray),MR 0 l s=s++bs (catB l)∨(4096<(MR 0 l s).size∧4096<(s++bs (catB l)).size)
 | [],s=> .inl (by rw[MR,show catB []=[]from rfl];exact(ByteArray.append_empty (b:=s)).symm)
 |d::l,s=>by
  rw[MR];have e:s++bs (catB (d::l))=(s++S d 2)++bs (catB l):=by rw[ByteArray.append_assoc];congr 1
  by_cases h4:s.size<=4096
  ·rw[if_pos h4,e];exact afA l _
  ·rw[if_neg h4];exact .inr ⟨by omega,by rw[ByteArray.size_append];omega⟩
def uW(l:List Dt):Dt:= .agg [.int 5,.int 0,.str (ByteArray.mk (List.toArray [])),.lst [],.lst l]
def Dy:List Dt->List Dt->List Dt
 |n::ns,k::ks=>bif nnB k then agg [.str (toStr n),k]::Dy ns ks else Dy ns ks
 |_,_=>[]
theorem afB(m:Nat)(l:List Dt)(z:Dt)(hl:l.length<=137438953472):∀(M i:Nat)(acc:List Dt),i<=l.length->acc.length<=i->l.length-i<M->
  jU (m+2) M l (l.length:Int) (i:Int) z 6 0 (ByteArray.mk (List.toArray [])) acc []=some (vN (acc++(l.drop i).map orN))
 |0,i,_,_,_,h=>by omega
 |M+1,i,acc,hi,ha,h=>by
  simp only[jU,dlt];by_cases hlt:i<l.length
  ·have hac:(acc++[orN l[i]]).length<=i+1:=by rw[aR];simp;omega
   have ap:app acc [orN l[i]]=some (acc++[orN l[i]]):=mU (by simp;omega);rw[iB hlt,List.map_cons];simp only[hlt,decide_true,cond_true,bE hlt,adx,ap,ah,bR (show i<9223372036854775807 by omega)];rw[afB m l z hl M (i+1) _ (by omega) hac (by omega),List.append_assoc];rfl
  ·rw[j4 hlt];simp only[hlt,decide_false,cond_false,List.map_nil,List.append_nil];rfl
theorem Xx(m:Nat)(l:List Dt)(e z:Dt)(hl:l.length<=137438953472)(hn:(L e 3).length=l.length):∀(M i:Nat)(acc:List Dt),i<=l.length->acc.length<=i->l.length-i<M->
  fT m M l (l.length:Int) (i:Int) e z 5 0 (ByteArray.mk (List.toArray [])) [] acc=some (uW (acc++Dy ((L e 3).drop i) (l.drop i)))
 |0,i,_,_,_,h=>by omega
 |M+    1,i,acc,hi,ha,h=>by
  simp only[fT,dlt];by_cases hlt:i<l.length
  ·have hln:i<(L e 3).length:=by omega
   have hac:(acc++[agg [str (toStr (L e 3)[i]),l[i]]]).length<=i+1:=by rw[aR];simp;omega
   have ap:app acc [agg [str (toStr (L e 3)[i]),l[i]]]=some (acc++[agg [str (toStr (L e 3)[i]),l[i]]]):=mU (by simp;omega);rw[iB hlt,iB hln,Dy];simp only[hlt,decide_true,cond_true,nI,bE hlt,bE hln,ap,ah,bR (show i<9223372036854775807 by omega),nnB];rcases Bool.eq_false_or_eq_true (I l[i] 0 !=0)with hc|hc
   ·    rw[hc,cond_true,cond_true,Xx m l e z hl hn M (i+1) _ (by omega) hac (by omega),List.append_assoc];rfl
   ·rw[hc,cond_false,cond_false,Xx m l e z hl hn M (i+1) _ (by omega) (by omega) (by omega)]
  ·rw[j4 hlt];have:Dy ((L e 3).drop i) []=[]:=by cases (L e 3).drop i<;>rfl
   simp only[hlt,decide_false,cond_false,this,List.append_nil];rfl
theorem amd(m:Nat)(e:Dt)(l:List Dt)(he:I e 0=35)(hl:l.length<=137438953472)(hm:l.length<=m):dY (m+3) e l=some (vN (l.map orN)):=by have h:=afB m l aj hl (Nat.succ (m+2)) 0 [] (aC _) (ay _) (by omega);rw[aF,List.nil_append]at h;rw[dY,he,show ((35:Int)==35)=true from rfl,cond_true];exact h
theorem ao4(m:Nat)(e:Dt)(l:List Dt)(he:I e 0=34)(hl:l.length<=137438953472)(hm:l.length<=m)(hn:(L e 3).length=l.length):dY (m+1) e l=some (uW (Dy (L e 3) l)):=by have h:=Xx m l e aj hl hn (Nat.succ m) 0 [] (aC _) (ay _) (by omega);rw[aF,aF,List.nil_append]at h;rw[dY,he,show ((34:Int)==35)=false from rfl,cond_false];exact h
theorem aat(m:Nat)(l:List Dt)(z:Dt)(hl:l.length<=137438953472):∀(M i:Nat)(acc:List Dt),i<=l.length->acc.length<=i->l.length-i<M->
  nT (m+2) M l (i:Int) z 6 0 (ByteArray.mk (List.toArray [])) acc []=some (vN (acc++(l.drop i).map orN))
 |0,i,_,_,_,h=>by omega
 |M+1,i,acc,hi,ha,h=>by
  simp only[nT,dlt];by_cases hlt:i<l.length
  ·have hac:(acc++[orN l[i]]).length<=i+1:=by rw[aR];simp;omega
   have ap:app acc [orN l[i]]=some (acc++[orN l[i]]):=mU (by simp;omega);rw[iB hlt,List.map_cons];simp only[hlt,decide_true,cond_true,bE hlt,afv,ap,ah,bR (show i<9223372036854775807 by omega)];rw[aat m l z hl M (i+1) _ (by omega) hac (by omega),List.append_assoc];rfl
  ·rw[j4 hlt];simp only[hlt,decide_false,cond_false,List.map_nil,List.append_nil];rfl
theorem Qw(m:Nat)(l:List Dt)(e z:Dt)(hl:l.length<=137438953472)(hn:(L e 3).length=l.length):∀(M i:Nat)(acc:List Dt),i<=l.length->acc.length<=i->l.length-i<M->
  jg m M l (i:Int) e z 5 0 (ByteArray.mk (List.toArray [])) [] acc=some (uW (acc++Dy ((L e 3).drop i) (l.drop i)))
 |0,i,_,_,_,h=>by omega
 |M+    1,i,acc,hi,ha,h=>by
  simp only[jg,dlt];by_cases hlt:i<l.length
  ·have hln:i<(L e 3).length:=by omega
   have hac:(acc++[agg [str (toStr (L e 3)[i]),l[i]]]).length<=i+1:=by rw[aR];simp;omega
   have ap:app acc [agg [str (toStr (L e 3)[i]),l[i]]]=some (acc++[agg [str (toStr (L e 3)[i]),l[i]]]):=mU (by simp;omega);rw[iB hlt,iB hln,Dy];simp only[hlt,decide_true,cond_true,qK,bE hlt,bE hln,ap,ah,bR (show i<9223372036854775807 by omega),nnB];rcases Bool.eq_false_or_eq_true (I l[i] 0 !=0)with hc|hc
   ·    rw[hc,cond_true,cond_true,Qw m l e z hl hn M (i+1) _ (by omega) hac (by omega),List.append_assoc];rfl
   ·rw[hc,cond_false,cond_false,Qw m l e z hl hn M (i+1) _ (by omega) (by omega) (by omega)]
  ·rw[j4 hlt];have:Dy ((L e 3).drop i) []=[]:=by cases (L e 3).drop i<;>rfl
   simp only[hlt,decide_false,cond_false,this,List.append_nil];rfl
section
variable(m:Nat)(s3 s25:Dt->Dt->Dt->Option Dt)(e z:Dt)
theorem axb(l:List Dt)(hl:l.length<=137438953472)(hm:l.length<=m)(he:I e 0=4):aK (m+5) s3 s25 e z l=some (Dv 4 l):=by rw[aK,he];show ((dO (m+5) (I e 0) l).bind _:Option Dt)=_;rw[he,Dw (m+3) 4 l hl (by omega) (.inl rfl)];rfl
theorem axc(l:List Dt)(hl:l.length<=137438953472)(hm:l.length<=m)(he:I e 0=6):aK (m+5) s3 s25 e z l=some (Dv 6 l):=by rw[aK,he];show ((dO (m+5) (I e 0) l).bind _:Option Dt)=_;rw[he,Dw (m+3) 6 l hl (by omega) (.inr (.inl rfl))];rfl
theorem axd(l:List Dt)(hl:l.length<=137438953472)(hm:l.length<=m)(ho:aae 5 l)(he:I e 0=5):aK (m+5) s3 s25 e z l=some (Dv 5 l):=by rw[aK,he];show ((dO (m+5) (I e 0) l).bind _:Option Dt)=_;rw[he,Dw (m+3) 5 l hl (by omega) ho];rfl
theorem axe(l:List Dt)(hl:l.length<=137438953472)(hm:l.length<=m)(ho:aae 7 l)(he:I e 0=7):aK (m+5) s3 s25 e z l=some (Dv 7 l):=by rw[aK,he];show ((dO (m+5) (I e 0) l).bind _:Option Dt)=_;rw[he,Dw (m+3) 7 l hl (by omega) ho];rfl
theorem axf(l:List Dt)(hl:l.length<=137438953472)(hm:l.length<=m)(ho:aae 8 l)(he:I e 0=8):aK (m+5) s3 s25 e z l=some (Dv 8 l):=by rw[aK,he];show ((dO (m+5) (I e 0) l).bind _:Option Dt)=_;rw[he,Dw (m+3) 8 l hl (by omega) ho];rfl
theorem axg(a b:Dt)(c:Int)(hc:bg (m+5) a b=some c)(he:I e 0=9):aK (m+5) s3 s25 e z [a,b]=some (zu 9 c):=by rw[aK,he];show ((bg (m+5) a b).bind _:Option Dt)=_;rw[hc,ah,he,Bc (m+3)];rfl
theorem avH(a b:Dt)(c:Int)(hc:bg (m+5) a b=some c)(he:I e 0=10):aK (m+5) s3 s25 e z [a,b]=some (zu 10 c):=by rw[aK,he];show ((bg (m+5) a b).bind _:Option Dt)=_;rw[hc,ah,he,Bc (m+3)];rfl
theorem avI(a b:Dt)(c:Int)(hc:bg (m+5) a b=some c)(he:I e 0=11):aK (m+5) s3 s25 e z [a,b]=some (zu 11 c):=by rw[aK,he];show ((bg (m+5) a b).bind _:Option Dt)=_;rw[hc,ah,he,Bc (m+3)];rfl
theorem avJ(a b:Dt)(c:Int)(hc:bg (m+5) a b=some c)(he:I e 0=12):aK (m+5) s3 s25 e z [a,b]=some (zu 12 c):=by rw[aK,he];show ((bg (m+5) a b).bind _:Option Dt)=_;rw[hc,ah,he,Bc (m+3)];rfl
theorem avK(a b:Dt)(c:Int)(hc:bg (m+5) a b=some c)(he:I e 0=13):aK (m+5) s3 s25 e z [a,b]=some (zu 13 c):=by rw[aK,he];show ((bg (m+5) a b).bind _:Option Dt)=_;rw[hc,ah,he,Bc (m+3)];rfl
theorem avL(a b:Dt)(c:Int)(hc:bg (m+5) a b=some c)(he:I e 0=14):aK (m+5) s3 s25 e z [a,b]=some (zu 14 c):=by rw[aK,he];show ((bg (m+5) a b).bind _:Option Dt)=_;rw[hc,ah,he,Bc (m+3)];rfl
theorem avM(a b:Dt)(c:Int)(hc:bg (m+5) a b=some c)(he:I e 0=15):aK (m+5) s3 s25 e z [a,b]=some (zu 15 c):=by rw[aK,he];show ((bg (m+5) a b).bind _:Option Dt)=_;rw[hc,ah,he,Bc (m+3)];rfl
theorem avN(l:List Dt)(hl:l.length<=137438953472)(hm:l.length<=m)(he:I e 0=16):aK (m+5) s3 s25 e z l=some (aoS 16 l):=by rw[aK,he];show ((gI (m+5) (I e 0) l).bind _:Option Dt)=_;rw[he,aaf (m+3) 16 l (by omega) (by omega) (.inl rfl)];rfl
theorem avO(l:List Dt)(hl:l.length<=137438953472)(hm:l.length<=m)(he:I e 0=17):aK (m+5) s3 s25 e z l=some (aoS 17 l):=by rw[aK,he];show ((gI (m+5) (I e 0) l).bind _:Option Dt)=_;rw[he,aaf (m+3) 17 l (by omega) (by omega) (.inr rfl)];rfl
theorem avP(a:Dt)(he:I e 0=18):aK (m+5) s3 s25 e z [a]=some (bV (!trB a)):=by rw[aK,he];show ((gI (m+5) (I e 0) [a]).bind _:Option Dt)=_;rw[he,aho (m+3)];rfl
theorem avQ(a b c:Dt)(he:I e 0=19):aK (m+5) s3 s25 e z [a,b,c]=some (bif trB a then b else c):=by rw[aK,he];show ((gI (m+5) (I e 0) [a,b,c]).bind _:Option Dt)=_;rw[he,al9 (m+3)];rfl
theorem avR(a b:Dt)(he:I e 0=20):aK (m+5) s3 s25 e z [a,b]=some (bif I (orN a) 0==2 then b else a):=by rw[aK,he];show ((gI (m+5) (I e 0) [a,b]).bind _:Option Dt)=_;rw[he,ahp (m+2)];rfl
theorem avS(l:List Dt)(h:(catB l).length<=137438953472)(he:I e 0=21):aK (m+5) s3 s25 e z l=some (adD l):=by rw[aK,he];show ((dU (I e 0) l).bind _:Option Dt)=_;rw[he,ath l h];rfl
theorem avT(a:Dt)(he:I e 0=22):aK (m+5) s3 s25 e z [a]=some (IE 22 a):=by rw[aK,he];show ((dU (I e 0) [a]).bind _:Option Dt)=_;rw[he,Xw 22 a (by simp)];rfl
theorem avU(a:Dt)(he:I e 0=23):aK (m+5) s3 s25 e z [a]=some (IE 23 a):=by rw[aK,he];show ((dU (I e 0) [a]).bind _:Option Dt)=_;rw[he,Xw 23 a (by simp)];rfl
theorem avV(a:Dt)(he:I e 0=24):aK (m+5) s3 s25 e z [a]=some (IE 24 a):=by rw[aK,he];show ((dU (I e 0) [a]).bind _:Option Dt)=_;rw[he,Xw 24 a (by simp)];rfl
theorem avW(a b c:Dt)(he:I e 0=25):aK (m+5) s3 s25 e z [a,b,c]=some (slS a b c):=by rw[aK,he];show ((dU (I e 0) [a,b,c]).bind _:Option Dt)=_;rw[he,ahq];rfl
theorem avX(a:Dt)(h:(L a 3).length<=137438953472)(he:I e 0=26):aK (m+5) s3 s25 e z [a]=some (aam a):=by rw[aK,he];show ((dI (m+5) (I e 0) [a]).bind _:Option Dt)=_;rw[he,atb (m+2) a h];rfl
theorem avY(a:Dt)(h:(L a 3).length<=137438953472)(hm:(L a 3).length<=m)(he:I e 0=30):aK (m+5) s3 s25 e z [a]=some (aan a):=by rw[aK,he];show ((dI (m+5) (I e 0) [a]).bind _:Option Dt)=_;rw[he,rev_eq (m+2) a h (by omega)];rfl
theorem avZ(a:Dt)(h:(L a 3).length<=137438953472)(hm:(L a 3).length<=m)(he:I e 0=31):aK (m+5) s3 s25 e z [a]=some (aao a):=by rw[aK,he];show ((dI (m+5) (I e 0) [a]).bind _:Option Dt)=_;rw[he,atc (m+2) a h (by omega)];rfl
theorem av0(l:List Dt)(hl:l.length<=m)(hl2:l.length<=137438953472)(h:(Bd l).length<=137438953472)(he:I e 0=29):aK (m+5) s3 s25 e z l=some (aap l):=by rw[aK,he];show ((dI (m+5) (I e 0) l).bind _:Option Dt)=_;rw[he,atd (m+2) l (by omega) (by omega) h];rfl
theorem av1(a b:Dt)(h:(L a 3).length<=137438953472)(he:I e 0=27):aK (m+5) s3 s25 e z [a,b]=some (aaq a b):=by rw[aK,he];show ((dI (m+5) (I e 0) [a,b]).bind _:Option Dt)=_;rw[he,ate (m+1) a b h];rfl
theorem av2(v a:Dt)(q:Dt->Bool)(h:(L a 3).length<=137438953472)(hm:(L a 3).length<=m)(hq:∀x∈L a 3,jE (m+4) x v=some (q x))(he:I e 0=28):aK (m+5) s3 s25 e z [v,a]=some (adB q a):=by rw[aK,he];show ((dI (m+5) (I e 0) [v,a]).bind _:Option Dt)=_;rw[he,atf (m+2) v a q h (by omega) hq];rfl
theorem av3(a:Dt)(he:I e 0=36):aK (m+5) s3 s25 e z [a]=some (kV 3 (I a 0)):=by rw[aK,he];show ((bM (m+5) (I a 0)).bind _:Option Dt)=_;rw[int_eq];rfl
theorem av4(l:List Dt)(r:Dt)(h:pG (m+5) l=some r)(he:I e 0=37):aK (m+5) s3 s25 e z l=some (r):=by rw[aK,he];show ((pG (m+5) l).bind _:Option Dt)=_;rw[h];rfl
theorem av5(l:List Dt)(hl:l.length<=137438953472)(hm:l.length<=m)(he:I e 0=35):aK (m+5) s3 s25 e z l=some (vN (l.map orN)):=by rw[aK,he];show ((dY (m+5) e l).bind _:Option Dt)=_;rw[amd (m+2) e l he hl (by omega)];rfl
theorem av6(l:List Dt)(hl:l.length<=137438953472)(hm:l.length<=m)(hn:(L e 3).length=l.length)(he:I e 0=34):aK (m+5) s3 s25 e z l=some (uW (Dy (L e 3) l)):=by rw[aK,he];show ((dY (m+5) e l).bind _:Option Dt)=_;rw[ao4 (m+4) e l he hl (by omega) hn];rfl
end
section
variable(m:Nat)(e:Dt)
theorem axh(l:List Dt)(hl:l.length<=137438953472)(hm:l.length<=m)(he:I e 0=4):aV (m+6) e l=some (Dv 4 l):=by rw[aV,he];show ((fJ (m+5) (I e 0) l).bind _:Option Dt)=_;rw[he,number_eq (m+3) 4 l hl (by omega) (.inl rfl)];rfl
theorem axi(l:List Dt)(hl:l.length<=137438953472)(hm:l.length<=m)(he:I e 0=6):aV (m+6) e l=some (Dv 6 l):=by rw[aV,he];show ((fJ (m+5) (I e 0) l).bind _:Option Dt)=_;rw[he,number_eq (m+3) 6 l hl (by omega) (.inr (.inl rfl))];rfl
theorem axj(a b:Dt)(he:I e 0=5):aV (m+6) e [a,b]=some (Dv 5 [a,b]):=by rw[aV,he];show ((fJ (m+5) (I e 0) [a,b]).bind _:Option Dt)=_;rw[he,number_eq (m+3) 5 [a,b] (by simp) (by simp) (.inr (.inr ⟨.inl rfl,a,b,rfl⟩))];rfl
theorem axk(a b:Dt)(he:I e 0=7):aV (m+6) e [a,b]=some (Dv 7 [a,b]):=by rw[aV,he];show ((fJ (m+5) (I e 0) [a,b]).bind _:Option Dt)=_;rw[he,number_eq (m+3) 7 [a,b] (by simp) (by simp) (.inr (.inr ⟨.inr (.inl rfl),a,b,rfl⟩))];rfl
theorem axl(a b:Dt)(he:I e 0=8):aV (m+6) e [a,b]=some (Dv 8 [a,b]):=by rw[aV,he];show ((fJ (m+5) (I e 0) [a,b]).bind _:Option Dt)=_;rw[he,number_eq (m+3) 8 [a,b] (by simp) (by simp) (.inr (.inr ⟨.inr (.inr rfl),a,b,rfl⟩))];rfl
theorem axm(a b:Dt)(c:Int)(hc:bB (m+4) a b=some c)(he:I e 0=9):aV (m+6) e [a,b]=some (zu 9 c):=by rw[aV,he];show ((dS (m+5) (I e 0) a b).bind _:Option Dt)=_;rw[he,xB (m+3) 9 c a b hc];rfl
theorem av7(a b:Dt)(c:Int)(hc:bB (m+4) a b=some c)(he:I e 0=10):aV (m+6) e [a,b]=some (zu 10 c):=by rw[aV,he];show ((dS (m+5) (I e 0) a b).bind _:Option Dt)=_;rw[he,xB (m+3) 10 c a b hc];rfl
theorem av8(a b:Dt)(c:Int)(hc:bB (m+4) a b=some c)(he:I e 0=11):aV (m+6) e [a,b]=some (zu 11 c):=by rw[aV,he];show ((dS (m+5) (I e 0) a b).bind _:Option Dt)=_;rw[he,xB (m+3) 11 c a b hc];rfl
theorem av9(a b:Dt)(c:Int)(hc:bB (m+4) a b=some c)(he:I e 0=12):aV (m+6) e [a,b]=some (zu 12 c):=by rw[aV,he];show ((dS (m+5) (I e 0) a b).bind _:Option Dt)=_;rw[he,xB (m+3) 12 c a b hc];rfl
theorem awc(a b:Dt)(c:Int)(hc:bB (m+4) a b=some c)(he:I e 0=13):aV (m+6) e [a,b]=some (zu 13 c):=by rw[aV,he];show ((dS (m+5) (I e 0) a b).bind _:Option Dt)=_;rw[he,xB (m+3) 13 c a b hc];rfl
theorem awd(a b:Dt)(c:Int)(hc:bB (m+4) a b=some c)(he:I e 0=14):aV (m+6) e [a,b]=some (zu 14 c):=by rw[aV,he];show ((dS (m+5) (I e 0) a b).bind _:Option Dt)=_;rw[he,xB (m+3) 14 c a b hc];rfl
theorem awe(a b:Dt)(c:Int)(hc:bB (m+4) a b=some c)(he:I e 0=15):aV (m+6) e [a,b]=some (zu 15 c):=by rw[aV,he];show ((dS (m+5) (I e 0) a b).bind _:Option Dt)=_;rw[he,xB (m+3) 15 c a b hc];rfl
theorem awf(l:List Dt)(hl:l.length<=137438953472)(hm:l.length<=m)(hk:∀d∈l,0<=I d 0)(he:I e 0=16):aV (m+6) e l=some (aoS 16 l):=by rw[aV,he];show ((mY (m+5) (I e 0) l).bind _:Option Dt)=_;rw[he,UQ (m+3) 16 l (by omega) (by omega) hk (.inl rfl)];rfl
theorem awg(l:List Dt)(hl:l.length<=137438953472)(hm:l.length<=m)(hk:∀d∈l,0<=I d 0)(he:I e 0=17):aV (m+6) e l=some (aoS 17 l):=by rw[aV,he];show ((mY (m+5) (I e 0) l).bind _:Option Dt)=_;rw[he,UQ (m+3) 17 l (by omega) (by omega) hk (.inr rfl)];rfl
theorem awh(a:Dt)(hk:0<=I a 0)(he:I e 0=18):aV (m+6) e [a]=some (bV (!trB a)):=by rw[aV,he];show ((fQ (m+5) a).bind _:Option Dt)=_;rw[Nj (m+4) a hk,ah,Dx];rfl
theorem awi(a b c:Dt)(hk:0<=I a 0)(he:I e 0=19):aV (m+6) e [a,b,c]=some (bif trB a then b else c):=by rw[aV,he];show ((fQ (m+5) a).bind _:Option Dt)=_;rw[Nj (m+4) a hk,ah];cases trB a<;>rfl
theorem awj(a b:Dt)(he:I e 0=20):aV (m+6) e [a,b]=some (bif I (orN a) 0==2 then b else a):=by
 rw[aV,he];show ((bif I a 0==0 then some b else rZ (m+5) [a,b] (I a 0==2) aj):Option Dt)=_;rw[orN];cases h0:(I a 0==0)
 ·rw[cond_false,cond_false];cases (I a 0==2)<;>rfl
 ·rfl
theorem awk(l:List Dt)(hl:l.length<=137438953472)(hm:l.length<=m)(hs:∀d∈l,(S d 2).size<=1000000000000000)(he:I e 0=21):aV (m+6) e l=some (adC l):=by rw[aV,he];show ((kP (m+5) l).bind _:Option Dt)=_;rw[atg (m+3) l (by omega) (by omega) hs];rfl
theorem awl(a:Dt)(hs:(S a 2).size<=1000000000000000)(hm:(S a 2).size<=m)(he:I e 0=22):aV (m+6) e [a]=some (IE 22 a):=by
 rw[aV,he];show ((bif I a 0 !=4 then some (kV 2 0)else jX (m+5) [a] e aj):Option Dt)=_;rw[IE,isK];cases h4:(I a 0==4);·rw[show (I a 0 !=4)=true by rw[bne,h4];rfl];rfl
 ·rw[show (I a 0 !=4)=false by rw[bne,h4];rfl,cond_false,cond_true,jX,he];first|(show ((gF (m+5) (S a 2) (I e 0==23)).bind _:Option Dt)=_;rw[he])|show ((gF (m+5) (S a 2) ((22:Int)==23)).bind _:Option Dt)=_
  rw[show ((22:Int)==23)=false from rfl,Qs (m+4) (S a 2) false hs (by omega)];rfl
theorem awm(a:Dt)(hs:(S a 2).size<=1000000000000000)(hm:(S a 2).size<=m)(he:I e 0=23):aV (m+6) e [a]=some (IE 23 a):=by
 rw[aV,he];show ((bif I a 0 !=4 then some (kV 2 0)else jX (m+5) [a] e aj):Option Dt)=_;rw[IE,isK];cases h4:(I a 0==4);·rw[show (I a 0 !=4)=true by rw[bne,h4];rfl];rfl
 ·rw[show (I a 0 !=4)=false by rw[bne,h4];rfl,cond_false,cond_true,jX,he];first|(show ((gF (m+5) (S a 2) (I e 0==23)).bind _:Option Dt)=_;rw[he])|show ((gF (m+5) (S a 2) ((23:Int)==23)).bind _:Option Dt)=_
  rw[show ((23:Int)==23)=true from rfl,Qs (m+4) (S a 2) true hs (by omega)];rfl
theorem awn(a:Dt)(he:I e 0=24):aV (m+6) e [a]=some (IE 24 a):=by
 rw[aV,he];show ((bif I a 0 !=4 then some (kV 2 0)else jX (m+5) [a] e aj):Option Dt)=_;rw[IE,isK];cases h4:(I a 0==4);·rw[show (I a 0 !=4)=true by rw[bne,h4];rfl];rfl
 ·rw[show (I a 0 !=4)=false by rw[bne,h4];rfl,cond_false,cond_true,jX,he];rfl
theorem awo(a b c:Dt)(hs:(S a 2).size<=1000000000000000000)(he:I e 0=25):aV (m+6) e [a,b,c]=some (slS a b c):=by rw[aV,he];show ((mZ (m+5) a b c).bind _:Option Dt)=_;rw[ahr (m+3) a b c hs];rfl
theorem awp(a:Dt)(h:(L a 3).length<=137438953472)(hm:(L a 3).length<=m)(he:I e 0=26):aV (m+6) e [a]=some (aam a):=by rw[aV,he];show ((lI (m+5) (I e 0) a).bind _:Option Dt)=_;rw[he,Qv (m+3) 26 a h (by omega) (.inl rfl)];rfl
theorem awq(a:Dt)(h:(L a 3).length<=137438953472)(hm:(L a 3).length<=m)(he:I e 0=30):aV (m+6) e [a]=some (aan a):=by rw[aV,he];show ((lI (m+5) (I e 0) a).bind _:Option Dt)=_;rw[he,Qv (m+3) 30 a h (by omega) (.inr (.inl rfl))];rfl
theorem awr(a:Dt)(h:(L a 3).length<=137438953472)(hm:(L a 3).length<=m)(he:I e 0=31):aV (m+6) e [a]=some (aao a):=by rw[aV,he];show ((lI (m+5) (I e 0) a).bind _:Option Dt)=_;rw[he,Qv (m+3) 31 a h (by omega) (.inr (.inr rfl))];rfl
theorem aws(a b:Dt)(he:I e 0=27):aV (m+6) e [a,b]=some (aaq a b):=by rw[aV,he];show ((jD (m+5) a b).bind _:Option Dt)=_;rw[ao2 (m+3)];rfl
theorem awt(v a:Dt)(q:Dt->Bool)(h:(L a 3).length<=137438953472)(hm:(L a 3).length<=m)(hq:∀x∈L a 3,jF (m+4) x v=some (q x))(he:I e 0=28):aV (m+6) e [v,a]=some (adB q a):=by
 rw[aV,he];show ((bif I a 0 !=6 then some (kV 2 0)else CP (m+5) [v,a] aj):Option Dt)=_;rw[adB,isK];cases h6:(I a 0==6);·rw[show (I a 0 !=6)=true by rw[bne,h6];rfl];rfl
 ·rw[show (I a 0 !=6)=false by rw[bne,h6];rfl,cond_false,cond_true];show ((jW (m+5) (L a 3) v).bind _:Option Dt)=_;rw[ao1 (m+4) v (L a 3) q (by omega) (by omega) hq,ah,Dx];rfl
theorem awu(l:List Dt)(hl:l.length<=m)(hl2:l.length<=137438953472)(h:(Bd l).length<=137438953472)(he:I e 0=29):aV (m+6) e l=some (aap l):=by rw[aV,he];show ((o9 (m+5) l).bind _:Option Dt)=_;rw[ao3 (m+3) l (by omega) (by omega) h];rfl
theorem awv(a:Dt)(he:I e 0=36):aV (m+6) e [a]=some (kV 3 (I a 0)):=by rw[aV,he];show ((dP (m+5) (I a 0)).bind _:Option Dt)=_;rw[Xt];rfl
theorem aww(l:List Dt)(r:Dt)(h:nu (m+5) l=some r)(he:I e 0=37):aV (m+6) e l=some (r):=by rw[aV,he];show ((nu (m+5) l).bind _:Option Dt)=_;rw[h];rfl
theorem awx(l:List Dt)(hl:l.length<=137438953472)(hm:l.length<=m)(he:I e 0=35):aV (m+6) e l=some (vN (l.map orN)):=by have h:=aat (m+3) l aj hl (Nat.succ (m+5)) 0 [] (aC _) (ay _) (by omega);rw[aF,List.nil_append]at h;rw[aV,he];exact h
theorem awy(l:List Dt)(hl:l.length<=137438953472)(hm:l.length<=m)(hn:(L e 3).length=l.length)(he:I e 0=34):aV (m+6) e l=some (uW (Dy (L e 3) l)):=by have h:=Qw (m+5) l e aj hl hn (Nat.succ (m+5)) 0 [] (aC _) (ay _) (by omega);rw[aF,aF,List.nil_append]at h;rw[aV,he];exact h
end
def scD:List (ByteArray×Dt)->Dt
 | []=> .lst []
 |p::r=> .lst [.agg [.str p.1,p.2,scD r]]
def bnD(p:ByteArray×Dt):Dt:= .agg [.str p.1,p.2]
def bnL(l:List (ByteArray×Dt)):List Dt:=l.reverse.map bnD
def Qx(h:Dt->Dt)(s:ByteArray):List (ByteArray×Dt)->Dt
 | []=>aj
 |p::r=>bif ByteArray.toList p.1==ByteArray.toList s then h p.2 else Qx h s r
theorem aau(m:Nat)(s3 s25:Dt->Dt->Dt->Option Dt)(e z:Dt)(h:Dt->Dt):∀(env:List (ByteArray×Dt))(M:Nat),env.length<M->(∀p∈env,bU m p.2 (L e 1)=some (h p.2))->nU m s3 s25 M (scD env) e z=some (Qx h (S e 2) env)
 |_,0,hM,_=>by omega
 | [],M+1,_,_=>rfl
 |p::r,M+1,hM,hv=>by have ih:=aau m s3 s25 e z h r M (by simp at hM;omega) fun q hq=>hv q (aT _ hq);show ((bif (ByteArray.toList p.1==ByteArray.toList (S e 2))then((bU m p.2 (L e 1)).bind fun r3=>some r3)else nU m s3 s25 M (scD r) e z):Option Dt)=_;rw[hv p (aO ..),ih,Qx];cases (ByteArray.toList p.1==ByteArray.toList (S e 2))<;>rfl
theorem KZ(m:Nat)(s6 s16:Dt->Dt->List Dt->Option Dt)(e z:Dt)(h:Dt->Dt)(l:List Dt)(hl:l.length<9223372036854775807)(hv:∀b∈l,gW m (fld b 1) (L e 1)=some (h (fld b 1))):∀(M i:Nat)(c:Dt),i<=l.length->l.length-i<M->
  ou m s6 s16 M l (i:Int) e z c=fG m s6 s16 z ((l.drop i).foldl (fun c b=>bif ByteArray.toList (S b 0)==ByteArray.toList (S e 2)then h (fld b 1)else c) c)
 |0,i,_,_,hM=>by omega
 |M+    1,i,c,hi,hM=>by
  simp only[ou,dlt];by_cases hlt:i<l.length
  ·rw[iB hlt,List.foldl_cons];simp only[hlt,decide_true,cond_true,bE hlt,hv _ (aI hlt),ah,bR (show i<9223372036854775807 by omega)];cases (ByteArray.toList (S l[i] 0)==ByteArray.toList (S e 2))
   ·    simp only[cond_false];exact KZ m s6 s16 e z h l hl hv M (i+1) _ (by omega) (by omega)
   ·    simp only[cond_true];exact KZ m s6 s16 e z h l hl hv M (i+1) _ (by omega) (by omega)
  ·rw[j4 hlt];simp only[hlt,decide_false,cond_false,List.foldl_nil]
theorem aav(h:Dt->Dt)(s:ByteArray):∀(env:List (ByteArray×Dt)),(bnL env).foldl (fun c b=>bif ByteArray.toList (S b 0)==ByteArray.toList s then h (fld b 1)else c) aj=Qx h s env
 | []=>rfl
 |p::r=>by rw[bnL,List.reverse_cons,List.map_append,List.foldl_append,Qx];show (bif ByteArray.toList p.1==ByteArray.toList s then h p.2 else _)=_;have:=aav h s r;rw[bnL]at this;rw[this]
theorem aaw(m:Nat)(s3 s25:Dt->Dt->Dt->Option Dt)(vs e doc z:Dt)(l:List Dt)(g:Dt->Dt)(hl:l.length<9223372036854775807)(hs:∀k∈l,s3 k doc vs=some (g k)):∀(M i:Nat),i<=l.length->l.length-i<M->
  nV m s3 s25 M vs l (l.length:Int) (i:Int) e doc z ((l.take i).map g++List.replicate (l.length-i) aj)=aK m s3 s25 e z (l.map g)
 |0,i,_,hM=>by omega
 |M+    1,i,hi,hM=>by
  simp only[nV,dlt];by_cases hlt:i<l.length
  ·have hA:((l.take i).map g).length=i:=by rw[List.length_map,List.length_take];omega
   have hR:List.replicate (l.length-i) aj=aj::List.replicate (l.length-(i+1)) aj:=by rw[show l.length-i=(l.length-(i+1))+1 by omega];rfl
   have hin:inL ((l.take i).map g++List.replicate (l.length-i) aj) (i:Int)=some ():=xq (by rw[aR,hA,List.length_replicate];omega);have hge:((l.take i).map g++List.replicate (l.length-i) aj)[i]? =some aj:=by rw[hR,List.getElem?_append_right (by omega),hA,Nat.sub_self];rfl
   have hset:((l.take i).map g++List.replicate (l.length-i) aj).set i (g l[i])=(l.take (i+1)).map g++List.replicate (l.length-(i+1)) aj:=by have:=set_mid ((l.take i).map g) (List.replicate (l.length-(i+1)) aj) aj (g l[i]);rw[hA]at this;rw[hR,this,List.take_succ_eq_append_getElem hlt,List.map_append,List.append_assoc];rfl
   simp only[hlt,decide_true,cond_true,bE hlt,hs _ (aI hlt),ah,bR (show i<9223372036854775807 by omega),Int.toNat_natCast,hin,hge,hset];exact aaw m s3 s25 vs e doc z l g hl hs M (i+1) (by omega) (by omega)
  ·have e1:i=l.length:=by omega
   subst e1;simp only[hlt,decide_false,cond_false,Nat.sub_self,List.replicate_zero,List.append_nil,List.take_length]
theorem UW(m:Nat)(s6 s16:Dt->Dt->List Dt->Option Dt)(vs:List Dt)(e doc z y:Dt)(g:Dt->Dt)(hl:(L e 6).length<=137438953472)(hs:∀k∈L e 6,s6 k doc vs=some (g k)):∀(M i:Nat)(acc:List Dt),i<=(L e 6).length->acc.length<=i->(L e 6).length-i<M->
  qA m s6 s16 M vs (i:Int) e doc z y acc=wK m s6 s16 e z y (acc++((L e 6).drop i).map g)
 |0,i,_,_,_,hM=>by omega
 |M+1,i,acc,hi,ha,hM=>by
  simp only[qA,dlt];by_cases hlt:i<(L e 6).length
  ·have hac:(acc++[g (L e 6)[i]]).length<=i+1:=by rw[aR];simp;omega
   have ap:app acc [g (L e 6)[i]]=some (acc++[g (L e 6)[i]]):=mU (by simp;omega);rw[iB hlt,List.map_cons];simp only[hlt,decide_true,cond_true,bE hlt,hs _ (aI hlt),ap,ah,bR (show i<9223372036854775807 by omega)];rw[UW m s6 s16 vs e doc z y g hl hs M (i+1) _ (by omega) hac (by omega),List.append_assoc];rfl
  ·rw[j4 hlt];simp only[hlt,decide_false,cond_false,List.map_nil,List.append_nil]
def lpS(op:Int)(g:Dt->Dt)(l:List Dt):List Dt:=bif op==32 then l.map fun x=>orN (g x)else l.filter fun x=>trB (g x)
theorem aax(op:Int)(g:Dt->Dt)(x:Dt)(l:List Dt):lpS op g (x::l)=bif op==32 then orN (g x)::lpS op g l else bif trB (g x)then x::lpS op g l else lpS op g l:=by
 unfold lpS;cases (op==32)
 ·simp only[cond_false,List.filter_cons];cases trB (g x)<;>rfl
 ·rfl
theorem afC(m:Nat)(s3:Dt->Dt->Dt->Option Dt)(vs e doc z k1:Dt)(l:List Dt)(g:Dt->Dt)(hl:l.length<=137438953472)(hk:idx (L e 6) 1=some k1)(hs:∀x∈l,s3 k1 doc (.lst [.agg [.str (S e 2),x,vs]])=some (g x)):∀(M i:Nat)(acc:List Dt),i<=l.length->acc.length<=i->l.length-i<M->
  kW (m+2) s3 M vs l (l.length:Int) (i:Int) e doc z 6 0 (ByteArray.mk (List.toArray [])) acc []=some (vN (acc++lpS (I e 0) g (l.drop i)))
 |0,i,_,_,_,hM=>by omega
 |M+    1,i,acc,hi,ha,hM=>by
  simp only[kW,dlt];by_cases hlt:i<l.length
  ·have ih:=fun a ha=>afC m s3 vs e doc z k1 l g hl hk hs M (i+1) a (by omega) ha (by omega);have hac:∀y:Dt,(acc++[y]).length<=i+1:=fun y=>by rw[aR];simp;omega
   have ap:∀y:Dt,app acc [y]=some (acc++[y]):=fun y=>mU (by simp;omega);rw[iB hlt,aax];simp only[hlt,decide_true,cond_true,sw,bE hlt,hk,hs _ (aI hlt),adx,D6,ap,ah,bR (show i<9223372036854775807 by omega)];cases (I e 0==32)
   ·    rw[cond_false,cond_false];cases trB (g l[i]);·rw[cond_false,cond_false,ih acc (by omega)]
        ·rw[cond_true,cond_true,ih _ (hac _),List.append_assoc];rfl
   ·    rw[cond_true,cond_true,ih _ (hac _),List.append_assoc];rfl
  ·rw[j4 hlt];have:lpS (I e 0) g []=[]:=by unfold lpS;cases (I e 0==32)<;>rfl
   simp only[hlt,decide_false,cond_false,this,List.append_nil];rfl
theorem aay(m:Nat)(s6:Dt->Dt->List Dt->Option Dt)(vs:List Dt)(e doc z v k1:Dt)(g:Dt->Dt)(hl:(L v 3).length<=137438953472)(hvs:vs.length<137438953472)(hk:idx (L e 6) 1=some k1)(hs:∀x∈L v 3,s6 k1 doc (vs++[.agg [.str (S e 2),x]])=some (g x))(h0:∀x∈L v 3,0<=I (g x) 0):∀(M i:Nat)(acc:List Dt),i<=(L v 3).length->acc.length<=i->(L v 3).length-i<M->
  jG (m+2) s6 M vs (i:Int) e doc z v 6 0 (ByteArray.mk (List.toArray [])) acc []=some (vN (acc++lpS (I e 0) g ((L v 3).drop i)))
 |0,i,_,_,_,hM=>by omega
 |M+    1,i,acc,hi,ha,hM=>by
  simp only[jG,dlt];by_cases hlt:i<(L v 3).length
  ·have ih:=fun a ha=>aay m s6 vs e doc z v k1 g hl hvs hk hs h0 M (i+1) a (by omega) ha (by omega);have hac:∀y:Dt,(acc++[y]).length<=i+1:=fun y=>by rw[aR];simp;omega
   have ap:∀y:Dt,app acc [y]=some (acc++[y]):=fun y=>mU (by simp;omega);have av:app [] vs=some vs:=by rw[mU (by simp;omega)];rfl
   have ab:∀y:Dt,app vs [y]=some (vs++[y]):=fun y=>mU (by simp;omega);rw[iB hlt,aax];simp only[hlt,decide_true,cond_true,qB,bE hlt,hk,av,ab,hs _ (aI hlt),afv,Nj (m+1) _ (h0 _ (aI hlt)),ap,ah,bR (show i<9223372036854775807 by omega)];cases (I e 0==32)
   ·    rw[cond_false,cond_false];cases trB (g (L v 3)[i]);·rw[cond_false,cond_false,ih acc (by omega)]
        ·rw[cond_true,cond_true,ih _ (hac _),List.append_assoc];rfl
   ·    rw[cond_true,cond_true,ih _ (hac _),List.append_assoc];rfl
  ·rw[j4 hlt];have:lpS (I e 0) g []=[]:=by unfold lpS;cases (I e 0==32)<;>rfl
   simp only[hlt,decide_false,cond_false,this,List.append_nil];rfl
theorem UY{l:List Dt}{c:Nat}{f:Dt->Nat}(h:∀e∈l,e.bulk<=c*f e):bulkL l<=c*(l.map f).sum:=by
 induction l with
 |nil=>simp[bulkL]
 |cons a r ih=>
  have h1:=h a (aO ..);have h2:=ih fun e he=>h e (aT _ he);rw[bulkL,List.map_cons,List.sum_cons,Nat.mul_add];omega
theorem adE{p:ByteArray->Bool}{self:Dt->Bool}:∀{l:List Dt}{seen:List ByteArray},fl p self seen l=true->∀f∈l,p (S f 0)=true∧self (fld f 1)=true
 |f::r,seen,h,g,hg=>by
  rw[fl]at h;simp only[aN]at h;rcases List.mem_cons.1 hg with rfl|hg;·exact⟨h.1.1.1,h.1.2⟩
  ·exact adE h.2 g hg
theorem ao5{s:ByteArray}(h:nm s=true):s.size<=32:=by
 by_cases hs:32<s.size;·rw[Nc s hs]at h;cases h
 ·omega
theorem yM{d:Dt}(h:WV d):d.bulk=6+(S d 2).size+bulkL (L d 3)+bulkL (L d 4):=by
 cases h with
 | @mk k i t l ds hl hd=>
   show Dt.bulk (.agg [.int k,.int i,.str t,.lst l,.lst ds])=6+t.size+bulkL l+bulkL ds;simp only[Dt.bulk,bulkL];omega
theorem D7{f:Dt}(h:WF f):f.bulk=2+(S f 0).size+(fld f 1).bulk∧WV (fld f 1):=by
 cases h with
 | @mk s v hv=>
   refine⟨?_,hv⟩;show Dt.bulk (.agg [.str s,v])=2+s.size+v.bulk;simp only[Dt.bulk,bulkL];omega
theorem xC{d:Dt}(h:WV d):(∀e∈L d 3,WV e)∧∀f∈L d 4,WF f:=by
 cases h with
 |mk hl hd=>exact⟨hl,hd⟩
theorem II{s:ByteArray}(h:(s.toList==[])=true):s.size=0:=by
 have h1:s.toList=[]:=by simpa using h
 rw[ByteArray.toList_eq]at h1;rw[←KN,h1];rfl
theorem IJ{l:List Dt}(h:(!(decide ((0:Int)<(l.length:Int))))=true):l=[]:=by
 cases l with
 |nil=>rfl
 |cons a r=>simp at h
theorem Qy:∀(n:Nat)(d:Dt),WV d->sndF nm n d=true->d.bulk+40<=4200*nds d
 |0,d,_,h=>by cases h
 |n+    1,d,hw,h=>by
  obtain⟨wl,wd⟩:=xC hw;rw[F5 hw,yM hw];rw[sndF,aN]at h;obtain⟨hs,h⟩:=h;rw[shp]at hs;simp only[aN]at hs;obtain⟨⟨⟨_,h2⟩,h3⟩,h4⟩:=hs;by_cases k6:I d 0=6
  ·rw[k6]at h h2 h4;have e2:(S d 2).size=0:=II (by simpa using h2);have e4:L d 4=[]:=IJ (by simpa using h4);have ha:∀e∈L d 3,sndF nm n e=true:=by have:(L d 3).all (sndF nm n)=true:=h;exact List.all_eq_true.1 this
   have hb:=UY (l:=L d 3) (c:=4200) (f:=nds) fun e he=>by have:=Qy n e (wl e he) (ha e he);omega
   have hp:rO d=L d 3:=by rw[rO,k6];rfl
   rw[hp,e4,e2];simp only[bulkL];omega
  ·have e3  :  L d 3=[]:=IJ (by simpa [k6]using h3);by_cases k5:I d 0=5
   ·    rw[k5]at h h2;have e2:(S d 2).size=0:=II (by simpa using h2);have hf:∀f∈L d 4,nm (S f 0)=true∧sndF nm n (fld f 1)=true:=by have:fl nm (sndF nm n) [] (L d 4)=true:=h;exact adE this
        have hb:=UY (l:=L d 4) (c:=4200) (f:=fun f=>nds (fld f 1)) fun f hf'=>by have h1:=D7 (wd f hf');have h2:=hf f hf';have h3:=Qy n _ h1.2 h2.2;have h4:=ao5 h2.1;rw[h1.1];omega
        have hp:rO d=(L d 4).map (·.fld 1):=by rw[rO,k5];rfl
        rw[hp,e3,e2,List.map_map];simp only[bulkL];have:(List.map (nds∘fun x=>x.fld 1) (L d 4)).sum=((L d 4).map fun f=>nds (fld f 1)).sum:=rfl;rw[this];omega
   ·    have e4:L d 4=[]:=IJ (by simpa [k5]using h4)
        have e2:(S d 2).size<=4096:=by
         by_cases k4:I d 0=4
         ·rw[k4]at h;have:(decide (((S d 2).size:Int)<=4096)&&Lib.validD (S d 2).data.toList)=true:=h;simp only[aN,decide_eq_true_eq]at this;omega
         ·by_cases k7:I d 0=7
          · rw[k7]at h;have:decide (((S d 2).size:Int)<=4096)=true:=h;simp only[decide_eq_true_eq]at this;omega
          · by_cases k8:I d 0=8
            ·  rw[k8]at h;have:(((S d 2).size:Int)==12)=true:=h;have:((S d 2).size:Int)=12:=by simpa using this
               omega
            ·  rw[II (by simpa [k4,k7,k8]using h2)];omega
        rw[e3,e4];simp only[bulkL];omega
theorem ao6{d:Dt}(hw:WV d)(h:okV d=true):d.bulk<=4300800:=by rw[okV]at h;simp only[aN,decide_eq_true_eq]at h;have:=Qy _ d hw h.2;omega
def nm1(c:Dt):Dt:=bif I c 0==0 then aj else bif okV c then c else kV 2 0
theorem ao7(m:Nat)(e doc vs c:Dt)(hc:fA (m+3) e doc vs=some c)(hw:WV c)(hm:3*c.bulk+300<=m)(hb:c.bulk<=100000000000):cK (m+4) e doc vs=some (nm1 c):=by
 rw[cK,hc,ah,nm1];cases (I c 0==0)
 ·rw[cond_false,cond_false,UJ hw m hm hb,ah];cases okV c<;>rfl
 ·rfl
theorem ame(m:Nat)(s6 s16:Dt->Dt->List Dt->Option Dt)(z c:Dt)(hw:WV c)(h0:I c 0=0->c=aj)(hm:2*c.bulk+300<=m)(hm2:m<9223372036854775000)(hb:c.bulk<=100000000000):fG (m+4) s6 s16 z c=some (nm1 c):=by
 rw[fG,nm1];cases hk:(I c 0==0)
 ·rw[show (I c 0 !=0)=true by rw[bne,hk];rfl,cond_true,cond_false,KO hw m hm hm2 hb,ah];cases okV c<;>rfl
 ·have e0:c=aj:=h0 (by simpa using hk);rw[show (I c 0 !=0)=false by rw[bne,hk];rfl,cond_false,cond_true,←e0];rfl
def Nd(d:Dt):Prop:=d=aj∨(WV d∧okV d=true)
theorem aaz:WV aj:= .mk (fun _ h=>by cases h) fun _ h=>by cases h
theorem UZ(k n:Int):WV (kV k n):= .mk (fun _ h=>by cases h) fun _ h=>by cases h
theorem afD:okV (kV 2 0)=true:=by
 have hp:rO (kV 2 0)=[]:=rfl;have h1:nds (kV 2 0)=1:=by rw[F5 (UZ 2 0),hp];rfl
 have h2:dpt (kV 2 0)=1:=by rw[adj (UZ 2 0),hp];rfl
 have e:(S (kV 2 0) 2).toList=[]:=by rw[ByteArray.toList_eq];rfl
 have h3:sndF nm (kV 2 0).bulk (kV 2 0)=true:=by rw[show (kV 2 0).bulk=5+1 by decide,sndF,shp,e];rfl
 rw[okV,h1,h2,h3];rfl
theorem ati{c:Dt}(hw:WV c):Nd (nm1 c):=by
 rw[nm1];cases I c 0==0
 ·rw[cond_false];cases h:okV c;·exact .inr ⟨UZ 2 0,afD⟩
  ·exact .inr ⟨hw,h⟩
 ·exact .inl rfl
theorem Nd.wv{d:Dt}(h:Nd d):WV d:=by
 rcases h with rfl|h;·exact aaz
 ·exact h.1
theorem Nd.bulk{d:Dt}(h:Nd d):d.bulk<=4300800:=by
 rcases h with rfl|h;·decide
 ·exact ao6 h.1 h.2
theorem afE{l:List Dt}(h:∀e∈l,WV e):WV (vN l):= .mk h fun _ h=>by cases h
theorem U0(l:List Dt):(vN l).bulk=6+bulkL l:=by show Dt.bulk (.agg [.int 6,.int 0,.str (ByteArray.mk (List.toArray [])),.lst l,.lst []])=_;simp only[Dt.bulk,bulkL];show 1+(1+(0+1+(bulkL l+1+(0+1+0))))+1=_;omega
theorem tQ{g:Dt->Dt}{q:Dt->Bool}:∀{l:List Dt},(∀e∈l,(g e).bulk<=e.bulk)->bulkL ((l.map g).filter q)<=bulkL l
 | [],_=>ay _
 |a::l,h=>by
  have h1:=h a (aO ..);have h2:=tQ (q:=q) (l:=l) fun e he=>h e (aT _ he);rw[List.map_cons,List.filter_cons];split;·rw[bulkL,bulkL];omega
  ·rw[bulkL];omega
theorem Qz:∀(n:Nat)(v:Dt)(p:List Dt),WV v->WV (atN n v p)∧(atN n v p).bulk<=v.bulk
 |0,v,p,h=>⟨aaz,by have:=yM h;rw[show atN 0 v p=aj from rfl,show aj.bulk=6 by decide];omega⟩
 |n+1,v,[],h=>⟨h,ay _⟩
 |n+    1,v,s::r,h=>by
  have hz:WV aj∧aj.bulk<=v.bulk:=⟨aaz,by have:=yM h;rw[show aj.bulk=6 by decide];omega⟩;obtain⟨wl,wd⟩:=xC h;rw[atN];cases I v 0==5
  ·rw[   cond_false];cases I v 0==6;·exact hz
   ·    rw[cond_true];refine⟨afE fun e he=>?_,?_⟩
        ·obtain⟨x,hx,rfl⟩:=List.mem_map.1 (List.mem_filter.1 he).1;exact(Qz n x (s::r) (wl x hx)).1
        ·rw[U0,yM h];have:=tQ (g:=fun e=>atN n e (s::r)) (q:=nnB) (l:=L v 3) fun e he=>(Qz n e (s::r) (wl e he)).2;omega
  ·rw[cond_true];cases hf:fnd (toStr s) (L v 4)with
   |none=>exact hz
   |    some x=>
        obtain⟨f,h1,h2⟩:=Ni hf;have hx:WV x:=by rw[h2];exact(D7 (wd f h1)).2
        exact⟨(Qz n x r hx).1,Nat.le_trans (Qz n x r hx).2 (Nat.le_of_lt (aac hf))⟩
theorem QA{n:Nat}{d:Dt}(h:sndF nm n d=true):1<=I d 0:=by
 cases n with
 |zero=>cases h
 |succ n=>
  rw[sndF,aN]at h;have h:=h.2;by_cases hk:1<=I d 0∧I d 0<=11;·exact hk.1
  ·have ne:∀k:Int,1<=k->k<=11->(I d 0==k)=false:=fun k h1 h2=>by rw[beq_eq_false_iff_ne];omega
   rw[ne 9 (by omega) (by omega),ne 10 (by omega) (by omega),ne 4 (by omega) (by omega),ne 7 (by omega) (by omega),ne 8 (by omega) (by omega),ne 6 (by omega) (by omega),ne 5 (by omega) (by omega)]at h;simp only[cond_false,aN,decide_eq_true_eq]at h;omega
theorem aqa:∀(n:Nat)(v:Dt)(p:List Dt)(k:Nat),sndF nm k v=true->atN n v p=aj∨1<=I (atN n v p) 0
 |0,_,_,_,_=> .inl rfl
 |n+1,v,[],k,h=> .inr (QA h)
 |n+1,v,s::r,0,h=>by cases h
 |n+    1,v,s::r,k+1,h=>by
  rw[atN];cases h5:I v 0==5
  ·rw[cond_false];cases I v 0==6;·exact .inl rfl
   ·exact .inr (by rw[cond_true];show (1:Int)<=6;omega)
  ·rw[cond_true];cases hf:fnd (toStr s) (L v 4)with
   |none=>exact .inl rfl
   |    some x=>
        obtain⟨f,h1,rfl⟩:=Ni hf;have e5:I v 0=5:=by simpa using h5
        rw[sndF,aN,e5]at h;have hfl:fl nm (sndF nm k) [] (L v 4)=true:=h.2;exact aqa n _ r k (adE hfl f h1).2
structure Rs (c:Dt) (B:Nat):Prop where
 wv:WV c
 bk:c.bulk<=B
 nz:c=aj∨1<=I c 0
theorem Rs.le{c:Dt}{B B':Nat}(h:Rs c B)(hB:B<=B'):Rs c B':=⟨h.wv,Nat.le_trans h.bk hB,h.nz⟩
theorem Rs.k0{c:Dt}{B:Nat}(h:Rs c B):0<=I c 0:=by
 rcases h.nz with rfl|h;·show (0:Int)<=0;omega
 ·omega
theorem fB{b:Bool}{x y:Dt}{B:Nat}(hx:Rs x B)(hy:Rs y B):Rs (bif b then x else y) B:=by cases b<;>assumption
theorem afF(k n:Int):(kV k n).bulk=6:=rfl
theorem Az(k n:Int)(h:1<=k):Rs (kV k n) 6:=⟨UZ k n,Nat.le_of_eq (afF k n),.inr h⟩
theorem Xy:Rs aj 6:=⟨aaz,by decide,.inl rfl⟩
theorem Dz(b:Bool):Rs (bV b) 6:=Az 9 _ (by omega)
theorem lg:Rs (kV 2 0) 6:=Az 2 0 (by omega)
theorem Nd.rs{d:Dt}(h:Nd d):Rs d d.bulk:=by
 rcases h with rfl| ⟨h1,h2⟩;·exact⟨aaz,ay _,.inl rfl⟩
 ·rw[okV]at h2;simp only[aN]at h2;exact⟨h1,ay _,.inr (QA h2.2)⟩
theorem zw(op:Int)(l:List Dt):Rs (Dv op l) 6:=by unfold Dv;exact fB (fB (Az 3 _ (by omega)) (fB (Az 3 _ (by omega)) (fB (Az 3 _ (by omega)) (fB lg (fB (Az 3 _ (by omega)) (Az 3 _ (by omega))))))) lg
theorem sK(op c:Int):Rs (zu op c) 6:=by unfold zu;exact fB (Dz _) (fB (Dz _) (fB (Dz _) (fB (Dz _) (fB (Dz _) (fB (Dz _) (Az 3 _ (by omega)))))))
theorem afG(op:Int)(l:List Dt):Rs (aoS op l) 6:=fB (Dz _) (Dz _)
theorem afH(s:ByteArray):WV (Ai s):= .mk (fun _ h=>by cases h) fun _ h=>by cases h
theorem U1(s:ByteArray):(Ai s).bulk=6+s.size:=by rw[yM (afH s)];rfl
theorem QB{s:ByteArray}{B:Nat}(h:6+s.size<=B):Rs (Ai s) B:=⟨afH s,by rw[U1];exact h,.inr (by show (1:Int)<=4;omega)⟩
theorem D8(op:Int)(a:Dt):Rs (IE op a) (a.bulk+6):=by have h:=vo a 2;unfold IE;exact fB (fB (QB (by rw[Pj];omega)) (fB (QB (by rw[Pj];omega)) ((Az 3 _ (by omega)).le (by omega)))) (lg.le (by omega))
theorem amf(s:ByteArray)(a n:Int):(ady s a n).size<=s.size:=by rw[ady,ByteArray.size_extract];omega
theorem aqb(a b c:Dt):Rs (slS a b c) (a.bulk+6):=by have h:=vo a 2;have:=amf (S a 2) (I b 1) (I c 1);unfold slS;exact fB (QB (by omega)) (lg.le (by omega))
theorem Xz{l:List Dt}{B:Nat}(h:∀e∈l,WV e)(hB:6+bulkL l<=B):Rs (vN l) B:=⟨afE h,by rw[U0];exact hB,.inr (by show (1:Int)<=6;omega)⟩
theorem ahs(l:List Dt):bulkL l.reverse=bulkL l:=by
 have app:∀a b:List Dt,bulkL (a++b)=bulkL a+bulkL b:=fun a b=>by
  induction a with
  |nil=>simp[bulkL]
  |cons x a ih=>rw[List.cons_append,bulkL,bulkL,ih];omega
 induction l with
 |nil=>rfl
 |cons a l ih=>rw[List.reverse_cons,app,ih];simp only[bulkL];omega
theorem amg(a:Dt):Rs (aam a) 6:=fB (Az 3 _ (by omega)) lg
theorem amh(a:Dt):Rs (aao a) 6:=fB (Az 3 _ (by omega)) lg
theorem ami(a:Dt)(hw:WV a):Rs (aan a) (a.bulk+6):=by have:=F4 a 3;exact fB (Xz (fun e he=>(xC hw).1 e (List.mem_reverse.1 he)) (by rw[ahs];omega)) (lg.le (by omega))
theorem amj(q:Dt->Bool)(l:Dt):Rs (adB q l) 6:=fB (Dz _) lg
theorem aaA{n:Nat}{a:Dt}(hw:WV a)(h:sndF nm n a=true):∀e∈L a 3,WV e∧∃k,sndF nm k e=true:=by
 intro e he;refine⟨(xC hw).1 e he,?_⟩;cases n with
 |zero=>cases h
 |succ n=>
  rw[sndF,aN]at h;obtain⟨hs,h⟩:=h;by_cases k6:I a 0=6
  ·rw[k6]at h;have:(L a 3).all (sndF nm n)=true:=h;exact⟨n,List.all_eq_true.1 this e he⟩
  ·rw[shp]at hs;simp only[aN]at hs;have e3:L a 3=[]:=IJ (by simpa [k6]using hs.1.2);rw[e3]at he;cases he
theorem Nd.elem{a:Dt}(h:Nd a):∀e∈L a 3,Rs e e.bulk:=by
 rcases h with rfl| ⟨h1,h2⟩;·intro e he;cases he
 ·rw[okV]at h2;simp only[aN]at h2;intro e he;obtain⟨hw,k,hk⟩:=aaA h1 h2.2 e he;exact⟨hw,ay _,.inr (QA hk)⟩
theorem atj(l:List Dt)(i:Dt)(B:Nat)(h:∀e∈l,Rs e B)(hB:6<=B):Rs (aak l i) B:=by
 unfold aak;refine fB (fB (Xy.le hB) ?_) (lg.le hB);rw[List.getD_eq_getElem?_getD];cases hg:l[(bif decide (I i 1<0)then w64 (I i 1+(l.length:Int))else I i 1).toNat]? with
 |none=>exact Xy.le hB
 |some x=>exact h x (aU hg)
theorem amk(a i:Dt)(h:Nd a):Rs (aaq a i) (a.bulk+6):=by refine fB (atj _ _ _ (fun e he=>?_) (by omega)) (lg.le (by omega));have:=qj he;exact(h.elem e he).le (by omega)
theorem U2(a b:List Dt):bulkL (a++b)=bulkL a+bulkL b:=by
 induction a with
 |nil=>simp[bulkL]
 |cons x a ih=>rw[List.cons_append,bulkL,bulkL,ih];omega
theorem D9:∀l:List Dt,bulkL (Bd l)<=bulkL l
 | []=>ay _
 |a::l=>by have:=F4 a 3;have:=D9 l;rw[vS,U2,bulkL];omega
theorem aml(l:List Dt)(h:∀e∈l,WV e):Rs (aap l) (bulkL l+6):=by have:=D9 l;refine fB (Xz (fun e he=>?_) (by omega)) (lg.le (by omega));obtain⟨a,h1,h2⟩:=List.mem_flatMap.1 he;exact(xC (h a h1)).1 e h2
theorem atl{d:Dt}(h:WV d):WV (orN d):=by
 unfold orN;cases (I d 0==0);·exact h
 ·exact UZ 2 0
theorem amm{d:Dt}(h:WV d):(orN d).bulk<=d.bulk:=by
 have:=yM h;unfold orN;cases (I d 0==0);·exact ay _
 ·rw[cond_true,afF];omega
theorem afI:∀{l:List Dt},(∀e∈l,WV e)->(∀e∈l.map orN,WV e)∧bulkL (l.map orN)<=bulkL l
 | [],_=>⟨(fun _ h=>by cases h),ay _⟩
 |a::l,h=>by
  have h1:=h a (aO ..);obtain⟨h2,h3⟩:=afI (l:=l) fun e he=>h e (aT _ he);have:=amm h1;refine⟨fun e he=>?_,by rw[List.map_cons,bulkL,bulkL];omega⟩;rcases List.mem_cons.1 he with rfl|he;·exact atl h1
  ·exact h2 e he
theorem XA(l:List Dt)(h:∀e∈l,WV e):Rs (vN (l.map orN)) (bulkL l+6):=by obtain⟨h1,h2⟩:=afI h;exact Xz h1 (by omega)
theorem afJ:∀(ns ks:List Dt),(∀e∈ks,WV e)->(∀f∈Dy ns ks,WF f)∧bulkL (Dy ns ks)<=2*bulkL ns+2*ns.length+bulkL ks
 | [],ks,_=>⟨(fun _ h=>by cases h),by show 0<=_;omega⟩
 |n::ns,[],_=>⟨(fun _ h=>by cases h),by show 0<=_;omega⟩
 |n::ns,k::ks,h=>by
  have hk:=h k (aO ..);obtain⟨h1,h2⟩:=afJ ns ks fun e he=>h e (aT _ he);have hs:(toStr n).size<=n.bulk:=by
   cases n with
   |str s=>show s.size<=s.size+1;omega
   |_=>exact aC _
  rw[Dy];cases nnB k
  ·rw[cond_false];refine⟨h1,?_⟩;simp only[bulkL,List.length_cons];omega
  ·rw[cond_true];refine⟨fun f hf=>?_,?_⟩
   ·    rcases List.mem_cons.1 hf with rfl|hf;·exact .mk hk
        ·exact h1 f hf
   ·    simp only[bulkL,Dt.bulk,List.length_cons];omega
theorem U3{s:ByteArray}(h:4096<s.size):nm1 (Ai s)=kV 2 0:=by
 have hk:okV (Ai s)=false:=by
  cases hc:okV (Ai s);·rfl
  ·rw[okV]at hc;simp only[aN]at hc;have h2:=hc.2;obtain⟨n,hn⟩:∃n,(Ai s).bulk=n+1:=⟨(Ai s).bulk-1,by have:=U1 s;omega⟩;rw[hn,sndF,aN]at h2;have h3:(decide (((s.size:Nat):Int)<=4096)&&Lib.validD s.data.toList)=true:=h2.2;simp only[aN,decide_eq_true_eq]at h3;omega
 rw[nm1,hk];rfl
theorem ao8(l:List Dt):nm1 (adD l)=nm1 (adC l):=by
 rw[adD,adC];cases l.all (isK 4);·rfl
 ·rw[cond_true,cond_true];have e0:ByteArray.mk (List.toArray [])++bs (catB l)=bs (catB l):=by have:=ama [] (catB l);rw[List.nil_append]at this;exact this
  rcases afA l (ByteArray.mk (List.toArray []))with h| ⟨h1,h2⟩;·rw[h,e0]
  ·rw[e0]at h2;rw[U3 h1,U3 h2]
theorem K3:∀l:List Dt,(catB l).length<=bulkL l
 | []=>ay _
 |a::l=>by have h1:=vo a 2;have h2:=K3 l;rw[show catB (a::l)=(S a 2).data.toList++catB l from rfl,aR,ahc,bulkL];omega
theorem ao9(l:List Dt):Rs (adD l) (bulkL l+6):=by have:=K3 l;exact fB (QB (by rw[Xv];omega)) (lg.le (by omega))
theorem U4:∀(l:List Dt)(s:ByteArray),(MR 0 l s).size<=s.size+bulkL l
 | [],s=>by rw[MR];omega
 |d::l,s=>by
  have h1:=vo d 2;rw[MR,bulkL];split
  ·have:=U4 l (s++S d 2);rw[ByteArray.size_append]at this;omega
  ·omega
theorem apa(l:List Dt):Rs (adC l) (bulkL l+6):=by have:=U4 l (ByteArray.mk (List.toArray []));have e:(ByteArray.mk (List.toArray [])).size=0:=rfl;exact fB (QB (by omega)) (lg.le (by omega))
theorem XB{l:List Dt}(h:∀f∈l,WF f):WV (uW l):= .mk (fun _ h=>by cases h) h
theorem amn(ns ks:List Dt)(h:∀e∈ks,WV e):Rs (uW (Dy ns ks)) (2*bulkL ns+2*ns.length+bulkL ks+6):=by obtain⟨h1,h2⟩:=afJ ns ks h;refine⟨XB h1,?_,.inr (by show (1:Int)<=5;omega)⟩;rw[yM (XB h1)];show 6+0+0+bulkL (Dy ns ks)<=_;omega
theorem aqc(a b c:Dt)(hb:Nd b)(hc:Nd c):Rs (bif trB a then b else c) 4300800:=fB (hb.rs.le hb.bulk) (hc.rs.le hc.bulk)
theorem amo(a b:Dt)(ha:Nd a)(hb:Nd b):Rs (bif I (orN a) 0==2 then b else a) 4300800:=fB (hb.rs.le hb.bulk) (ha.rs.le ha.bulk)
def opS(op:Int)(e:Dt)(ks:List Dt)(mg:Dt):Dt:=
 bif decide (op<=8)then Dv op ks
 else bif decide (op<=15)then zu op (cmpD (ks.getD 0 aj) (ks.getD 1 aj))
 else bif decide (op<=17)then aoS op ks
 else bif op==18 then bV (!trB (ks.getD 0 aj))
 else bif op==19 then(bif trB (ks.getD 0 aj)then ks.getD 1 aj else ks.getD 2 aj)
 else bif op==20 then(bif I (orN (ks.getD 0 aj)) 0==2 then ks.getD 1 aj else ks.getD 0 aj)
 else bif op==21 then adD ks
 else bif decide (op<=24)then IE op (ks.getD 0 aj)
 else bif op==25 then slS (ks.getD 0 aj) (ks.getD 1 aj) (ks.getD 2 aj)
 else bif op==26 then aam (ks.getD 0 aj)
 else bif op==27 then aaq (ks.getD 0 aj) (ks.getD 1 aj)
 else bif op==28 then adB (fun x=>cmpD x (ks.getD 0 aj)==0) (ks.getD 1 aj)
 else bif op==29 then aap ks
 else bif op==30 then aan (ks.getD 0 aj)
 else bif op==31 then aao (ks.getD 0 aj)
 else bif op==34 then uW (Dy (L e 3) ks)
 else bif op==35 then vN (ks.map orN)
 else bif op==36 then kV 3 (I (ks.getD 0 aj) 0)
 else mg
def evS(mgS:List Dt->Dt):Nat->Dt->Dt->List (ByteArray×Dt)->Dt
 |0,_,_,_=>aj
 |  r+1,e,doc,env=>nm1 (
    bif I e 0==1 then fld e 4
    else bif I e 0==2 then atN 4300801 doc (L e 1)
    else bif I e 0==3 then Qx (fun v=>atN 4300801 v (L e 1)) (S e 2) env
    else bif I e 0==32||I e 0==33 then
     bif isK 6 (evS mgS r ((L e 6).getD 0 aj) doc env)then
      vN (lpS (I e 0) (fun x=>evS mgS r ((L e 6).getD 1 aj) doc ((S e 2,x)::env)) (L (evS mgS r ((L e 6).getD 0 aj) doc env) 3))
     else kV 2 0
    else opS (I e 0) e ((L e 6).map fun k=>evS mgS r k doc env) (mgS ((L e 6).map fun k=>evS mgS r k doc env)))
def zy(r:Dt):List Dt->Dt
 | []=>r
 |f::l=>zy (Dq r (S f 0) (fld f 1)) l
def mgP:Bool->Dt->List Dt->Dt
 |_,r,[]=>r
 |b,r,k::l=>bif (I k 0==0||I k 0==2)then mgP b r l else bif I k 0==5 then(bif b then mgP false k l else bif decide ((1024:Int)<((L (zy r (L k 4)) 4).length:Int))then kV 2 0 else mgP false (zy r (L k 4)) l)else kV 2 0
def mgR:Dt->List Dt->Dt
 |r,[]=>r
 |r,k::l=>bif (I k 0==0||I k 0==2)then mgR r l else bif I k 0==5 then mgR (zy r (L k 4)) l else kV 2 0
def mgS(l:List Dt):Dt:=mgP true (uW []) l
structure Dc (r:Dt):Prop where
 wv:WV r
 k5:I r 0=5
theorem XC{r x:Dt}{s:ByteArray}(h:Dc r)(hx:WV x):Dc (Dq r s x)∧(L r 4).length<=(L (Dq r s x) 4).length∧(Dq r s x).bulk<=r.bulk+(2+s.size+x.bulk):=by
 refine⟨⟨aop h.wv hx,?_⟩,?_,?_⟩
 ·unfold Dq;split;·exact h.k5
  ·exact h.k5
 ·unfold Dq;split
  ·show _<=((L r 4).set _ _).length;rw[List.length_set];exact ay _
  ·show _<=(L r 4++[_]).length;rw[aR];omega
 ·unfold Dq;split
  ·rename_i k hk;have:=ahl (c:=x) h.wv (afm hk);omega
  ·rw[asC,ZQ,(adp h.wv).2.2,U2];have:bulkL [agg [.str s,x]]=2+s.size+x.bulk:=by have:=(D7 (.mk hx:WF (.agg [.str s,x]))).1;rw[bulkL,this];show 2+s.size+x.bulk+0=_;omega
   omega
theorem Bf:∀(l:List Dt){r:Dt},Dc r->(∀f∈l,WF f)->Dc (zy r l)∧(L r 4).length<=(L (zy r l) 4).length∧(zy r l).bulk<=r.bulk+bulkL l
 | [],r,h,_=>⟨h,ay _,ay _⟩
 |f::l,r,h,hl=>by obtain⟨f1,f2⟩:=D7 (hl f (aO ..));obtain⟨h1,h2,h3⟩:=XC (s:=S f 0) h f2;obtain⟨h4,h5,h6⟩:=Bf l h1 fun g hg=>hl g (aT _ hg);rw[zy,bulkL];exact⟨h4,by omega,by omega⟩
theorem Nd.doc{k:Dt}(h:Nd k)(hk:I k 0=5):Dc k∧∀f∈L k 4,WF f:=⟨⟨h.wv,hk⟩,(xC h.wv).2⟩
theorem kor{k:Dt}(hk:(I k 0==5)=true):I k 0=5:=by simpa using hk
theorem apb:Dc (uW []):=⟨XB (fun _ h=>by cases h),rfl⟩
theorem Nk{k:Dt}(h:WV k):bulkL (L k 4)<=k.bulk:=by rw[yM h];omega
theorem aqd{r:Dt}(h:Dc r){B:Nat}(hB:r.bulk<=B):Rs r B:=⟨h.wv,hB,.inr (by rw[h.k5];omega)⟩
theorem amq:∀(l:List Dt){r:Dt},Dc r->(∀k∈l,Nd k)->Rs (mgR r l) (r.bulk+bulkL l)
 | [],r,h,_=>aqd h (ay _)
 |k::l,r,h,hl=>by
  have hk:=hl k (aO ..);have ih:=fun{r:Dt}(h:Dc r)=>amq l h fun g hg=>hl g (aT _ hg);have h6:=wv6 h.wv;rw[mgR,bulkL];refine fB ((ih h).le (by omega)) ?_;cases h5:(I k 0==5);·exact lg.le (by omega)
  ·obtain⟨d1,d2⟩:=hk.doc (kor h5);obtain⟨a1,a2,a3⟩:=Bf _ h d2;have:=Nk d1.wv;exact(ih a1).le (by omega)
theorem amr:∀(l:List Dt){b:Bool}{r:Dt},Dc r->(∀k∈l,Nd k)->Rs (mgP b r l) (r.bulk+bulkL l)
 | [],_,r,h,_=>aqd h (ay _)
 |k::l,b,r,h,hl=>by
  have hk:=hl k (aO ..);have ih:=fun{b:Bool}{r:Dt}(h:Dc r)=>amr l (b:=b) h fun g hg=>hl g (aT _ hg);have h6:=wv6 h.wv;rw[mgP,bulkL];refine fB ((ih h).le (by omega)) ?_;cases h5:(I k 0==5);·exact lg.le (by omega)
  ·obtain⟨d1,d2⟩:=hk.doc (kor h5);obtain⟨a1,a2,a3⟩:=Bf _ h d2;have:=Nk d1.wv;rw[cond_true];exact fB ((ih d1).le (by omega)) (fB (lg.le (by omega)) ((ih a1).le (by omega)))
theorem XD{A:Type}(f:A->Nat)(h:∀a,1<=f a):∀l:List A,l.length<=(l.map f).sum
 | []=>ay _
 |a::l=>by
  have:=h a;have:=XD f h l
  rw[List.map_cons,List.sum_cons,List.length_cons];omega
theorem awz(d:Dt):1<=nds d:=by
 unfold nds;cases d.bulk with
 |zero=>exact ay _
 |succ n=>rw[adi];omega
theorem ams{r:Dt}(h:Dc r)(hl:1024<(L r 4).length):nm1 r=kV 2 0:=by
 have hn:okV r=false:=by
  have h1:=F5 h.wv;have h2:=XD nds awz (rO r);have h3:rO r=(L r 4).map (·.fld 1):=by rw[rO,h.k5];rfl
  rw[h3]at h2;rw[List.length_map,←h3]at h2;rw[okV,decide_eq_false (by omega),Bool.false_and,Bool.false_and]
 rw[nm1,h.k5,hn];rfl
theorem aaB:nm1 (kV 2 0)=kV 2 0:=by rw[nm1,afD];rfl
theorem afK:∀(l:List Dt){r:Dt},Dc r->(∀k∈l,Nd k)->1024<(L r 4).length->nm1 (mgR r l)=kV 2 0
 | [],r,h,_,hb=>ams h hb
 |k::l,r,h,hl,hb=>by
  have hk:=hl k (aO ..);have ih:=fun{r:Dt}(h:Dc r)=>afK l h fun g hg=>hl g (aT _ hg);rw[mgR];cases (I k 0==0||I k 0==2)
  ·rw[cond_false];cases h5:(I k 0==5);·exact aaB
   ·    obtain⟨d1,d2⟩:=hk.doc (kor h5);obtain⟨a1,a2,a3⟩:=Bf _ h d2;exact ih a1 (by omega)
  ·exact ih h hb
theorem QC:∀(l:List Dt){r:Dt},Dc r->(∀k∈l,Nd k)->nm1 (mgP false r l)=nm1 (mgR r l)
 | [],r,_,_=>rfl
 |k::l,r,h,hl=>by
  have hk:=hl k (aO ..);have hl':∀g∈l,Nd g:=fun g hg=>hl g (aT _ hg);rw[mgR,mgP];cases (I k 0==0||I k 0==2)
  ·rw[   cond_false,cond_false];cases h5:(I k 0==5);·rfl
   ·    obtain⟨d1,d2⟩:=hk.doc (kor h5);obtain⟨a1,a2,a3⟩:=Bf _ h d2;rw[cond_true,cond_true,cond_false];cases hd:decide ((1024:Int)<((L (zy r (L k 4)) 4).length:Int));·exact QC l a1 hl'
        ·have:1024<(L (zy r (L k 4)) 4).length:=by have:=of_decide_eq_true hd;omega
         rw[cond_true,afK l a1 hl' this,aaB]
  ·exact QC l h hl'
theorem afL{s:ByteArray}:∀{l:List Dt},(∀g∈l,eqb s (S g 0)=false)->fi s l=none
 | [],_=>rfl
 |g::l,h=>by have h1:=h g (aO ..);rw[Ik]at h1;have h1:(ByteArray.toList (S g 0)==ByteArray.toList s)=false:=h1;rw[fi,h1,cond_false,afL fun x hx=>h x (aT _ hx)];rfl
theorem any_map(s:ByteArray)(l:List Dt)(h:(!((l.map fun g=>S g 0).any (eqb s)))=true):∀g∈l,eqb s (S g 0)=false:=by
 intro g hg;cases he:eqb s (S g 0);·rfl
 ·have:(l.map fun g=>S g 0).any (eqb s)=true:=List.any_eq_true.2 ⟨_,List.mem_map.2 ⟨g,hg,rfl⟩,he⟩;rw[this]at h;cases h
theorem QD{p:ByteArray->Bool}{self:Dt->Bool}:∀(l pre:List Dt),(∀f∈l,WF f)->fl p self (pre.map fun g=>S g 0) l=true->zy (uW pre) l=uW (pre++l)
 | [],pre,_,_=>by rw[zy,List.append_nil]
 |f::l,pre,hw,h=>by
  rw[fl]at h;simp only[aN]at h;obtain⟨⟨⟨_,h2⟩,_⟩,h4⟩:=h;have hn:=afL (any_map _ _ h2);have hf:agg [.str (S f 0),fld f 1]=f:=by
   have:=hw f (aO ..);cases this with
   |mk hv=>rfl
  have e1:Dq (uW pre) (S f 0) (fld f 1)=uW (pre++[f]):=by have e0:L (uW pre) 4=pre:=rfl;unfold Dq;rw[e0,hn];show agg [.int 5,.int 0,.str (ByteArray.mk (List.toArray [])),.lst [],.lst (pre++[agg [.str (S f 0),fld f 1]])]=_;rw[hf];rfl
  rw[zy,e1,QD l (pre++[f]) (fun g hg=>hw g (aT _ hg)) (by rw[List.map_append];exact h4),List.append_assoc];rfl
theorem awC{t:ByteArray}(h:t.size=0):t=ByteArray.mk (List.toArray []):=by
 cases t with
 |mk a=>
  have:a.size=0:=h;have:a= #[]:=Array.eq_empty_of_size_eq_zero this;rw[this]
theorem aht{k:Dt}(h:Nd k)(hk:I k 0=5):zy (uW []) (L k 4)=k:=by
 rcases h with rfl| ⟨hw,ho⟩;·exact absurd hk (by decide)
 ·rw[   okV]at ho;simp only[aN]at ho;have ho:=ho.2;obtain⟨n,hn⟩:∃n,k.bulk=n+1:=⟨k.bulk-1,by have:=gX k;omega⟩;rw[hn,sndF,aN]at ho;obtain⟨hs,hf⟩:=ho;rw[hk]at hf;have hf:fl nm (sndF nm n) [] (L k 4)=true:=hf;rw[QD (L k 4) [] (xC hw).2 hf,List.nil_append];rw[shp]at hs;simp only[aN]at hs;obtain⟨⟨⟨h1,h2⟩,h3⟩,_⟩:=hs;rw[hk]at h1 h2 h3;cases hw with
  | @mk kk i t l ds hl hd=>
    have hk':kk=5:=hk;have e1:i=0:=by have:((i:Int)==0)=true:=h1;simpa using this
    have e2:t=ByteArray.mk (List.toArray []):=awC (II (by have:(t.toList==[])=true:=h2;exact this));have e3:l=[]:=IJ h3;subst hk' e1 e2 e3;rfl
theorem afM:∀(l:List Dt),(∀k∈l,Nd k)->nm1 (mgP true (uW []) l)=nm1 (mgR (uW []) l)
 | [],_=>rfl
 |k::l,hl=>by
  have hk:=hl k (aO ..);have hl':∀g∈l,Nd g:=fun g hg=>hl g (aT _ hg);rw[mgR,mgP];cases (I k 0==0||I k 0==2)
  ·rw[cond_false,cond_false];cases h5:(I k 0==5);·rfl
   ·    rw[cond_true,cond_true,cond_true,aht hk (kor h5)];exact QC l (hk.doc (kor h5)).1 hl'
  ·exact afM l hl'
theorem aqe(m:Nat)(rec1:Bool->List Dt->Int->Int->Dt->Dt->Option Dt)(b:Bool)(l:List Dt)(n i:Int)(z:Dt)(fs:List Dt)(hf:∀f∈fs,WF f)(hfl:fs.length<9223372036854775000)(hm:1200000000<=m)(hm2:m<9223372036854775000):∀(M j:Nat)(r:Dt),j<=fs.length->fs.length-j<M->Dc r->r.bulk+bulkL (fs.drop j)<=1200000000->
  qE (m+2) rec1 M b l n i fs (fs.length:Int) (j:Int) z r=wL (m+2) rec1 b l n i z (zy r (fs.drop j))
 |0,j,_,_,h,_,_=>by omega
 |M+1,j,r,hj,h,hr,hb=>by
  have hl:=rF (fs.drop j);rw[List.length_drop]at hl;simp only[qE,dlt];by_cases hlt:j<fs.length
  ·rw[iB hlt]at hb ⊢
   rw[bulkL]at hb;obtain⟨f1,f2⟩:=D7 (hf _ (aI hlt));obtain⟨s1,_,s3⟩:=XC (s:=S fs[j] 0) hr f2;have hs:=aor m (S fs[j] 0) r (fld fs[j] 1) hr.wv f2 hr.k5 (by omega) (by omega) (by omega) (by omega) (by omega);have ih:=aqe m rec1 b l n i z fs hf hfl hm hm2 M (j+1) (Dq r (S fs[j] 0) (fld fs[j] 1)) (by omega) (by omega) s1 (by omega);have hj2:j<9223372036854775807:=by omega
   simp only[hlt,decide_true,cond_true,bE hlt,ah,hs,bR hj2,zy];exact ih
  ·rw[j4 hlt];simp only[hlt,decide_false,cond_false,zy]
theorem amt(m:Nat)(l:List Dt)(z:Dt)(hk:∀k∈l,Nd k)(hl:l.length<9223372036854775000)(hm:1200000000<=m)(hm2:m<9223372036854775000):∀(M i:Nat)(b:Bool)(r:Dt),i<=l.length->l.length-i<M->Dc r->r.bulk+bulkL (l.drop i)<=1200000000->
  gG (m+2) M b l (l.length:Int) (i:Int) z r=some (mgP b r (l.drop i))
 |0,i,_,_,_,h,_,_=>by omega
 |M+    1,i,  b,r,hi,h,hr,hb=>by
  simp only[gG,dlt];by_cases hlt:i<l.length
  ·rw[   iB hlt]at hb ⊢
   rw[bulkL]at hb;have ih:=fun b r=>amt m l z hk hl hm hm2 M (i+1) b r (by omega) (by omega);have hn:=hk _ (aI hlt);have e4:∀b r,qD (m+2) (gG (m+2) M) b l (l.length:Int) (i:Int) z r=gG (m+2) M b l (l.length:Int) (((i+1:Nat)):Int) z r:=fun b r=>by rw[qD,bR (by omega)]
   simp only[hlt,decide_true,cond_true,uJ,bE hlt,ah,mgP,Iz (m+1),e4];cases h0:(I l[i] 0==0)
   ·    cases h2:(I l[i] 0==2)
        ·cases h5:(I l[i] 0==5);·rfl
         ·obtain⟨d1,d2⟩:=hn.doc (kor h5);have hL:=Nk d1.wv;cases b
          ·   obtain⟨a1,a2,a3⟩:=Bf _ hr d2;have hl4:=rF (L l[i] 4);have hin:=aqe m (gG (m+2) M) false l (l.length:Int) (i:Int) z (L l[i] 4) d2 (by omega) hm hm2 (Nat.succ (m+2)) 0 r (aC _) (by omega) hr (by rw[aF];omega);rw[aF]at hin;simp only[cond_true,cond_false,Bool.or_false,Bool.false_or];refine hin.trans ?_;simp only[wL,Iz (m+1),ah,e4];cases decide ((1024:Int)<((L (zy r (L l[i] 4)) 4).length:Int));·exact ih false _ a1 (by omega)
              ·rfl
          ·exact ih false _ d1 (by have:=wv6 hr.wv;omega)
        ·exact ih b r hr (by omega)
   ·exact ih b r hr (by omega)
  ·rw[j4 hlt];simp only[hlt,decide_false,cond_false,mgP]
theorem aqf(m:Nat)(rec1:List Dt->Int->Dt->Dt->Option Dt)(l:List Dt)(i:Nat)(hi:i<l.length)(z:Dt)(hf:∀f∈L l[i] 4,WF f)(hfl:(L l[i] 4).length<9223372036854775000)(hm:1200000000<=m)(hm2:m<9223372036854775000):∀(M j:Nat)(r:Dt),j<=(L l[i] 4).length->(L l[i] 4).length-j<M->Dc r->r.bulk+bulkL ((L l[i] 4).drop j)<=1200000000->
  pq (m+2) rec1 M l (i:Int) (j:Int) z r=mK (m+2) rec1 l (i:Int) z (zy r ((L l[i] 4).drop j))
 |0,j,_,_,h,_,_=>by omega
 |M+1,j,r,hj,h,hr,hb=>by
  have hl:=rF ((L l[i] 4).drop j);rw[List.length_drop]at hl;simp only[pq,bE hi,ah,dlt];by_cases hlt:j<(L l[i] 4).length
  ·rw[iB hlt]at hb ⊢
   rw[bulkL]at hb;obtain⟨f1,f2⟩:=D7 (hf _ (aI hlt));obtain⟨s1,_,s3⟩:=XC (s:=S (L l[i] 4)[j] 0) hr f2;have hs:=aoq m (S (L l[i] 4)[j] 0) r (fld (L l[i] 4)[j] 1) hr.k5 (by omega) (by omega) (by omega);have ih:=aqf m rec1 l i hi z hf hfl hm hm2 M (j+1) (Dq r (S (L l[i] 4)[j] 0) (fld (L l[i] 4)[j] 1)) (by omega) (by omega) s1 (by omega);have hj2:j<9223372036854775807:=by omega
   simp only[hlt,decide_true,cond_true,bE hi,bE hlt,ah,hs,bR hj2,zy];exact ih
  ·rw[j4 hlt];simp only[hlt,decide_false,cond_false,zy]
theorem amu(m:Nat)(l:List Dt)(z:Dt)(hk:∀k∈l,Nd k)(hl:l.length<9223372036854775000)(hm:1200000000<=m)(hm2:m<9223372036854775000):∀(M i:Nat)(r:Dt),i<=l.length->l.length-i<M->Dc r->r.bulk+bulkL (l.drop i)<=1200000000->
  eP (m+2) M l (i:Int) z r=some (mgR r (l.drop i))
 |0,i,_,_,h,_,_=>by omega
 |M+    1,i,r,hi,h,hr,hb=>by
  simp only[eP,dlt];by_cases hlt:i<l.length
  ·rw[   iB hlt]at hb ⊢
   rw[bulkL]at hb;have ih:=fun r=>amu m l z hk hl hm hm2 M (i+1) r (by omega) (by omega);have hn:=hk _ (aI hlt);have e3:∀r,mK (m+2) (eP (m+2) M) l (i:Int) z r=eP (m+2) M l (((i+1:Nat)):Int) z r:=fun r=>by rw[mK,bR (by omega)]
   simp only[hlt,decide_true,cond_true,bE hlt,ah,mgR,IB (m+1),e3];cases h0:(I l[i] 0==0)
   ·    cases h2:(I l[i] 0==2)
        ·cases h5:(I l[i] 0==5)
         ·rw[show (I l[i] 0 !=5)=true by rw[bne,h5];rfl];rfl
         ·obtain⟨d1,d2⟩:=hn.doc (kor h5);have hL:=Nk d1.wv;obtain⟨a1,a2,a3⟩:=Bf _ hr d2;have hl4:=rF (L l[i] 4);have hin:=aqf m (eP (m+2) M) l i hlt z d2 (by omega) hm hm2 (Nat.succ (m+2)) 0 r (aC _) (by omega) hr (by rw[aF];omega);rw[aF]at hin;rw[show (I l[i] 0 !=5)=false by rw[bne,h5];rfl];refine hin.trans ?_;rw[e3];exact ih _ a1 (by omega)
        ·exact ih r hr (by omega)
   ·exact ih r hr (by omega)
  ·rw[j4 hlt];simp only[hlt,decide_false,cond_false,mgR]
theorem vT:∀(l:List Dt),(∀k∈l,Nd k)->bulkL l<=4300800*l.length
 | [],_=>ay _
 |a::l,h=>by have h1:=(h a (aO ..)).bulk;have h2:=vT l fun k hk=>h k (aT _ hk);rw[bulkL,List.length_cons];omega
theorem apc(l:List Dt)(hk:∀k∈l,Nd k)(h:l.length<=256)(m:Nat)(hm:1200000001<=m)(hm2:m<9223372036854775000):pG (m+2) l=some (mgS l):=by have hB:=vT l hk;obtain⟨q,rfl⟩:∃q,m=q+1:=⟨m-1,by omega⟩;have key:=amt q l aj hk (by omega) (by omega) (by omega) (Nat.succ (q+2)) 0 true (uW []) (aC _) (by omega) apb (by have:(uW []).bulk=6:=rfl;rw[aF];omega);rw[aF]at key;exact key
theorem apd(l:List Dt)(hk:∀k∈l,Nd k)(h:l.length<=256)(m:Nat)(hm:1200000001<=m)(hm2:m<9223372036854775000):nu (m+2) l=some (mgR (uW []) l):=by have hB:=vT l hk;obtain⟨q,rfl⟩:∃q,m=q+1:=⟨m-1,by omega⟩;have key:=amu q l aj hk (by omega) (by omega) (by omega) (Nat.succ (q+2)) 0 (uW []) (aC _) (by omega) apb (by have:(uW []).bulk=6:=rfl;rw[aF];omega);rw[aF]at key;exact key
def VE:Nat->Dt->Prop
 |0,_=>False
 |r+1,d=>nodeS d=0∧(L d 6).length<=256∧∀k∈L d 6,VE r k
theorem amv{b:Bool}{x y:Int}(h:(bif b then x else y)=0)(hx:x≠0):b=false∧y=0:=by
 cases b;·exact⟨rfl,h⟩
 ·exact absurd h hx
theorem afN{f:Dt->Nat->Nat×Int}(hf:∀e n,n<=256->(f e n).2=0->n<(f e n).1∧(f e n).1<=256):∀(l:List Dt)(n:Nat),n<=256->(ckL f l n).2=0->n+l.length<=(ckL f l n).1∧∀e∈l,∃n',n'<=256∧(f e n').2=0
 | [],n,hn,h=>⟨ay _,fun _ h=>by cases h⟩
 |e::r,n,hn,h=>by
  rw[ckL]at h ⊢
  cases hb:((f e n).2 !=0)with
  |true=>
   rw[hb,cond_true]at h;rw[h]at hb;cases hb
  |false=>
   have hz:(f e n).2=0:=by simpa [bne]using hb
   rw[hb,cond_false]at h;rw[cond_false];obtain⟨h1,h2⟩:=hf e n hn hz;obtain⟨h3,h4⟩:=afN hf r _ h2 h;refine⟨by rw[List.length_cons];omega,fun x hx=>?_⟩;rcases List.mem_cons.1 hx with rfl|hx;·exact⟨n,hn,hz⟩
   ·exact h4 x hx
theorem XE:∀(r:Nat)(d:Dt)(n:Nat),n<=256->(ckE r d n).2=0->n<(ckE r d n).1∧VE r d
 |0,_,_,_,h=>absurd (show (2:Int)=0 from h) (by decide)
 |r+    1,d,n,hn,h=>by
  rw[ckE]at h ⊢
  cases hb:Nat.beq n 256 with
  |true=>
   rw[hb,cond_true]at h;exact absurd (show (2:Int)=0 from h) (by decide)
  |false=>
   have h9:n≠256:=fun h=>by subst h;cases hb
   rw[hb,cond_false]at h;rw[cond_false];cases hz:(nodeS d !=0)with
   |    true=>
        rw[hz,cond_true]at h;have h:nodeS d=0:=h;rw[h]at hz;cases hz
   |    false=>
        have hz':nodeS d=0:=by simpa [bne]using hz
        rw[hz,cond_false]at h;rw[cond_false];obtain⟨h1,h2⟩:=afN (f:=ckE r) (fun e n hn he=>⟨(XE r e n hn he).1,PG r e n hn⟩) (L d 6) (n+1) (by omega) h;have h3:=adr (f:=ckE r) (fun e n h=>PG r e n h) (L d 6) (n+1) (by omega);refine⟨by omega,hz',by omega,fun k hk=>?_⟩;obtain⟨n',hn',he⟩:=h2 k hk;exact(XE r k n' hn' he).2
theorem Ea{d:Dt}(h:nodeS d=0):1<=I d 0∧I d 0<=37∧ehk (RX (I d 0)) ((L d 6).length:Int)=true∧(I d 0=34->(L d 3).length=(L d 6).length)∧(I d 0=1->okV (fld d 4)=true):=by
 rw[nodeS]at h;obtain⟨h1,h⟩:=amv h (by decide);obtain⟨h2,h⟩:=amv h (by decide);rw[sE]at h;obtain⟨_,h⟩:=amv h (by decide);rw[sD]at h;obtain⟨_,h⟩:=amv h (by decide);rw[sC]at h;obtain⟨h3,_⟩:=amv h (by decide);rw[Bool.or_eq_false_iff]at h1 h2;have h11:=of_decide_eq_false h1.1;have h12:=of_decide_eq_false h1.2;refine⟨by omega,by omega,by simpa using h2.1,fun e=>?_,fun e=>?_⟩
 ·have h4:=h2.2;rw[e,show ((34:Int)==34)=true from rfl,Bool.true_and]at h4;have h5:((L d 6).length:Int)=((L d 3).length:Int):=by simpa [bne]using h4
  omega
 ·rw[e,show ((1:Int)==1)=true from rfl,Bool.true_and]at h3;simpa using h3
