/- expr: the value at a path, by the program and by the reference.
expr:operators on integers,by the program and by the reference.
expr:truth values,comparisons,logic,by the program and by the reference.
expr:operators on strings,by the program and by the reference.
expr:parts of strings,joined strings.
expr:operators on lists,by the program and by the reference.
expr:each operator on lists.
expr:the reference's operators on one list;joined strings.
expr:lists and documents out of the values of kids.
expr:each operator,by the program's and the reference's branches. Printed by eap.py.
expr:the loops over kids,elements and variables.
Valid values are small.
expr:a node's value is missing,valid or null.
expr:values at paths are well-formed,no bigger,and missing only as the zero value.
expr:the results of the operators are well-formed and of bounded size.
expr:the results of the operators on lists and of collections.
expr:joined strings:the program's and the reference's agree as values of a node;documents.
expr:the value of an expression,in plain Lean.
expr:documents merged,in plain Lean:the program's and the reference's rule give the same value of a node.
expr:documents merged:the program's and the reference's loops.
expr:what a valid expression is:a tree of at most 16 levels with good nodes,each of at most 256 kids. -/
import Derived.Test.YtmecfjhdnbgfeaaGreatDoorSh
import Derived.Test.YtmecfjhdnbgfeaaGreatDoorPA
set_option linter.all false
namespace Go.Proofs.YtmecfjhdnbgfeaaGreatDoor
open Go.Am Dt
def fnd(x:ByteArray):List Dt->Option Dt
 | []=>none
 |f::r=>bif ByteArray.toList (S f 0)==ByteArray.toList x then some (fld f 1)else fnd x r
def yQ(l:List Dt):Dt:= .agg [.int 6,.int 0,.str (ByteArray.mk (List.toArray [])),.lst l,.lst []]
def nnB(x:Dt):Bool:=I x 0 !=0
def atN:Nat->Dt->List Dt->Dt
 |0,_,_=>aC
 |_+1,v,[]=>v
 |  n+1,v,s::r=>
    bif I v 0==5 then(match fnd (toStr s) (L v 4)with
     |some x=>atN n x r
     |none=>aC)
    else bif I v 0==6 then yQ (((L v 3).map fun e=>atN n e (s::r)).filter nnB)else aC
theorem anF(s:Dt)(p:List Dt):cutL (s::p) 1 ((s::p).length:Int)=some p:=by have:=Ws (l:=s::p) (i:=1) (j:=(s::p).length) (by simp) (aj _);simpa using this
theorem aiH(s:Dt)(p:List Dt):idx (s::p) 0=some s:=bI (l:=s::p) (i:=0) (by simp)
theorem uf{A:Type}{L:List A}{i:Nat}(h:i<L.length):L.drop i=L[i]::L.drop (i+1):=aG h
theorem xU{A:Type}{L:List A}{i:Nat}(h:¬i<L.length):L.drop i=[]:=List.drop_eq_nil_of_le (by omega)
theorem J5{x:ByteArray}{v:Dt}:∀{L:List Dt},fnd x L=some v->∃f∈L,v=fld f 1
 |f::r,h=>by
  rw[fnd]at h;cases hc:ByteArray.toList (S f 0)==ByteArray.toList x
  ·rw[hc,cond_false]at h;obtain⟨g,h1,h2⟩:=J5 h;exact⟨g,bD _ h1,h2⟩
  ·rw[hc,cond_true]at h;cases h;exact⟨f,bA ..,rfl⟩
theorem adn{x:ByteArray}{v d:Dt}{i:Nat}(h:fnd x (L d i)=some v):v.bulk<d.bulk:=by obtain⟨f,h1,rfl⟩:=J5 h;have:=mF f 1;have:=oK h1;omega
theorem Za(m:Nat)(self:Dt->List Dt->Option Dt)(s:Dt)(r fs:List Dt)(z:Dt)(g:Dt->Dt)(hl:fs.length<9223372036854775807)(hs:∀f∈fs,self (fld f 1) r=some (g (fld f 1))):
  ∀(M i:Nat),i<=fs.length->fs.length-i<M->nk m self M (s::r) fs (fs.length:Int) (i:Int) z=some (match fnd (toStr s) (fs.drop i)with
   |some x=>g x
   |none=>aC)
 |0,i,_,h=>by omega
 |M+    1,i,hi,h=>by
  simp only[nk,dlt];by_cases hlt:i<fs.length
  ·rw[uf hlt,fnd];simp only[hlt,decide_true,cond_true,je,j6,bI hlt,aiH,ah,bX (show i<9223372036854775807 by omega),anF s r];cases hc:ByteArray.toList (S fs[i] 0)==ByteArray.toList (toStr s)
   ·    simp only[cond_false];exact Za m self s r fs z g hl hs M (i+1) (by omega) (by omega)
   ·simp only[cond_true,hs _ (aF hlt),ah]
  ·rw[xU hlt];simp only[hlt,decide_false,cond_false,je,j6,fnd]
theorem Ru(m:Nat)(self:Dt->List Dt->Option Dt)(p l:List Dt)(z:Dt)(g:Dt->Dt)(hl:l.length<=137438953472)(hs:∀e∈l,self e p=some (g e)):
  ∀(M i:Nat)(acc:List Dt),i<=l.length->acc.length<=i->l.length-i<M->jf m self M p l (l.length:Int) (i:Int) z 6 0 (ByteArray.mk (List.toArray [])) acc []=some (yQ (acc++((l.drop i).map g).filter nnB))
 |0,i,_,_,_,h=>by omega
 |M+    1,i,acc,hi,ha,h=>by
  simp only[jf,dlt];by_cases hlt:i<l.length
  ·rw[uf hlt,List.map_cons,List.filter_cons];simp only[hlt,decide_true,cond_true,je,j6,bI hlt,ah,bX (show i<9223372036854775807 by omega),hs _ (aF hlt),nnB];rcases Bool.eq_false_or_eq_true (I (g l[i]) 0 !=0)with hc|hc
   case inr=>
        simp only[hc,cond_false,Bool.false_eq_true,if_false];exact Ru m self p l z g hl hs M (i+1) acc (by omega) (by omega) (by omega)
   case inl=>
        have h1:(acc++[g l[i]]).length<=i+1:=by rw[aD];simp;omega
        simp only[hc,cond_true,if_true,rU (l:=acc) (r:=[g l[i]]) (by simp;omega),ah];rw[Ru m self p l z g hl hs M (i+1) _ (by omega) h1 (by omega),List.append_assoc];rfl
  ·rw[xU hlt];simp only[hlt,decide_false,cond_false,je,j6,List.map_nil,List.filter_nil,List.append_nil];rfl
theorem Gf:∀(n m:Nat)(v:Dt)(p:List Dt),v.bulk<=n->n<=m->v.bulk<=137438953472->bY (m+1) v p=some (atN (n+1) v p)
 |n,m,v,[],_,_,_=>by simp[bY,atN]
 |0,m,v,s::r,h,_,_=>by have:=o8 v;omega
 |n+    1,m,v,s::r,h,hm,hb=>by
  obtain⟨m,rfl⟩:∃k,m=k+1:=⟨m-1,by omega⟩;have y0:(((s::r).length:Int)==0)=false:=by rw[show (0:Int)=((0:Nat):Int)from rfl,ieq];simp
  have hd:∀f∈L v 4,bY (m+1) (fld f 1) r=some ((fun x=>atN (n+1) x r) (fld f 1)):=fun f hf=>by have:=mF f 1;have:=oK hf;exact Gf n m _ r (by omega) (by omega) (by omega)
  have hl:∀e∈L v 3,bY (m+1) e (s::r)=some ((fun x=>atN (n+1) x (s::r)) e):=fun e he=>by have:=oK he;exact Gf n m _ (s::r) (by omega) (by omega) (by omega)
  have n4:=oh v 4;have n3:=oh v 3;rw[bY,y0,cond_false,atN];unfold j6;cases h5:(I v 0==5)
  ·simp only[cond_false];cases h6:(I v 0==6);·simp only[cond_false]
   ·    simp only[cond_true];have:=Ru (m+1) (bY (m+1)) (s::r) (L v 3) aC (fun x=>atN (n+1) x (s::r)) (by omega) hl (Nat.succ (m+1)) 0 [] (aI _) (aj _) (by omega);simpa using this
  ·simp only[cond_true];have:=Za (m+1) (bY (m+1)) s r (L v 4) aC (fun x=>atN (n+1) x r) (by omega) hd (Nat.succ (m+1)) 0 (aI _) (by omega);simpa using this
def kV(k n:Int):Dt:= .agg [.int k,.int n,.str (ByteArray.mk (List.toArray [])),.lst [],.lst []]
def iD(d:Dt):Dt:= .int (I d 1)
def isK(k:Int)(d:Dt):Bool:=I d 0==k
theorem set_mid(A B:List Dt)(z x:Dt):(A++z::B).set A.length x=A++x::B:=by
 induction A with
 |nil=>rfl
 |cons a A ih=>simp only[List.cons_append,List.length_cons,List.set_cons_succ,ih]
theorem ED(m:Nat):cB (m+1)=some (kV 2 0):=rfl
theorem int_eq(m:Nat)(n:Int):bS (m+1) n=some (kV 3 n):=rfl
def w64(n:Int):Int:=IntKind.wrap .i64 n
theorem aln(n:Int):w64 n=(n+9223372036854775808)%18446744073709551616-9223372036854775808:=by unfold w64;rw[IntKind.wrap_i64]
def quS(a b:Int):Int:=bif (Int.tmod a b !=0)&&!(decide (a<0)==decide (b<0))then w64 (w64 (Int.tdiv a b)-1)else w64 (Int.tdiv a b)
theorem Zb(m:Nat)(a b:Int)(hb:b≠0):iJ (m+1) a b=some (quS a b):=by
 have h0:decide (b=0)=false:=decide_eq_false hb;rw[iJ,h0,cond_false,cond_false,quS];cases (Int.tmod a b !=0);·simp only[cond_false,Bool.false_and,lW];rfl
 ·simp only[cond_true,Bool.true_and,lW];cases (!(decide (a<0)==decide (b<0)))<;>rfl
theorem Xk(m:Nat)(l:List Dt)(z:Dt)(hl:l.length<9223372036854775807):∀(M i:Nat)(n:Int),i<=l.length->l.length-i<M->gZ (m+1) M n l (l.length:Int) (i:Int) z=some (kV 3 ((l.drop i).foldl (fun n d=>w64 (n+toInt d)) n))
 |0,i,_,_,h=>by omega
 |M+1,i,n,hi,h=>by
  simp only[gZ,dlt];by_cases hlt:i<l.length
  ·rw[uf hlt,List.foldl_cons];simp only[hlt,decide_true,cond_true,dU,fD,ig,bI hlt,ah,bX (show i<9223372036854775807 by omega)];exact Xk m l z hl M (i+1) _ (by omega) (by omega)
  ·rw[xU hlt];simp only[hlt,decide_false,cond_false,dU,fD,ig,int_eq,ah,List.foldl_nil]
theorem ado(m:Nat)(l:List Dt)(z:Dt)(hl:l.length<9223372036854775807):∀(M i:Nat)(n:Int),i<=l.length->l.length-i<M->jh (m+1) M n l (l.length:Int) (i:Int) z=some (kV 3 ((l.drop i).foldl (fun n d=>w64 (n*toInt d)) n))
 |0,i,_,_,h=>by omega
 |M+1,i,n,hi,h=>by
  simp only[jh,dlt];by_cases hlt:i<l.length
  ·rw[uf hlt,List.foldl_cons];simp only[hlt,decide_true,cond_true,dU,fD,ig,bI hlt,ah,bX (show i<9223372036854775807 by omega)];exact ado m l z hl M (i+1) _ (by omega) (by omega)
  ·rw[xU hlt];simp only[hlt,decide_false,cond_false,dU,fD,ig,int_eq,ah,List.foldl_nil]
theorem akq(m:Nat)(op:Int)(l:List Dt)(z:Dt)(hl:l.length<9223372036854775807):∀(M i:Nat),i<=l.length->l.length-i<M->
  jO (m+1) M op l (l.length:Int) (i:Int) z ((l.take i).map iD++List.replicate (l.length-i) (int 0))=bif (l.drop i).all (isK 3)then ig (m+1) op z (l.map iD)else some (kV 2 0)
 |0,i,_,h=>by omega
 |M+    1,i,hi,h=>by
  simp only[jO,dlt];by_cases hlt:i<l.length
  ·rw[uf hlt,List.all_cons];have hA:((l.take i).map iD).length=i:=by rw[List.length_map,List.length_take];omega
   have hR:List.replicate (l.length-i) (int 0)=int 0::List.replicate (l.length-(i+1)) (int 0):=by rw[show l.length-i=(l.length-(i+1))+1 by omega];rfl
   have hin:inL ((l.take i).map iD++List.replicate (l.length-i) (int 0)) (i:Int)=some ():=tZ (by rw[aD,hA,List.length_replicate];omega);have hge:((l.take i).map iD++List.replicate (l.length-i) (int 0))[i]? =some (int 0):=by rw[hR,List.getElem?_append_right (by omega),hA,Nat.sub_self];rfl
   have hset:((l.take i).map iD++List.replicate (l.length-i) (int 0)).set i (int (I l[i] 1))=(l.take (i+1)).map iD++List.replicate (l.length-(i+1)) (int 0):=by have:=set_mid ((l.take i).map iD) (List.replicate (l.length-(i+1)) (int 0)) (int 0) (int (I l[i] 1));rw[hA]at this;rw[hR,this,List.take_succ_eq_append_getElem hlt,List.map_append,List.append_assoc];rfl
   simp only[hlt,decide_true,cond_true,bI hlt,ah,bX (show i<9223372036854775807 by omega),Int.toNat_natCast,hin,hge,hset,isK,ED];cases hc:(I l[i] 0==3);·rw[show (I l[i] 0 !=3)=true by rw[bne,hc];rfl];rfl
   ·    rw[show (I l[i] 0 !=3)=false by rw[bne,hc];rfl,cond_false,Bool.true_and];exact akq m op l z hl M (i+1) (by omega) (by omega)
  ·have e:i=l.length:=by omega
   subst e;simp only[hlt,decide_false,cond_false,List.drop_length,List.all_nil,cond_true,Nat.sub_self,List.replicate_zero,List.append_nil,List.take_length]
def N8(op:Int)(l:List Dt):Dt:=
 bif l.all (isK 3)then
    bif op==6 then kV 3 (l.foldl (fun n d=>w64 (n*I d 1)) 1)
    else bif op==4 then kV 3 (l.foldl (fun n d=>w64 (n+I d 1)) 0)
    else bif op==5 then kV 3 (w64 (I (l.getD 0 aC) 1-I (l.getD 1 aC) 1))
    else bif I (l.getD 1 aC) 1==0 then kV 2 0
    else bif op==8 then kV 3 (w64 (I (l.getD 0 aC) 1-w64 (I (l.getD 1 aC) 1*quS (I (l.getD 0 aC) 1) (I (l.getD 1 aC) 1))))
    else kV 3 (quS (I (l.getD 0 aC) 1) (I (l.getD 1 aC) 1))
 else kV 2 0
def Zc(op:Int)(l:List Dt):Prop:=op=4∨op=6∨((op=5∨op=7∨op=8)∧∃a b,l=[a,b])
theorem Zd(f:Int->Int->Int)(l:List Dt)(n:Int):(l.map iD).foldl (fun n d=>w64 (f n (toInt d))) n=l.foldl (fun n d=>w64 (f n (I d 1))) n:=by rw[List.foldl_map];rfl
theorem z8(m:Nat)(op:Int)(l:List Dt)(hl:l.length<=137438953472)(hm:l.length<=m)(ho:Zc op l):dX (m+2) op l=some (N8 op l):=by
 have h1:=akq m op l aC (by omega) (Nat.succ (m+1)) 0 (aI _) (by omega);rw[List.take_zero,aQ,List.map_nil,List.nil_append,Nat.sub_zero,show ((0:Nat):Int)=0 from rfl]at h1;rw[dX,uG hl,ah,h1,N8];cases hk:l.all (isK 3);·rfl
 ·rw[   cond_true,cond_true];rcases ho with rfl|rfl| ⟨ho,a,b,rfl⟩
  ·have h2:=Xk m (l.map iD) aC (by rw[List.length_map];omega) (Nat.succ (m+1)) 0 0 (aI _) (by rw[List.length_map];omega);rw[aQ,Zd (fun x y=>x+y)]at h2;exact h2
  ·have h2:=ado m (l.map iD) aC (by rw[List.length_map];omega) (Nat.succ (m+1)) 0 1 (aI _) (by rw[List.length_map];omega);rw[aQ,Zd (fun x y=>x*y)]at h2;exact h2
  ·rcases ho with rfl|rfl|rfl
   ·    have h2:=Xk m [iD a,int (w64 (0-I b 1))] aC (by simp) (Nat.succ (m+1)) 0 0 (aI _) (by simp at hm ⊢;omega);refine Eq.trans (show _=_ from rfl) (h2.trans ?_);show some (kV 3 (w64 (w64 (0+I a 1)+w64 (0-I b 1))))=some (kV 3 (w64 (I a 1-I b 1)));rw[show w64 (w64 (0+I a 1)+w64 (0-I b 1))=w64 (I a 1-I b 1) by simp only[aln];omega]
   ·    show fD (m+1) 7 aC [iD a,iD b]=some (bif I b 1==0 then kV 2 0 else kV 3 (quS (I a 1) (I b 1)));cases hb:(I b 1==0)
        ·have hb':I b 1≠0:=by simpa using hb
         show ((bif (I b 1==0)then _ else dU (m+1) 7 aC [iD a,iD b]):Option Dt)=_;rw[hb,cond_false];show ((iJ (m+1) (I a 1) (I b 1)).bind _:Option Dt)=_;rw[Zb m _ _ hb'];rfl
        ·show ((bif (I b 1==0)then some (kV 2 0)else dU (m+1) 7 aC [iD a,iD b]):Option Dt)=_;rw[hb];rfl
   ·    show fD (m+1) 8 aC [iD a,iD b]=some (bif I b 1==0 then kV 2 0 else kV 3 (w64 (I a 1-w64 (I b 1*quS (I a 1) (I b 1)))));cases hb:(I b 1==0)
        ·have hb':I b 1≠0:=by simpa using hb
         show ((bif (I b 1==0)then _ else dU (m+1) 8 aC [iD a,iD b]):Option Dt)=_;rw[hb,cond_false];show ((iJ (m+1) (I a 1) (I b 1)).bind _:Option Dt)=_;rw[Zb m _ _ hb'];rfl
        ·show ((bif (I b 1==0)then some (kV 2 0)else dU (m+1) 8 aC [iD a,iD b]):Option Dt)=_;rw[hb];rfl
theorem abN{A:Type}(b:Bool)(x y:A):(bif b then some x else some y)=some (bif b then x else y):=by cases b<;>rfl
def bV(b:Bool):Dt:=kV 9 (bif b then 1 else 0)
def trB(d:Dt):Bool:=bif I d 0==0 then false else bif I d 0==2 then false else bif I d 0==9 then I d 1 !=0 else bif I d 0==3 then I d 1 !=0 else true
def orN(d:Dt):Dt:=bif I d 0==0 then kV 2 0 else d
theorem Bw(m:Nat)(d:Dt):eu (m+1) d=some (trB d):=by
 rw[eu,trB];cases h0:(I d 0==0)
 ·rw[   cond_false,cond_false,qE];cases h2:(I d 0==2)
  ·rw[cond_false,cond_false];cases h9:(I d 0==9)
   ·    rw[cond_false,cond_false,qD];cases h3:(I d 0==3)<;>rfl
   ·rfl
  ·rfl
 ·rfl
theorem EF(m:Nat)(b:Bool):bW (m+1) b=some (bV b):=by cases b<;>rfl
theorem Xl(m:Nat)(d:Dt):gW (m+2) d=some (orN d):=by rw[gW,orN];cases (I d 0==0)<;>rfl
def Jm(op c:Int):Dt:=
 bif op==10 then bV (c==0)else bif op==11 then bV (c !=0)else bif op==12 then bV (decide (0<c))else bif op==13 then bV (decide (0<=c))
 else bif op==14 then bV (decide (c<0))else bif op==15 then bV (decide (c<=0))else kV 3 c
theorem yR(m:Nat)(op c:Int):jg (m+2) op c=some (Jm op c):=by rw[jg,Jm];simp only[EF,ah,int_eq,abN]
theorem Ze(m:Nat)(op:Int)(l:List Dt)(z:Dt)(hl:l.length<9223372036854775807):∀(M i:Nat)(a o:Bool),i<=l.length->l.length-i<M->kY (m+1) M op a o l (l.length:Int) (i:Int) z=some (bif op==16 then bV (a&&(l.drop i).all trB)else bV (o||(l.drop i).any trB))
 |0,i,_,_,_,h=>by omega
 |M+1,i,a,o,hi,h=>by
  simp only[kY,dlt];by_cases hlt:i<l.length
  ·rw[uf hlt,List.all_cons,List.any_cons];simp only[hlt,decide_true,cond_true,sK,bI hlt,Bw,ah,bX (show i<9223372036854775807 by omega),Ze m op l z hl M (i+1) _ _ (by omega) (by omega)];cases a<;>cases o<;>cases trB l[i]<;>simp
  ·rw[xU hlt];simp only[hlt,decide_false,cond_false,EF,ah,List.all_nil,List.any_nil,Bool.and_true,Bool.or_false];cases (op==16)<;>rfl
def aoS(op:Int)(l:List Dt):Dt:=bif op==16 then bV (l.all trB)else bV (l.any trB)
theorem Ui(m:Nat)(op:Int)(l:List Dt)(hl:l.length<9223372036854775807)(hm:l.length<=m)(ho:op=16∨op=17):gH (m+2) op l=some (aoS op l):=by have h:=Ze m op l aC hl (Nat.succ (m+1)) 0 true false (aI _) (by omega);rw[aQ,Bool.true_and,Bool.false_or]at h;rcases ho with rfl|rfl<;>exact h
theorem abO(m:Nat)(a:Dt):gH (m+2) 18 [a]=some (bV (!trB a)):=by show ((eu (m+1) a).bind _:Option Dt)=_;rw[Bw,ah,EF];rfl
theorem adp(m:Nat)(a b c:Dt):gH (m+2) 19 [a,b,c]=some (bif trB a then b else c):=by show ((eu (m+1) a).bind _:Option Dt)=_;rw[Bw,ah];cases trB a<;>rfl
theorem abP(m:Nat)(a b:Dt):gH (m+3) 20 [a,b]=some (bif I (orN a) 0==2 then b else a):=by show ((gW (m+2) a).bind _:Option Dt)=_;rw[Xl,ah];cases (I (orN a) 0==2)<;>rfl
end Go.Proofs.YtmecfjhdnbgfeaaGreatDoor
namespace Go.Proofs.YtmecfjhdnbgfeaaGreatDoor
open Go.Am
def bs(l:List UInt8):ByteArray:=⟨l.toArray⟩
theorem aiI(l:List UInt8):(bs l).size=l.length:=by show (List.toArray l).size=_;rw[List.size_toArray]
def aiJ(s:ByteArray)(a n:Int):ByteArray:=s.extract (min a.toNat s.size) (min a.toNat s.size+min n.toNat (s.size-min a.toNat s.size))
def slS(a b c:Dt):Dt:=bif isK 4 a&&isK 3 b&&isK 3 c&&!decide (Dt.I b 1<0)&&!decide (Dt.I c 1<0)then Oj (aiJ (Dt.S a 2) (Dt.I b 1) (Dt.I c 1))else kV 2 0
end Go.Proofs.YtmecfjhdnbgfeaaGreatDoor
namespace Go.Proofs.YtmecfjhdnbgfeaaGreatDoor
open Go.Am Dt
theorem aiK(s:ByteArray)(A k:Nat)(h:A+k<=s.size):(s.extract A s.size).extract 0 k=s.extract A (A+k):=by rw[ByteArray.extract_extract,Nat.add_zero,Nat.min_eq_left (by omega)]
theorem ext_size(s:ByteArray)(A:Nat):(s.extract A s.size).size=s.size-A:=by rw[ByteArray.size_extract,Nat.min_self]
theorem anG(a b:Nat):(bif decide ((b:Int)<(a:Int))then(b:Int)else(a:Int))=((min a b:Nat):Int):=by
 by_cases h:(b:Int)<a;·rw[decide_eq_true h,cond_true,Nat.min_eq_right (by omega)]
 ·rw[decide_eq_false h,cond_false,Nat.min_eq_left (by omega)]
theorem Xm(m:Nat)(s:ByteArray)(a n:Nat)(z b c:Dt)(hb:I b 1=a)(hc:I c 1=n):P1.expr_ofTexts_j9 (m+1) s z b c=some (Oj (aiJ s a n)):=by rw[P1.expr_ofTexts_j9,hb,hc,anG,Wt (Nat.min_le_right _ _) (aj _),ah,ext_size,anG];rw[show (0:Int)=((0:Nat):Int)from rfl,Wt (aI _) (by rw[ext_size];exact Nat.min_le_right _ _),ah,aiK _ _ _ (by omega)];rfl
theorem Xn{x:Int}(h:¬x<0):∃n:Nat,x=n:=⟨x.toNat,by omega⟩
theorem abQ(a b c:Dt):dZ 25 [a,b,c]=some (slS a b c):=by
 show P1.expr_ofTexts_j5 99 25 [a,b,c] aC=_;show ((bif (I a 0 !=4)then some (kV 2 0)else P1.expr_ofTexts_j7 99 [a,b,c] (S a 2) aC):Option Dt)=_;unfold slS isK;cases h4:(I a 0==4);·rw[show (I a 0 !=4)=true by rw[bne,h4];rfl];rfl
 ·rw[   show (I a 0 !=4)=false by rw[bne,h4];rfl,cond_false,Bool.true_and];show ((bif (I b 0 !=3)then some (kV 2 0)else _):Option Dt)=_;cases h3:(I b 0==3);·rw[show (I b 0 !=3)=true by rw[bne,h3];rfl];rfl
  ·rw[   show (I b 0 !=3)=false by rw[bne,h3];rfl,cond_false,Bool.true_and];cases h33:(I c 0==3);·rw[show (I c 0 !=3)=true by rw[bne,h33];rfl];rfl
   ·    rw[show (I c 0 !=3)=false by rw[bne,h33];rfl,cond_false,Bool.true_and];by_cases hb:I b 1<0;·rw[decide_eq_true hb];rfl
        ·rw[decide_eq_false hb,cond_false,Bool.not_false,Bool.true_and];by_cases hc:I c 1<0;·rw[decide_eq_true hc];rfl
         · rw[decide_eq_false hc,Bool.not_false,cond_true];obtain⟨x,hx⟩:=Xn hb;obtain⟨y,hy⟩:=Xn hc;rw[hx,hy];exact Xm 98 (S a 2) x y aC b c hx hy
def Uj(op:Int)(a:Dt):Dt:=bif isK 4 a then(bif op==22 then Oj (shS (S a 2) 65 97)else bif op==23 then Oj (shS (S a 2) 97 65)else kV 3 ((S a 2).size:Int))else kV 2 0
theorem Rv(op:Int)(a:Dt)(ho:op=22∨op=23∨op=24):dZ op [a]=some (Uj op a):=by
 unfold Uj isK;rcases ho with rfl|rfl|rfl<;>show ((bif (I a 0 !=4)then some (kV 2 0)else _):Option Dt)=_<;>cases h4:(I a 0==4);·rw[show (I a 0 !=4)=true by rw[bne,h4];rfl];rfl
 ·rw[show (I a 0 !=4)=false by rw[bne,h4];rfl];rfl
 ·rw[show (I a 0 !=4)=true by rw[bne,h4];rfl];rfl
 ·rw[show (I a 0 !=4)=false by rw[bne,h4];rfl];rfl
 ·rw[show (I a 0 !=4)=true by rw[bne,h4];rfl];rfl
 ·rw[show (I a 0 !=4)=false by rw[bne,h4];rfl];rfl
def Gg(l:List Dt):List Dt:=l.flatMap fun d=>L d 3
theorem Bz(a:Dt)(l:List Dt):Gg (a::l)=L a 3++Gg l:=rfl
theorem Uk(m:Nat)(op:Int)(ks l:List Dt)(z:Dt)(hl:l.length<9223372036854775807):∀(M i:Nat)(acc:List Dt),i<=l.length->l.length-i<M->acc.length+(Gg (l.drop i)).length<=137438953472->
  nC (m+1) M op ks l (l.length:Int) (i:Int) z acc=bif (l.drop i).all (isK 6)then tL (m+1) op ks z (acc++Gg (l.drop i))else some (kV 2 0)
 |0,i,_,_,h,_=>by omega
 |M+1,i,acc,hi,h,hc=>by
  simp only[nC,dlt];by_cases hlt:i<l.length
  ·rw[uf hlt]at hc;rw[Bz,aD]at hc;rw[uf hlt,List.all_cons,Bz];simp only[hlt,decide_true,cond_true,bI hlt,ah,bX (show i<9223372036854775807 by omega),ED,isK];cases hk:(I l[i] 0==6);·rw[show (I l[i] 0 !=6)=true by rw[bne,hk];rfl];rfl
   ·rw[show (I l[i] 0 !=6)=false by rw[bne,hk];rfl,cond_false,Bool.true_and,rU (by omega),ah,Uk m op ks l z hl M (i+1) _ (by omega) (by omega) (by rw[aD];omega),List.append_assoc]
  ·rw[xU hlt];simp only[hlt,decide_false,cond_false,List.all_nil,cond_true];rw[show Gg []=[]from rfl,List.append_nil]
theorem Gh(m:Nat)(op:Int)(ks l:List Dt)(hl:l.length<9223372036854775807)(hm:l.length<=m)(hc:(Gg l).length<=137438953472):
  fC (m+1) op ks l aC=bif l.all (isK 6)then tL (m+1) op ks aC (Gg l)else some (kV 2 0):=by
 have h:=Uk m op ks l aC hl (Nat.succ (m+1)) 0 [] (aI _) (by omega) (by rw[aQ];simpa using hc);rw[aQ,List.nil_append]at h;exact h
def aqe(l:List Dt):Int:=l.foldl (fun n d=>bif isK 3 d then w64 (n+I d 1)else n) 0
theorem KG(m:Nat)(l:List Dt)(z:Dt)(hl:l.length<9223372036854775807):∀(M i:Nat)(n:Int),i<=l.length->l.length-i<M->jG (m+1) M n l (l.length:Int) (i:Int) z=some (kV 3 ((l.drop i).foldl (fun n d=>bif isK 3 d then w64 (n+I d 1)else n) n))
 |0,i,_,_,h=>by omega
 |M+    1,i,n,hi,h=>by
  simp only[jG,dlt];by_cases hlt:i<l.length
  ·rw[uf hlt,List.foldl_cons];simp only[hlt,decide_true,cond_true,bI hlt,ah,bX (show i<9223372036854775807 by omega),isK];cases hk:(I l[i] 0==3)
   ·    simp only[cond_false];exact KG m l z hl M (i+1) _ (by omega) (by omega)
   ·    simp only[cond_true];exact KG m l z hl M (i+1) _ (by omega) (by omega)
  ·rw[xU hlt];simp only[hlt,decide_false,cond_false,int_eq,ah,List.foldl_nil]
def anH(l R:List Dt)(i:Nat):Prop:=R.length=l.length∧∀k(hk:k<l.length),R[k]? =if k<i∨l.length<=k+i then l[l.length-1-k]? else l[k]?
theorem aiL{l R:List Dt}{i:Nat}(h:anH l R i)(hi:l.length<=2*i+1):R=l.reverse:=by
 apply List.ext_getElem?;intro k;by_cases hk:k<l.length
 ·rw[h.2 k hk,List.getElem?_reverse hk];by_cases hc:k<i∨l.length<=k+i;·rw[if_pos hc]
  ·rw[if_neg hc,show l.length-1-k=k by omega]
 ·rw[List.getElem?_eq_none (by have:=h.1;omega),List.getElem?_eq_none (by rw[List.length_reverse];omega)]
theorem Ul(m:Nat)(l:List Dt)(z:Dt)(hl:l.length<9223372036854775807):∀(M i:Nat)(R:List Dt),2*i<=l.length->l.length-i<M->anH l R i->ko m M (i:Int) ((l.length:Int)-1-i) z R=some (yQ l.reverse)
 |0,i,_,_,h,_=>by omega
 |M+    1,i,R,hi,h,hR=>by
  rw[ko];by_cases hlt:(i:Int)<(l.length:Int)-1-i
  ·obtain⟨j,hj⟩:∃j:Nat,(l.length:Int)-1-i=j:=⟨l.length-1-i,by omega⟩;have hjl:j=l.length-1-i:=by omega
   have hil:i<R.length:=by have:=hR.1;omega
   have hjR:j<R.length:=by have:=hR.1;omega
   have gi:R[i]? =l[i]? :=by rw[hR.2 i (by omega),if_neg (by omega)]
   have gj:R[j]? =l[j]? :=by rw[hR.2 j (by omega),if_neg (by omega)]
   have li:l[i]? =some l[i]:=aA (by omega);have lj:l[j]? =some l[j]:=aA (by omega);have hjs:j<(R.set i l[j]).length:=by rw[List.length_set];exact hjR
   have gs:(R.set i l[j])[j]? =l[j]? :=by rw[List.getElem?_set_ne (by omega),gj]
   rw[decide_eq_true hlt,cond_true,hj];rw[tZ hjR,ah,Int.toNat_natCast,gj,lj,ah,tZ hil,ah,Int.toNat_natCast,gi,li,ah,ah,ah];rw[tZ hjs,ah,gs,lj,ah,bX (by omega),wrap64 (by omega) (by omega)];have e2:(j:Int)-1=(l.length:Int)-1-((i+1:Nat):Int):=by omega
   rw[e2];refine Ul m l z hl M (i+1) _ (by omega) (by omega) ⟨by rw[List.length_set,List.length_set];exact hR.1,fun k hk=>?_⟩;by_cases h1:k=j
   ·    subst h1;rw[List.getElem?_set_self (by rw[List.length_set];omega),if_pos (by omega),show l.length-1-k=i by omega,li]
   ·    rw[List.getElem?_set_ne (by omega)];by_cases h2:k=i
        ·subst h2;rw[List.getElem?_set_self (by omega),if_pos (by omega),←hjl,lj]
        ·rw[List.getElem?_set_ne (by omega),hR.2 k hk];by_cases h3:k<i∨l.length<=k+i;·rw[if_pos h3,if_pos (by omega)]
         ·rw[if_neg h3,if_neg (by omega)]
  ·rw[decide_eq_false hlt,cond_false,oO,aiL hR (by omega)];rfl
def adq(l:List Dt)(i:Dt):Dt:=bif isK 3 i then
    (bif decide ((bif decide (I i 1<0)then w64 (I i 1+(l.length:Int))else I i 1)<0)||decide ((l.length:Int)<=(bif decide (I i 1<0)then w64 (I i 1+(l.length:Int))else I i 1))then aC
    else l.getD (bif decide (I i 1<0)then w64 (I i 1+(l.length:Int))else I i 1).toNat aC)
 else kV 2 0
theorem adr{l:List Dt}{n:Int}(h0:¬n<0)(h1:¬(l.length:Int)<=n):idx l n=some (l.getD n.toNat aC):=by obtain⟨k,rfl⟩:=Xn h0;rw[bI (show k<l.length by omega),Int.toNat_natCast,List.getD_eq_getElem?_getD,aA (by omega)];rfl
theorem ads(m:Nat)(l:List Dt)(n:Int)(z:Dt):nA m l n z=some (bif decide (n<0)||decide ((l.length:Int)<=n)then aC else l.getD n.toNat aC):=by
 rw[nA];by_cases h0:n<0;·rw[decide_eq_true h0];rfl
 ·rw[decide_eq_false h0,cond_false,Bool.false_or];by_cases h1:(l.length:Int)<=n;·rw[decide_eq_true h1];rfl
  ·rw[decide_eq_false h1,cond_false,pX,cond_false,adr h0 h1];rfl
theorem alo(m:Nat)(l:List Dt)(i:Dt):kE (m+2) l i=some (adq l i):=by
 rw[kE,adq,isK,ED];cases h3:(I i 0==3);·rw[show (I i 0 !=3)=true by rw[bne,h3];rfl];rfl
 ·rw[show (I i 0 !=3)=false by rw[bne,h3];rfl,cond_false,cond_true];cases decide (I i 1<0);·rw[cond_false,cond_false,ads]
  ·rw[cond_true,cond_true,ads];rfl
def adt(a:Dt):Dt:=bif isK 6 a then kV 3 ((L a 3).length:Int)else kV 2 0
def adu(a:Dt):Dt:=bif isK 6 a then yQ (L a 3).reverse else kV 2 0
def adv(a:Dt):Dt:=bif isK 6 a then kV 3 (aqe (L a 3))else kV 2 0
def adw(l:List Dt):Dt:=bif l.all (isK 6)then yQ (Gg l)else kV 2 0
def adx(a i:Dt):Dt:=bif isK 6 a then adq (L a 3) i else kV 2 0
def ady(q:Dt->Bool)(l:Dt):Dt:=bif isK 6 l then bV ((L l 3).any q)else kV 2 0
theorem pK(a:Dt):Gg [a]=L a 3:=by rw[Bz];exact List.append_nil _
theorem EG(k:Int)(a:Dt):[a].all (isK k)=isK k a:=by rw[List.all_cons,List.all_nil,Bool.and_true]
theorem alp(m:Nat)(a:Dt)(h:(L a 3).length<=137438953472):dM (m+3) 26 [a]=some (adt a):=by show fC (m+2) 26 [a] [a] aC=_;rw[Gh (m+1) 26 [a] [a] (by simp) (by simp) (by rw[pK];exact h),EG,pK,adt];cases isK 6 a<;>rfl
theorem rev_eq(m:Nat)(a:Dt)(h:(L a 3).length<=137438953472)(hm:(L a 3).length<=m):dM (m+3) 30 [a]=some (adu a):=by
 show fC (m+2) 30 [a] [a] aC=_;rw[Gh (m+1) 30 [a] [a] (by simp) (by simp) (by rw[pK];exact h),EG,pK,adu];cases isK 6 a;·rfl
 ·rw[cond_true,cond_true];show ko (m+2) (Nat.succ (m+2)) 0 (IntKind.wrap .i64 (((L a 3).length:Int)-1)) aC (L a 3)=_;rw[wrap64 (by omega) (by omega)];have:=Ul (m+2) (L a 3) aC (by omega) (Nat.succ (m+2)) 0 (L a 3) (by omega) (by omega) ⟨rfl,fun k hk=>by rw[if_neg (by omega)]⟩;simpa using this
theorem alq(m:Nat)(a:Dt)(h:(L a 3).length<=137438953472)(hm:(L a 3).length<=m):dM (m+3) 31 [a]=some (adv a):=by
 show fC (m+2) 31 [a] [a] aC=_;rw[Gh (m+1) 31 [a] [a] (by simp) (by simp) (by rw[pK];exact h),EG,pK,adv];cases isK 6 a;·rfl
 ·rw[cond_true,cond_true];have:=KG (m+1) (L a 3) aC (by omega) (Nat.succ (m+2)) 0 0 (aI _) (by omega);rw[aQ]at this;exact this
theorem alr(m:Nat)(l:List Dt)(hl:l.length<=m)(hl2:l.length<9223372036854775807)(h:(Gg l).length<=137438953472):dM (m+3) 29 l=some (adw l):=by show fC (m+2) 29 l l aC=_;rw[Gh (m+1) 29 l l hl2 (by omega) h,adw];cases l.all (isK 6)<;>rfl
theorem als(m:Nat)(a i:Dt)(h:(L a 3).length<=137438953472):dM (m+4) 27 [a,i]=some (adx a i):=by
 show fC (m+3) 27 [a,i] [a] aC=_;rw[Gh (m+2) 27 [a,i] [a] (by simp) (by simp) (by rw[pK];exact h),EG,pK,adx];cases isK 6 a;·rfl
 ·rw[cond_true,cond_true];show ((kE (m+3) (L a 3) i).bind _:Option Dt)=_;rw[alo,ah]
theorem Um(m:Nat)(v w:Dt)(l:List Dt)(z:Dt)(q:Dt->Bool)(hl:l.length<9223372036854775807)(hq:∀x∈l,jE (m+1) x v=some (q x)):∀(M i:Nat),i<=l.length->l.length-i<M->lY (m+1) M [v,w] l (l.length:Int) (i:Int) z=some (bV ((l.drop i).any q))
 |0,i,_,h=>by omega
 |M+1,i,hi,h=>by
  simp only[lY,dlt];by_cases hlt:i<l.length
  ·have ih:=Um m v w l z q hl hq M (i+1) (by omega) (by omega);rw[uf hlt];simp only[hlt,decide_true,cond_true,bI hlt,aiH,hq _ (aF hlt),EF,ah,bX (show i<9223372036854775807 by omega),ih,List.any_cons];cases q l[i]<;>rfl
  ·rw[xU hlt];simp only[hlt,decide_false,cond_false,EF,ah,List.any_nil]
theorem alu(m:Nat)(v a:Dt)(q:Dt->Bool)(h:(L a 3).length<=137438953472)(hm:(L a 3).length<=m)(hq:∀x∈L a 3,jE (m+2) x v=some (q x)):dM (m+3) 28 [v,a]=some (ady q a):=by
 show fC (m+2) 28 [v,a] [a] aC=_;rw[Gh (m+1) 28 [v,a] [a] (by simp) (by simp) (by rw[pK];exact h),EG,pK,ady];cases isK 6 a;·rfl
 ·rw[cond_true,cond_true];have:=Um (m+1) v a (L a 3) aC q (by omega) hq (Nat.succ (m+2)) 0 (aI _) (by omega);rw[aQ]at this;exact this
end Go.Proofs.YtmecfjhdnbgfeaaGreatDoor
namespace Go.Proofs.YtmecfjhdnbgfeaaGreatDoor
open Go.Am
def adz(l:List Dt):Dt:=bif l.all (isK 4)then Oj (bs (catB l))else kV 2 0
theorem alv(l:List Dt)(h:(catB l).length<=137438953472):dZ 21 l=some (adz l):=by rw[dZ,show ((21:Int)==21)=true from rfl,cond_true,Nat.ble_eq_true_of_le h,cond_true,adz];rfl
end Go.Proofs.YtmecfjhdnbgfeaaGreatDoor
namespace Go.Proofs.YtmecfjhdnbgfeaaGreatDoor
open Go.Am Dt
def KH(l:List Dt):Dt:= .agg [.int 5,.int 0,.str (ByteArray.mk (List.toArray [])),.lst [],.lst l]
def Gi:List Dt->List Dt->List Dt
 |n::ns,k::ks=>bif nnB k then agg [.str (toStr n),k]::Gi ns ks else Gi ns ks
 |_,_=>[]
theorem Zf(m:Nat)(l:List Dt)(z:Dt)(hl:l.length<=137438953472):∀(M i:Nat)(acc:List Dt),i<=l.length->acc.length<=i->l.length-i<M->
  jN (m+2) M l (l.length:Int) (i:Int) z 6 0 (ByteArray.mk (List.toArray [])) acc []=some (yQ (acc++(l.drop i).map orN))
 |0,i,_,_,_,h=>by omega
 |M+1,i,acc,hi,ha,h=>by
  simp only[jN,dlt];by_cases hlt:i<l.length
  ·have hac:(acc++[orN l[i]]).length<=i+1:=by rw[aD];simp;omega
   have ap:app acc [orN l[i]]=some (acc++[orN l[i]]):=rU (by simp;omega);rw[uf hlt,List.map_cons];simp only[hlt,decide_true,cond_true,bI hlt,Xl,ap,ah,bX (show i<9223372036854775807 by omega)];rw[Zf m l z hl M (i+1) _ (by omega) hac (by omega),List.append_assoc];rfl
  ·rw[xU hlt];simp only[hlt,decide_false,cond_false,List.map_nil,List.append_nil];rfl
theorem Rw(m:Nat)(l:List Dt)(e z:Dt)(hl:l.length<=137438953472)(hn:(L e 3).length=l.length):∀(M i:Nat)(acc:List Dt),i<=l.length->acc.length<=i->l.length-i<M->
  fU m M l (l.length:Int) (i:Int) e z 5 0 (ByteArray.mk (List.toArray [])) [] acc=some (KH (acc++Gi ((L e 3).drop i) (l.drop i)))
 |0,i,_,_,_,h=>by omega
 |M+    1,i,acc,hi,ha,h=>by
  simp only[fU,dlt];by_cases hlt:i<l.length
  ·have hln:i<(L e 3).length:=by omega
   have hac:(acc++[agg [str (toStr (L e 3)[i]),l[i]]]).length<=i+1:=by rw[aD];simp;omega
   have ap:app acc [agg [str (toStr (L e 3)[i]),l[i]]]=some (acc++[agg [str (toStr (L e 3)[i]),l[i]]]):=rU (by simp;omega);rw[uf hlt,uf hln,Gi];simp only[hlt,decide_true,cond_true,mV,bI hlt,bI hln,ap,ah,bX (show i<9223372036854775807 by omega),nnB];rcases Bool.eq_false_or_eq_true (I l[i] 0 !=0)with hc|hc
   ·    rw[hc,cond_true,cond_true,Rw m l e z hl hn M (i+1) _ (by omega) hac (by omega),List.append_assoc];rfl
   ·rw[hc,cond_false,cond_false,Rw m l e z hl hn M (i+1) _ (by omega) (by omega) (by omega)]
  ·rw[xU hlt];have:Gi ((L e 3).drop i) []=[]:=by cases (L e 3).drop i<;>rfl
   simp only[hlt,decide_false,cond_false,this,List.append_nil];rfl
theorem adA(m:Nat)(e:Dt)(l:List Dt)(he:I e 0=35)(hl:l.length<=137438953472)(hm:l.length<=m):eF (m+3) e l=some (yQ (l.map orN)):=by have h:=Zf m l aC hl (Nat.succ (m+2)) 0 [] (aI _) (aj _) (by omega);rw[aQ,List.nil_append]at h;rw[eF,he,show ((35:Int)==35)=true from rfl,cond_true];exact h
theorem aiM(m:Nat)(e:Dt)(l:List Dt)(he:I e 0=34)(hl:l.length<=137438953472)(hm:l.length<=m)(hn:(L e 3).length=l.length):eF (m+1) e l=some (KH (Gi (L e 3) l)):=by have h:=Rw m l e aC hl hn (Nat.succ m) 0 [] (aI _) (aj _) (by omega);rw[aQ,aQ,List.nil_append]at h;rw[eF,he,show ((34:Int)==35)=false from rfl,cond_false];exact h
section
variable(m:Nat)(s3 s25:Dt->Dt->Dt->Option Dt)(e z:Dt)
theorem aqf(l:List Dt)(hl:l.length<=137438953472)(hm:l.length<=m)(he:I e 0=4):aJ (m+5) s3 s25 e z l=some (N8 4 l):=by rw[aJ,he];show ((dX (m+5) (I e 0) l).bind _:Option Dt)=_;rw[he,z8 (m+3) 4 l hl (by omega) (.inl rfl)];rfl
theorem aqg(l:List Dt)(hl:l.length<=137438953472)(hm:l.length<=m)(he:I e 0=6):aJ (m+5) s3 s25 e z l=some (N8 6 l):=by rw[aJ,he];show ((dX (m+5) (I e 0) l).bind _:Option Dt)=_;rw[he,z8 (m+3) 6 l hl (by omega) (.inr (.inl rfl))];rfl
theorem aqh(l:List Dt)(hl:l.length<=137438953472)(hm:l.length<=m)(ho:Zc 5 l)(he:I e 0=5):aJ (m+5) s3 s25 e z l=some (N8 5 l):=by rw[aJ,he];show ((dX (m+5) (I e 0) l).bind _:Option Dt)=_;rw[he,z8 (m+3) 5 l hl (by omega) ho];rfl
theorem aqi(l:List Dt)(hl:l.length<=137438953472)(hm:l.length<=m)(ho:Zc 7 l)(he:I e 0=7):aJ (m+5) s3 s25 e z l=some (N8 7 l):=by rw[aJ,he];show ((dX (m+5) (I e 0) l).bind _:Option Dt)=_;rw[he,z8 (m+3) 7 l hl (by omega) ho];rfl
theorem aqj(l:List Dt)(hl:l.length<=137438953472)(hm:l.length<=m)(ho:Zc 8 l)(he:I e 0=8):aJ (m+5) s3 s25 e z l=some (N8 8 l):=by rw[aJ,he];show ((dX (m+5) (I e 0) l).bind _:Option Dt)=_;rw[he,z8 (m+3) 8 l hl (by omega) ho];rfl
theorem aqk(a b:Dt)(c:Int)(hc:aW (m+5) a b=some c)(he:I e 0=9):aJ (m+5) s3 s25 e z [a,b]=some (Jm 9 c):=by rw[aJ,he];show ((aW (m+5) a b).bind _:Option Dt)=_;rw[hc,ah,he,yR (m+3)];rfl
theorem anI(a b:Dt)(c:Int)(hc:aW (m+5) a b=some c)(he:I e 0=10):aJ (m+5) s3 s25 e z [a,b]=some (Jm 10 c):=by rw[aJ,he];show ((aW (m+5) a b).bind _:Option Dt)=_;rw[hc,ah,he,yR (m+3)];rfl
theorem anJ(a b:Dt)(c:Int)(hc:aW (m+5) a b=some c)(he:I e 0=11):aJ (m+5) s3 s25 e z [a,b]=some (Jm 11 c):=by rw[aJ,he];show ((aW (m+5) a b).bind _:Option Dt)=_;rw[hc,ah,he,yR (m+3)];rfl
theorem anK(a b:Dt)(c:Int)(hc:aW (m+5) a b=some c)(he:I e 0=12):aJ (m+5) s3 s25 e z [a,b]=some (Jm 12 c):=by rw[aJ,he];show ((aW (m+5) a b).bind _:Option Dt)=_;rw[hc,ah,he,yR (m+3)];rfl
theorem anL(a b:Dt)(c:Int)(hc:aW (m+5) a b=some c)(he:I e 0=13):aJ (m+5) s3 s25 e z [a,b]=some (Jm 13 c):=by rw[aJ,he];show ((aW (m+5) a b).bind _:Option Dt)=_;rw[hc,ah,he,yR (m+3)];rfl
theorem anM(a b:Dt)(c:Int)(hc:aW (m+5) a b=some c)(he:I e 0=14):aJ (m+5) s3 s25 e z [a,b]=some (Jm 14 c):=by rw[aJ,he];show ((aW (m+5) a b).bind _:Option Dt)=_;rw[hc,ah,he,yR (m+3)];rfl
theorem anN(a b:Dt)(c:Int)(hc:aW (m+5) a b=some c)(he:I e 0=15):aJ (m+5) s3 s25 e z [a,b]=some (Jm 15 c):=by rw[aJ,he];show ((aW (m+5) a b).bind _:Option Dt)=_;rw[hc,ah,he,yR (m+3)];rfl
theorem anO(l:List Dt)(hl:l.length<=137438953472)(hm:l.length<=m)(he:I e 0=16):aJ (m+5) s3 s25 e z l=some (aoS 16 l):=by rw[aJ,he];show ((gH (m+5) (I e 0) l).bind _:Option Dt)=_;rw[he,Ui (m+3) 16 l (by omega) (by omega) (.inl rfl)];rfl
theorem anP(l:List Dt)(hl:l.length<=137438953472)(hm:l.length<=m)(he:I e 0=17):aJ (m+5) s3 s25 e z l=some (aoS 17 l):=by rw[aJ,he];show ((gH (m+5) (I e 0) l).bind _:Option Dt)=_;rw[he,Ui (m+3) 17 l (by omega) (by omega) (.inr rfl)];rfl
theorem anQ(a:Dt)(he:I e 0=18):aJ (m+5) s3 s25 e z [a]=some (bV (!trB a)):=by rw[aJ,he];show ((gH (m+5) (I e 0) [a]).bind _:Option Dt)=_;rw[he,abO (m+3)];rfl
theorem anR(a b c:Dt)(he:I e 0=19):aJ (m+5) s3 s25 e z [a,b,c]=some (bif trB a then b else c):=by rw[aJ,he];show ((gH (m+5) (I e 0) [a,b,c]).bind _:Option Dt)=_;rw[he,adp (m+3)];rfl
theorem anS(a b:Dt)(he:I e 0=20):aJ (m+5) s3 s25 e z [a,b]=some (bif I (orN a) 0==2 then b else a):=by rw[aJ,he];show ((gH (m+5) (I e 0) [a,b]).bind _:Option Dt)=_;rw[he,abP (m+2)];rfl
theorem anT(l:List Dt)(h:(catB l).length<=137438953472)(he:I e 0=21):aJ (m+5) s3 s25 e z l=some (adz l):=by rw[aJ,he];show ((dZ (I e 0) l).bind _:Option Dt)=_;rw[he,alv l h];rfl
theorem anU(a:Dt)(he:I e 0=22):aJ (m+5) s3 s25 e z [a]=some (Uj 22 a):=by rw[aJ,he];show ((dZ (I e 0) [a]).bind _:Option Dt)=_;rw[he,Rv 22 a (by simp)];rfl
theorem anV(a:Dt)(he:I e 0=23):aJ (m+5) s3 s25 e z [a]=some (Uj 23 a):=by rw[aJ,he];show ((dZ (I e 0) [a]).bind _:Option Dt)=_;rw[he,Rv 23 a (by simp)];rfl
theorem anW(a:Dt)(he:I e 0=24):aJ (m+5) s3 s25 e z [a]=some (Uj 24 a):=by rw[aJ,he];show ((dZ (I e 0) [a]).bind _:Option Dt)=_;rw[he,Rv 24 a (by simp)];rfl
theorem anX(a b c:Dt)(he:I e 0=25):aJ (m+5) s3 s25 e z [a,b,c]=some (slS a b c):=by rw[aJ,he];show ((dZ (I e 0) [a,b,c]).bind _:Option Dt)=_;rw[he,abQ];rfl
theorem anY(a:Dt)(h:(L a 3).length<=137438953472)(he:I e 0=26):aJ (m+5) s3 s25 e z [a]=some (adt a):=by rw[aJ,he];show ((dM (m+5) (I e 0) [a]).bind _:Option Dt)=_;rw[he,alp (m+2) a h];rfl
theorem anZ(a:Dt)(h:(L a 3).length<=137438953472)(hm:(L a 3).length<=m)(he:I e 0=30):aJ (m+5) s3 s25 e z [a]=some (adu a):=by rw[aJ,he];show ((dM (m+5) (I e 0) [a]).bind _:Option Dt)=_;rw[he,rev_eq (m+2) a h (by omega)];rfl
theorem an0(a:Dt)(h:(L a 3).length<=137438953472)(hm:(L a 3).length<=m)(he:I e 0=31):aJ (m+5) s3 s25 e z [a]=some (adv a):=by rw[aJ,he];show ((dM (m+5) (I e 0) [a]).bind _:Option Dt)=_;rw[he,alq (m+2) a h (by omega)];rfl
theorem an1(l:List Dt)(hl:l.length<=m)(hl2:l.length<=137438953472)(h:(Gg l).length<=137438953472)(he:I e 0=29):aJ (m+5) s3 s25 e z l=some (adw l):=by rw[aJ,he];show ((dM (m+5) (I e 0) l).bind _:Option Dt)=_;rw[he,alr (m+2) l (by omega) (by omega) h];rfl
theorem an2(a b:Dt)(h:(L a 3).length<=137438953472)(he:I e 0=27):aJ (m+5) s3 s25 e z [a,b]=some (adx a b):=by rw[aJ,he];show ((dM (m+5) (I e 0) [a,b]).bind _:Option Dt)=_;rw[he,als (m+1) a b h];rfl
theorem an3(v a:Dt)(q:Dt->Bool)(h:(L a 3).length<=137438953472)(hm:(L a 3).length<=m)(hq:∀x∈L a 3,jE (m+4) x v=some (q x))(he:I e 0=28):aJ (m+5) s3 s25 e z [v,a]=some (ady q a):=by rw[aJ,he];show ((dM (m+5) (I e 0) [v,a]).bind _:Option Dt)=_;rw[he,alu (m+2) v a q h (by omega) hq];rfl
theorem an4(a:Dt)(he:I e 0=36):aJ (m+5) s3 s25 e z [a]=some (kV 3 (I a 0)):=by rw[aJ,he];show ((bS (m+5) (I a 0)).bind _:Option Dt)=_;rw[int_eq];rfl
theorem an5(l:List Dt)(r:Dt)(h:oF (m+5) l=some r)(he:I e 0=37):aJ (m+5) s3 s25 e z l=some (r):=by rw[aJ,he];show ((oF (m+5) l).bind _:Option Dt)=_;rw[h];rfl
theorem an6(l:List Dt)(hl:l.length<=137438953472)(hm:l.length<=m)(he:I e 0=35):aJ (m+5) s3 s25 e z l=some (yQ (l.map orN)):=by rw[aJ,he];show ((eF (m+5) e l).bind _:Option Dt)=_;rw[adA (m+2) e l he hl (by omega)];rfl
theorem an7(l:List Dt)(hl:l.length<=137438953472)(hm:l.length<=m)(hn:(L e 3).length=l.length)(he:I e 0=34):aJ (m+5) s3 s25 e z l=some (KH (Gi (L e 3) l)):=by rw[aJ,he];show ((eF (m+5) e l).bind _:Option Dt)=_;rw[aiM (m+4) e l he hl (by omega) hn];rfl
end
section
variable(m:Nat)(e:Dt)
end
def scD:List (ByteArray×Dt)->Dt
 | []=> .lst []
 |p::r=> .lst [.agg [.str p.1,p.2,scD r]]
def N9(h:Dt->Dt)(s:ByteArray):List (ByteArray×Dt)->Dt
 | []=>aC
 |p::r=>bif ByteArray.toList p.1==ByteArray.toList s then h p.2 else N9 h s r
theorem KI(m:Nat)(s3 s25:Dt->Dt->Dt->Option Dt)(e z:Dt)(h:Dt->Dt):∀(env:List (ByteArray×Dt))(M:Nat),env.length<M->(∀p∈env,bY m p.2 (L e 1)=some (h p.2))->nD m s3 s25 M (scD env) e z=some (N9 h (S e 2) env)
 |_,0,hM,_=>by omega
 | [],M+1,_,_=>rfl
 |p::r,M+1,hM,hv=>by have ih:=KI m s3 s25 e z h r M (by simp at hM;omega) fun q hq=>hv q (bD _ hq);show ((bif (ByteArray.toList p.1==ByteArray.toList (S e 2))then((bY m p.2 (L e 1)).bind fun r3=>some r3)else nD m s3 s25 M (scD r) e z):Option Dt)=_;rw[hv p (bA ..),ih,N9];cases (ByteArray.toList p.1==ByteArray.toList (S e 2))<;>rfl
theorem KJ(m:Nat)(s3 s25:Dt->Dt->Dt->Option Dt)(vs e doc z:Dt)(l:List Dt)(g:Dt->Dt)(hl:l.length<9223372036854775807)(hs:∀k∈l,s3 k doc vs=some (g k)):∀(M i:Nat),i<=l.length->l.length-i<M->
  nE m s3 s25 M vs l (l.length:Int) (i:Int) e doc z ((l.take i).map g++List.replicate (l.length-i) aC)=aJ m s3 s25 e z (l.map g)
 |0,i,_,hM=>by omega
 |M+    1,i,hi,hM=>by
  simp only[nE,dlt];by_cases hlt:i<l.length
  ·have hA:((l.take i).map g).length=i:=by rw[List.length_map,List.length_take];omega
   have hR:List.replicate (l.length-i) aC=aC::List.replicate (l.length-(i+1)) aC:=by rw[show l.length-i=(l.length-(i+1))+1 by omega];rfl
   have hin:inL ((l.take i).map g++List.replicate (l.length-i) aC) (i:Int)=some ():=tZ (by rw[aD,hA,List.length_replicate];omega);have hge:((l.take i).map g++List.replicate (l.length-i) aC)[i]? =some aC:=by rw[hR,List.getElem?_append_right (by omega),hA,Nat.sub_self];rfl
   have hset:((l.take i).map g++List.replicate (l.length-i) aC).set i (g l[i])=(l.take (i+1)).map g++List.replicate (l.length-(i+1)) aC:=by have:=set_mid ((l.take i).map g) (List.replicate (l.length-(i+1)) aC) aC (g l[i]);rw[hA]at this;rw[hR,this,List.take_succ_eq_append_getElem hlt,List.map_append,List.append_assoc];rfl
   simp only[hlt,decide_true,cond_true,bI hlt,hs _ (aF hlt),ah,bX (show i<9223372036854775807 by omega),Int.toNat_natCast,hin,hge,hset];exact KJ m s3 s25 vs e doc z l g hl hs M (i+1) (by omega) (by omega)
  ·have e1:i=l.length:=by omega
   subst e1;simp only[hlt,decide_false,cond_false,Nat.sub_self,List.replicate_zero,List.append_nil,List.take_length]
def lpS(op:Int)(g:Dt->Dt)(l:List Dt):List Dt:=bif op==32 then l.map fun x=>orN (g x)else l.filter fun x=>trB (g x)
theorem adB(op:Int)(g:Dt->Dt)(x:Dt)(l:List Dt):lpS op g (x::l)=bif op==32 then orN (g x)::lpS op g l else bif trB (g x)then x::lpS op g l else lpS op g l:=by
 unfold lpS;cases (op==32)
 ·simp only[cond_false,List.filter_cons];cases trB (g x)<;>rfl
 ·rfl
theorem Rx(m:Nat)(s3:Dt->Dt->Dt->Option Dt)(vs e doc z k1:Dt)(l:List Dt)(g:Dt->Dt)(hl:l.length<=137438953472)(hk:idx (L e 6) 1=some k1)(hs:∀x∈l,s3 k1 doc (.lst [.agg [.str (S e 2),x,vs]])=some (g x)):∀(M i:Nat)(acc:List Dt),i<=l.length->acc.length<=i->l.length-i<M->
  kI (m+2) s3 M vs l (l.length:Int) (i:Int) e doc z 6 0 (ByteArray.mk (List.toArray [])) acc []=some (yQ (acc++lpS (I e 0) g (l.drop i)))
 |0,i,_,_,_,hM=>by omega
 |M+    1,i,acc,hi,ha,hM=>by
  simp only[kI,dlt];by_cases hlt:i<l.length
  ·have ih:=fun a ha=>Rx m s3 vs e doc z k1 l g hl hk hs M (i+1) a (by omega) ha (by omega);have hac:∀y:Dt,(acc++[y]).length<=i+1:=fun y=>by rw[aD];simp;omega
   have ap:∀y:Dt,app acc [y]=some (acc++[y]):=fun y=>rU (by simp;omega);rw[uf hlt,adB];simp only[hlt,decide_true,cond_true,qG,bI hlt,hk,hs _ (aF hlt),Xl,Bw,ap,ah,bX (show i<9223372036854775807 by omega)];cases (I e 0==32)
   ·    rw[cond_false,cond_false];cases trB (g l[i]);·rw[cond_false,cond_false,ih acc (by omega)]
        ·rw[cond_true,cond_true,ih _ (hac _),List.append_assoc];rfl
   ·    rw[cond_true,cond_true,ih _ (hac _),List.append_assoc];rfl
  ·rw[xU hlt];have:lpS (I e 0) g []=[]:=by unfold lpS;cases (I e 0==32)<;>rfl
   simp only[hlt,decide_false,cond_false,this,List.append_nil];rfl
theorem Pf{l:List Dt}{c:Nat}{f:Dt->Nat}(h:∀e∈l,e.bulk<=c*f e):bulkL l<=c*(l.map f).sum:=by
 induction l with
 |nil=>simp[bulkL]
 |cons a r ih=>
  have h1:=h a (bA ..);have h2:=ih fun e he=>h e (bD _ he);rw[bulkL,List.map_cons,List.sum_cons,Nat.mul_add];omega
theorem Xo{p:ByteArray->Bool}{self:Dt->Bool}:∀{l:List Dt}{seen:List ByteArray},fl p self seen l=true->∀f∈l,p (S f 0)=true∧self (fld f 1)=true
 |f::r,seen,h,g,hg=>by
  rw[fl]at h;simp only[aM]at h;rcases List.mem_cons.1 hg with rfl|hg;·exact⟨h.1.1.1,h.1.2⟩
  ·exact Xo h.2 g hg
theorem aiN{s:ByteArray}(h:nm s=true):s.size<=32:=by
 by_cases hs:32<s.size;·rw[Kq s hs]at h;cases h
 ·omega
theorem wh{d:Dt}(h:WV d):d.bulk=6+(S d 2).size+bulkL (L d 3)+bulkL (L d 4):=by
 cases h with
 | @mk k i t l ds hl hd=>
   show Dt.bulk (.agg [.int k,.int i,.str t,.lst l,.lst ds])=6+t.size+bulkL l+bulkL ds;simp only[Dt.bulk,bulkL];omega
theorem EH{f:Dt}(h:WF f):f.bulk=2+(S f 0).size+(fld f 1).bulk∧WV (fld f 1):=by
 cases h with
 | @mk s v hv=>
   refine⟨?_,hv⟩;show Dt.bulk (.agg [.str s,v])=2+s.size+v.bulk;simp only[Dt.bulk,bulkL];omega
theorem xV{d:Dt}(h:WV d):(∀e∈L d 3,WV e)∧∀f∈L d 4,WF f:=by
 cases h with
 |mk hl hd=>exact⟨hl,hd⟩
theorem KL{s:ByteArray}(h:(s.toList==[])=true):s.size=0:=by
 have h1:s.toList=[]:=by simpa using h
 rw[ByteArray.toList_eq]at h1;rw[←IK,h1];rfl
theorem J6{l:List Dt}(h:(!(decide ((0:Int)<(l.length:Int))))=true):l=[]:=by
 cases l with
 |nil=>rfl
 |cons a r=>simp at h
theorem KM:∀(n:Nat)(d:Dt),WV d->sndF nm n d=true->d.bulk+40<=4200*nds d
 |0,d,_,h=>by cases h
 |n+    1,d,hw,h=>by
  obtain⟨wl,wd⟩:=xV hw;rw[IJ hw,wh hw];rw[sndF,aM]at h;obtain⟨hs,h⟩:=h;rw[shp]at hs;simp only[aM]at hs;obtain⟨⟨⟨_,h2⟩,h3⟩,h4⟩:=hs;by_cases k6:I d 0=6
  ·rw[k6]at h h2 h4;have e2:(S d 2).size=0:=KL (by simpa using h2);have e4:L d 4=[]:=J6 (by simpa using h4);have ha:∀e∈L d 3,sndF nm n e=true:=by have:(L d 3).all (sndF nm n)=true:=h;exact List.all_eq_true.1 this
   have hb:=Pf (l:=L d 3) (c:=4200) (f:=nds) fun e he=>by have:=KM n e (wl e he) (ha e he);omega
   have hp:rV d=L d 3:=by rw[rV,k6];rfl
   rw[hp,e4,e2];simp only[bulkL];omega
  ·have e3  :  L d 3=[]:=J6 (by simpa [k6]using h3);by_cases k5:I d 0=5
   ·    rw[k5]at h h2;have e2:(S d 2).size=0:=KL (by simpa using h2);have hf:∀f∈L d 4,nm (S f 0)=true∧sndF nm n (fld f 1)=true:=by have:fl nm (sndF nm n) [] (L d 4)=true:=h;exact Xo this
        have hb:=Pf (l:=L d 4) (c:=4200) (f:=fun f=>nds (fld f 1)) fun f hf'=>by have h1:=EH (wd f hf');have h2:=hf f hf';have h3:=KM n _ h1.2 h2.2;have h4:=aiN h2.1;rw[h1.1];omega
        have hp:rV d=(L d 4).map (·.fld 1):=by rw[rV,k5];rfl
        rw[hp,e3,e2,List.map_map];simp only[bulkL];have:(List.map (nds∘fun x=>x.fld 1) (L d 4)).sum=((L d 4).map fun f=>nds (fld f 1)).sum:=rfl;rw[this];omega
   ·    have e4:L d 4=[]:=J6 (by simpa [k5]using h4)
        have e2:(S d 2).size<=4096:=by
         by_cases k4:I d 0=4
         ·rw[k4]at h;have:(decide (((S d 2).size:Int)<=4096)&&Lib.validD (S d 2).data.toList)=true:=h;simp only[aM,decide_eq_true_eq]at this;omega
         ·by_cases k7:I d 0=7
          · rw[k7]at h;have:decide (((S d 2).size:Int)<=4096)=true:=h;simp only[decide_eq_true_eq]at this;omega
          · by_cases k8:I d 0=8
            ·  rw[k8]at h;have:(((S d 2).size:Int)==12)=true:=h;have:((S d 2).size:Int)=12:=by simpa using this
               omega
            ·  rw[KL (by simpa [k4,k7,k8]using h2)];omega
        rw[e3,e4];simp only[bulkL];omega
theorem aiO{d:Dt}(hw:WV d)(h:okV d=true):d.bulk<=4300800:=by rw[okV]at h;simp only[aM,decide_eq_true_eq]at h;have:=KM _ d hw h.2;omega
end Go.Proofs.YtmecfjhdnbgfeaaGreatDoor
namespace Go.Proofs.YtmecfjhdnbgfeaaGreatDoor
open Go.Am
def nm1(c:Dt):Dt:=bif Dt.I c 0==0 then aC else bif okV c then c else kV 2 0
theorem Zg(m:Nat)(e doc vs c:Dt)(hc:dA (m+3) e doc vs=some c)(hw:WV c)(hm:3*c.bulk+300<=m)(hb:c.bulk<=100000000000):bU (m+4) e doc vs=some (nm1 c):=by
 rw[bU,hc,ah,nm1];cases (Dt.I c 0==0)
 ·rw[cond_false,cond_false,QN hw m hm hb,ah];cases okV c<;>rfl
 ·rfl
def Nd(d:Dt):Prop:=d=aC∨(WV d∧okV d=true)
theorem Un:WV aC:= .mk (fun _ h=>by cases h) fun _ h=>by cases h
theorem Uo(k n:Int):WV (kV k n):= .mk (fun _ h=>by cases h) fun _ h=>by cases h
theorem aiP:okV (kV 2 0)=true:=by
 have hp:rV (kV 2 0)=[]:=rfl;have h1:nds (kV 2 0)=1:=by rw[IJ (Uo 2 0),hp];rfl
 have h2:dpt (kV 2 0)=1:=by rw[YW (Uo 2 0),hp];rfl
 have e:(Dt.S (kV 2 0) 2).toList=[]:=by rw[ByteArray.toList_eq];rfl
 have h3:sndF nm (kV 2 0).bulk (kV 2 0)=true:=by rw[show (kV 2 0).bulk=5+1 by decide,sndF,shp,e];rfl
 rw[okV,h1,h2,h3];rfl
theorem adC{c:Dt}(hw:WV c):Nd (nm1 c):=by
 rw[nm1];cases Dt.I c 0==0
 ·rw[cond_false];cases h:okV c;·exact .inr ⟨Uo 2 0,aiP⟩
  ·exact .inr ⟨hw,h⟩
 ·exact .inl rfl
theorem Nd.wv{d:Dt}(h:Nd d):WV d:=by
 rcases h with rfl|h;·exact Un
 ·exact h.1
theorem Nd.bulk{d:Dt}(h:Nd d):d.bulk<=4300800:=by
 rcases h with rfl|h;·decide
 ·exact aiO h.1 h.2
end Go.Proofs.YtmecfjhdnbgfeaaGreatDoor
namespace Go.Proofs.YtmecfjhdnbgfeaaGreatDoor
open Go.Am Dt
theorem Zh{l:List Dt}(h:∀e∈l,WV e):WV (yQ l):= .mk h fun _ h=>by cases h
theorem Pg(l:List Dt):(yQ l).bulk=6+bulkL l:=by show Dt.bulk (.agg [.int 6,.int 0,.str (ByteArray.mk (List.toArray [])),.lst l,.lst []])=_;simp only[Dt.bulk,bulkL];show 1+(1+(0+1+(bulkL l+1+(0+1+0))))+1=_;omega
theorem rQ{g:Dt->Dt}{q:Dt->Bool}:∀{l:List Dt},(∀e∈l,(g e).bulk<=e.bulk)->bulkL ((l.map g).filter q)<=bulkL l
 | [],_=>aj _
 |a::l,h=>by
  have h1:=h a (bA ..);have h2:=rQ (q:=q) (l:=l) fun e he=>h e (bD _ he);rw[List.map_cons,List.filter_cons];split;·rw[bulkL,bulkL];omega
  ·rw[bulkL];omega
theorem KN:∀(n:Nat)(v:Dt)(p:List Dt),WV v->WV (atN n v p)∧(atN n v p).bulk<=v.bulk
 |0,v,p,h=>⟨Un,by have:=wh h;rw[show atN 0 v p=aC from rfl,show aC.bulk=6 by decide];omega⟩
 |n+1,v,[],h=>⟨h,aj _⟩
 |n+    1,v,s::r,h=>by
  have hz:WV aC∧aC.bulk<=v.bulk:=⟨Un,by have:=wh h;rw[show aC.bulk=6 by decide];omega⟩;obtain⟨wl,wd⟩:=xV h;rw[atN];cases I v 0==5
  ·rw[   cond_false];cases I v 0==6;·exact hz
   ·    rw[cond_true];refine⟨Zh fun e he=>?_,?_⟩
        ·obtain⟨x,hx,rfl⟩:=List.mem_map.1 (List.mem_filter.1 he).1;exact(KN n x (s::r) (wl x hx)).1
        ·rw[Pg,wh h];have:=rQ (g:=fun e=>atN n e (s::r)) (q:=nnB) (l:=L v 3) fun e he=>(KN n e (s::r) (wl e he)).2;omega
  ·rw[cond_true];cases hf:fnd (toStr s) (L v 4)with
   |none=>exact hz
   |    some x=>
        obtain⟨f,h1,h2⟩:=J5 hf;have hx:WV x:=by rw[h2];exact(EH (wd f h1)).2
        exact⟨(KN n x r hx).1,Nat.le_trans (KN n x r hx).2 (Nat.le_of_lt (adn hf))⟩
theorem KO{n:Nat}{d:Dt}(h:sndF nm n d=true):1<=I d 0:=by
 cases n with
 |zero=>cases h
 |succ n=>
  rw[sndF,aM]at h;have h:=h.2;by_cases hk:1<=I d 0∧I d 0<=11;·exact hk.1
  ·have ne:∀k:Int,1<=k->k<=11->(I d 0==k)=false:=fun k h1 h2=>by rw[beq_eq_false_iff_ne];omega
   rw[ne 9 (by omega) (by omega),ne 10 (by omega) (by omega),ne 4 (by omega) (by omega),ne 7 (by omega) (by omega),ne 8 (by omega) (by omega),ne 6 (by omega) (by omega),ne 5 (by omega) (by omega)]at h;simp only[cond_false,aM,decide_eq_true_eq]at h;omega
theorem akr:∀(n:Nat)(v:Dt)(p:List Dt)(k:Nat),sndF nm k v=true->atN n v p=aC∨1<=I (atN n v p) 0
 |0,_,_,_,_=> .inl rfl
 |n+1,v,[],k,h=> .inr (KO h)
 |n+1,v,s::r,0,h=>by cases h
 |n+    1,v,s::r,k+1,h=>by
  rw[atN];cases h5:I v 0==5
  ·rw[cond_false];cases I v 0==6;·exact .inl rfl
   ·exact .inr (by rw[cond_true];show (1:Int)<=6;omega)
  ·rw[cond_true];cases hf:fnd (toStr s) (L v 4)with
   |none=>exact .inl rfl
   |    some x=>
        obtain⟨f,h1,rfl⟩:=J5 hf;have e5:I v 0=5:=by simpa using h5
        rw[sndF,aM,e5]at h;have hfl:fl nm (sndF nm k) [] (L v 4)=true:=h.2;exact akr n _ r k (Xo hfl f h1).2
structure Rs (c:Dt) (B:Nat):Prop where
 wv:WV c
 bk:c.bulk<=B
 nz:c=aC∨1<=I c 0
theorem Rs.le{c:Dt}{B B':Nat}(h:Rs c B)(hB:B<=B'):Rs c B':=⟨h.wv,Nat.le_trans h.bk hB,h.nz⟩
theorem Rs.k0{c:Dt}{B:Nat}(h:Rs c B):0<=I c 0:=by
 rcases h.nz with rfl|h;·show (0:Int)<=0;omega
 ·omega
theorem fM{b:Bool}{x y:Dt}{B:Nat}(hx:Rs x B)(hy:Rs y B):Rs (bif b then x else y) B:=by cases b<;>assumption
theorem Zi(k n:Int):(kV k n).bulk=6:=rfl
theorem zk(k n:Int)(h:1<=k):Rs (kV k n) 6:=⟨Uo k n,Nat.le_of_eq (Zi k n),.inr h⟩
theorem Ry:Rs aC 6:=⟨Un,by decide,.inl rfl⟩
theorem Cy(b:Bool):Rs (bV b) 6:=zk 9 _ (by omega)
theorem kZ:Rs (kV 2 0) 6:=zk 2 0 (by omega)
theorem Nd.rs{d:Dt}(h:Nd d):Rs d d.bulk:=by
 rcases h with rfl| ⟨h1,h2⟩;·exact⟨Un,aj _,.inl rfl⟩
 ·rw[okV]at h2;simp only[aM]at h2;exact⟨h1,aj _,.inr (KO h2.2)⟩
theorem KP(op:Int)(l:List Dt):Rs (N8 op l) 6:=by unfold N8;exact fM (fM (zk 3 _ (by omega)) (fM (zk 3 _ (by omega)) (fM (zk 3 _ (by omega)) (fM kZ (fM (zk 3 _ (by omega)) (zk 3 _ (by omega))))))) kZ
theorem C9(op c:Int):Rs (Jm op c) 6:=by unfold Jm;exact fM (Cy _) (fM (Cy _) (fM (Cy _) (fM (Cy _) (fM (Cy _) (fM (Cy _) (zk 3 _ (by omega)))))))
theorem aks(op:Int)(l:List Dt):Rs (aoS op l) 6:=fM (Cy _) (Cy _)
theorem Zj(s:ByteArray):WV (Oj s):= .mk (fun _ h=>by cases h) fun _ h=>by cases h
theorem abR(s:ByteArray):(Oj s).bulk=6+s.size:=by rw[wh (Zj s)];rfl
theorem Rz{s:ByteArray}{B:Nat}(h:6+s.size<=B):Rs (Oj s) B:=⟨Zj s,by rw[abR];exact h,.inr (by show (1:Int)<=4;omega)⟩
theorem RB(op:Int)(a:Dt):Rs (Uj op a) (a.bulk+6):=by have h:=NC a 2;unfold Uj;exact fM (fM (Rz (by rw[L6];omega)) (fM (Rz (by rw[L6];omega)) ((zk 3 _ (by omega)).le (by omega)))) (kZ.le (by omega))
theorem adD(s:ByteArray)(a n:Int):(aiJ s a n).size<=s.size:=by rw[aiJ,ByteArray.size_extract];omega
theorem an8(a b c:Dt):Rs (slS a b c) (a.bulk+6):=by have h:=NC a 2;have:=adD (S a 2) (I b 1) (I c 1);unfold slS;exact fM (Rz (by omega)) (kZ.le (by omega))
theorem RF{l:List Dt}{B:Nat}(h:∀e∈l,WV e)(hB:6+bulkL l<=B):Rs (yQ l) B:=⟨Zh h,by rw[Pg];exact hB,.inr (by show (1:Int)<=6;omega)⟩
theorem abS(l:List Dt):bulkL l.reverse=bulkL l:=by
 have app:∀a b:List Dt,bulkL (a++b)=bulkL a+bulkL b:=fun a b=>by
  induction a with
  |nil=>simp[bulkL]
  |cons x a ih=>rw[List.cons_append,bulkL,bulkL,ih];omega
 induction l with
 |nil=>rfl
 |cons a l ih=>rw[List.reverse_cons,app,ih];simp only[bulkL];omega
theorem alx(a:Dt):Rs (adt a) 6:=fM (zk 3 _ (by omega)) kZ
theorem aly(a:Dt):Rs (adv a) 6:=fM (zk 3 _ (by omega)) kZ
theorem alz(a:Dt)(hw:WV a):Rs (adu a) (a.bulk+6):=by have:=II a 3;exact fM (RF (fun e he=>(xV hw).1 e (List.mem_reverse.1 he)) (by rw[abS];omega)) (kZ.le (by omega))
theorem alA(q:Dt->Bool)(l:Dt):Rs (ady q l) 6:=fM (Cy _) kZ
theorem Uq{n:Nat}{a:Dt}(hw:WV a)(h:sndF nm n a=true):∀e∈L a 3,WV e∧∃k,sndF nm k e=true:=by
 intro e he;refine⟨(xV hw).1 e he,?_⟩;cases n with
 |zero=>cases h
 |succ n=>
  rw[sndF,aM]at h;obtain⟨hs,h⟩:=h;by_cases k6:I a 0=6
  ·rw[k6]at h;have:(L a 3).all (sndF nm n)=true:=h;exact⟨n,List.all_eq_true.1 this e he⟩
  ·rw[shp]at hs;simp only[aM]at hs;have e3:L a 3=[]:=J6 (by simpa [k6]using hs.1.2);rw[e3]at he;cases he
theorem Nd.elem{a:Dt}(h:Nd a):∀e∈L a 3,Rs e e.bulk:=by
 rcases h with rfl| ⟨h1,h2⟩;·intro e he;cases he
 ·rw[okV]at h2;simp only[aM]at h2;intro e he;obtain⟨hw,k,hk⟩:=Uq h1 h2.2 e he;exact⟨hw,aj _,.inr (KO hk)⟩
theorem alB(l:List Dt)(i:Dt)(B:Nat)(h:∀e∈l,Rs e B)(hB:6<=B):Rs (adq l i) B:=by
 unfold adq;refine fM (fM (Ry.le hB) ?_) (kZ.le hB);rw[List.getD_eq_getElem?_getD];cases hg:l[(bif decide (I i 1<0)then w64 (I i 1+(l.length:Int))else I i 1).toNat]? with
 |none=>exact Ry.le hB
 |some x=>exact h x (aV hg)
theorem alC(a i:Dt)(h:Nd a):Rs (adx a i) (a.bulk+6):=by refine fM (alB _ _ _ (fun e he=>?_) (by omega)) (kZ.le (by omega));have:=oK he;exact(h.elem e he).le (by omega)
theorem Ph(a b:List Dt):bulkL (a++b)=bulkL a+bulkL b:=by
 induction a with
 |nil=>simp[bulkL]
 |cons x a ih=>rw[List.cons_append,bulkL,bulkL,ih];omega
theorem Gj:∀l:List Dt,bulkL (Gg l)<=bulkL l
 | []=>aj _
 |a::l=>by have:=II a 3;have:=Gj l;rw[Bz,Ph,bulkL];omega
theorem alD(l:List Dt)(h:∀e∈l,WV e):Rs (adw l) (bulkL l+6):=by have:=Gj l;refine fM (RF (fun e he=>?_) (by omega)) (kZ.le (by omega));obtain⟨a,h1,h2⟩:=List.mem_flatMap.1 he;exact(xV (h a h1)).1 e h2
theorem alE{d:Dt}(h:WV d):WV (orN d):=by
 unfold orN;cases (I d 0==0);·exact h
 ·exact Uo 2 0
theorem adE{d:Dt}(h:WV d):(orN d).bulk<=d.bulk:=by
 have:=wh h;unfold orN;cases (I d 0==0);·exact aj _
 ·rw[cond_true,Zi];omega
theorem Zk:∀{l:List Dt},(∀e∈l,WV e)->(∀e∈l.map orN,WV e)∧bulkL (l.map orN)<=bulkL l
 | [],_=>⟨(fun _ h=>by cases h),aj _⟩
 |a::l,h=>by
  have h1:=h a (bA ..);obtain⟨h2,h3⟩:=Zk (l:=l) fun e he=>h e (bD _ he);have:=adE h1;refine⟨fun e he=>?_,by rw[List.map_cons,bulkL,bulkL];omega⟩;rcases List.mem_cons.1 he with rfl|he;·exact alE h1
  ·exact h2 e he
theorem Zl(l:List Dt)(h:∀e∈l,WV e):Rs (yQ (l.map orN)) (bulkL l+6):=by obtain⟨h1,h2⟩:=Zk h;exact RF h1 (by omega)
theorem Zm:∀(ns ks:List Dt),(∀e∈ks,WV e)->(∀f∈Gi ns ks,WF f)∧bulkL (Gi ns ks)<=2*bulkL ns+2*ns.length+bulkL ks
 | [],ks,_=>⟨(fun _ h=>by cases h),by show 0<=_;omega⟩
 |n::ns,[],_=>⟨(fun _ h=>by cases h),by show 0<=_;omega⟩
 |n::ns,k::ks,h=>by
  have hk:=h k (bA ..);obtain⟨h1,h2⟩:=Zm ns ks fun e he=>h e (bD _ he);have hs:(toStr n).size<=n.bulk:=by
   cases n with
   |str s=>show s.size<=s.size+1;omega
   |_=>exact aI _
  rw[Gi];cases nnB k
  ·rw[cond_false];refine⟨h1,?_⟩;simp only[bulkL,List.length_cons];omega
  ·rw[cond_true];refine⟨fun f hf=>?_,?_⟩
   ·    rcases List.mem_cons.1 hf with rfl|hf;·exact .mk hk
        ·exact h1 f hf
   ·    simp only[bulkL,Dt.bulk,List.length_cons];omega
theorem Gl:∀l:List Dt,(catB l).length<=bulkL l
 | []=>aj _
 |a::l=>by have h1:=NC a 2;have h2:=Gl l;rw[show catB (a::l)=(S a 2).data.toList++catB l from rfl,aD,ajI,bulkL];omega
theorem aiQ(l:List Dt):Rs (adz l) (bulkL l+6):=by have:=Gl l;exact fM (Rz (by rw[aiI];omega)) (kZ.le (by omega))
theorem RG{l:List Dt}(h:∀f∈l,WF f):WV (KH l):= .mk (fun _ h=>by cases h) h
theorem alF(ns ks:List Dt)(h:∀e∈ks,WV e):Rs (KH (Gi ns ks)) (2*bulkL ns+2*ns.length+bulkL ks+6):=by obtain⟨h1,h2⟩:=Zm ns ks h;refine⟨RG h1,?_,.inr (by show (1:Int)<=5;omega)⟩;rw[wh (RG h1)];show 6+0+0+bulkL (Gi ns ks)<=_;omega
theorem an9(a b c:Dt)(hb:Nd b)(hc:Nd c):Rs (bif trB a then b else c) 4300800:=fM (hb.rs.le hb.bulk) (hc.rs.le hc.bulk)
theorem alG(a b:Dt)(ha:Nd a)(hb:Nd b):Rs (bif I (orN a) 0==2 then b else a) 4300800:=fM (hb.rs.le hb.bulk) (ha.rs.le ha.bulk)
def opS(op:Int)(e:Dt)(ks:List Dt)(mg:Dt):Dt:=
 bif decide (op<=8)then N8 op ks
 else bif decide (op<=15)then Jm op (cmpD (ks.getD 0 aC) (ks.getD 1 aC))
 else bif decide (op<=17)then aoS op ks
 else bif op==18 then bV (!trB (ks.getD 0 aC))
 else bif op==19 then(bif trB (ks.getD 0 aC)then ks.getD 1 aC else ks.getD 2 aC)
 else bif op==20 then(bif I (orN (ks.getD 0 aC)) 0==2 then ks.getD 1 aC else ks.getD 0 aC)
 else bif op==21 then adz ks
 else bif decide (op<=24)then Uj op (ks.getD 0 aC)
 else bif op==25 then slS (ks.getD 0 aC) (ks.getD 1 aC) (ks.getD 2 aC)
 else bif op==26 then adt (ks.getD 0 aC)
 else bif op==27 then adx (ks.getD 0 aC) (ks.getD 1 aC)
 else bif op==28 then ady (fun x=>cmpD x (ks.getD 0 aC)==0) (ks.getD 1 aC)
 else bif op==29 then adw ks
 else bif op==30 then adu (ks.getD 0 aC)
 else bif op==31 then adv (ks.getD 0 aC)
 else bif op==34 then KH (Gi (L e 3) ks)
 else bif op==35 then yQ (ks.map orN)
 else bif op==36 then kV 3 (I (ks.getD 0 aC) 0)
 else mg
def evS(mgS:List Dt->Dt):Nat->Dt->Dt->List (ByteArray×Dt)->Dt
 |0,_,_,_=>aC
 |  r+1,e,doc,env=>nm1 (
    bif I e 0==1 then fld e 4
    else bif I e 0==2 then atN 4300801 doc (L e 1)
    else bif I e 0==3 then N9 (fun v=>atN 4300801 v (L e 1)) (S e 2) env
    else bif I e 0==32||I e 0==33 then
     bif isK 6 (evS mgS r ((L e 6).getD 0 aC) doc env)then
      yQ (lpS (I e 0) (fun x=>evS mgS r ((L e 6).getD 1 aC) doc ((S e 2,x)::env)) (L (evS mgS r ((L e 6).getD 0 aC) doc env) 3))
     else kV 2 0
    else opS (I e 0) e ((L e 6).map fun k=>evS mgS r k doc env) (mgS ((L e 6).map fun k=>evS mgS r k doc env)))
def KQ(r:Dt):List Dt->Dt
 | []=>r
 |f::l=>KQ (JV r (S f 0) (fld f 1)) l
def mgP:Bool->Dt->List Dt->Dt
 |_,r,[]=>r
 |b,r,k::l=>bif (I k 0==0||I k 0==2)then mgP b r l else bif I k 0==5 then(bif b then mgP false k l else bif decide ((1024:Int)<((L (KQ r (L k 4)) 4).length:Int))then kV 2 0 else mgP false (KQ r (L k 4)) l)else kV 2 0
def mgS(l:List Dt):Dt:=mgP true (KH []) l
structure Dc (r:Dt):Prop where
 wv:WV r
 k5:I r 0=5
theorem Zn{r x:Dt}{s:ByteArray}(h:Dc r)(hx:WV x):Dc (JV r s x)∧(L r 4).length<=(L (JV r s x) 4).length∧(JV r s x).bulk<=r.bulk+(2+s.size+x.bulk):=by
 refine⟨⟨akk h.wv hx,?_⟩,?_,?_⟩
 ·unfold JV;split;·exact h.k5
  ·exact h.k5
 ·unfold JV;split
  ·show _<=((L r 4).set _ _).length;rw[List.length_set];exact aj _
  ·show _<=(L r 4++[_]).length;rw[aD];omega
 ·unfold JV;split
  ·rename_i k hk;have:=acZ (c:=x) h.wv (aiq hk);omega
  ·rw[ap8,WO,(Y1 h.wv).2.2,Ph];have:bulkL [agg [.str s,x]]=2+s.size+x.bulk:=by have:=(EH (.mk hx:WF (.agg [.str s,x]))).1;rw[bulkL,this];show 2+s.size+x.bulk+0=_;omega
   omega
theorem RH:∀(l:List Dt){r:Dt},Dc r->(∀f∈l,WF f)->Dc (KQ r l)∧(L r 4).length<=(L (KQ r l) 4).length∧(KQ r l).bulk<=r.bulk+bulkL l
 | [],r,h,_=>⟨h,aj _,aj _⟩
 |f::l,r,h,hl=>by obtain⟨f1,f2⟩:=EH (hl f (bA ..));obtain⟨h1,h2,h3⟩:=Zn (s:=S f 0) h f2;obtain⟨h4,h5,h6⟩:=RH l h1 fun g hg=>hl g (bD _ hg);rw[KQ,bulkL];exact⟨h4,by omega,by omega⟩
theorem Nd.doc{k:Dt}(h:Nd k)(hk:I k 0=5):Dc k∧∀f∈L k 4,WF f:=⟨⟨h.wv,hk⟩,(xV h.wv).2⟩
theorem kor{k:Dt}(hk:(I k 0==5)=true):I k 0=5:=by simpa using hk
theorem aoa:Dc (KH []):=⟨RG (fun _ h=>by cases h),rfl⟩
theorem Zo{k:Dt}(h:WV k):bulkL (L k 4)<=k.bulk:=by rw[wh h];omega
theorem aob{r:Dt}(h:Dc r){B:Nat}(hB:r.bulk<=B):Rs r B:=⟨h.wv,hB,.inr (by rw[h.k5];omega)⟩
theorem adF:∀(l:List Dt){b:Bool}{r:Dt},Dc r->(∀k∈l,Nd k)->Rs (mgP b r l) (r.bulk+bulkL l)
 | [],_,r,h,_=>aob h (aj _)
 |k::l,b,r,h,hl=>by
  have hk:=hl k (bA ..);have ih:=fun{b:Bool}{r:Dt}(h:Dc r)=>adF l (b:=b) h fun g hg=>hl g (bD _ hg);have h6:=wv6 h.wv;rw[mgP,bulkL];refine fM ((ih h).le (by omega)) ?_;cases h5:(I k 0==5);·exact kZ.le (by omega)
  ·obtain⟨d1,d2⟩:=hk.doc (kor h5);obtain⟨a1,a2,a3⟩:=RH _ h d2;have:=Zo d1.wv;rw[cond_true];exact fM ((ih d1).le (by omega)) (fM (kZ.le (by omega)) ((ih a1).le (by omega)))
theorem Zp{A:Type}(f:A->Nat)(h:∀a,1<=f a):∀l:List A,l.length<=(l.map f).sum
 | []=>aj _
 |a::l=>by
  have:=h a;have:=Zp f h l
  rw[List.map_cons,List.sum_cons,List.length_cons];omega
theorem aql(d:Dt):1<=nds d:=by
 unfold nds;cases d.bulk with
 |zero=>exact aj _
 |succ n=>rw[YV];omega
theorem akt(m:Nat)(rec1:Bool->List Dt->Int->Int->Dt->Dt->Option Dt)(b:Bool)(l:List Dt)(n i:Int)(z:Dt)(fs:List Dt)(hf:∀f∈fs,WF f)(hfl:fs.length<9223372036854775000)(hm:1200000000<=m)(hm2:m<9223372036854775000):∀(M j:Nat)(r:Dt),j<=fs.length->fs.length-j<M->Dc r->r.bulk+bulkL (fs.drop j)<=1200000000->
  pJ (m+2) rec1 M b l n i fs (fs.length:Int) (j:Int) z r=uP (m+2) rec1 b l n i z (KQ r (fs.drop j))
 |0,j,_,_,h,_,_=>by omega
 |M+1,j,r,hj,h,hr,hb=>by
  have hl:=yJ (fs.drop j);rw[List.length_drop]at hl;simp only[pJ,dlt];by_cases hlt:j<fs.length
  ·rw[uf hlt]at hb ⊢
   rw[bulkL]at hb;obtain⟨f1,f2⟩:=EH (hf _ (aF hlt));obtain⟨s1,_,s3⟩:=Zn (s:=S fs[j] 0) hr f2;have hs:=akl m (S fs[j] 0) r (fld fs[j] 1) hr.wv f2 hr.k5 (by omega) (by omega) (by omega) (by omega) (by omega);have ih:=akt m rec1 b l n i z fs hf hfl hm hm2 M (j+1) (JV r (S fs[j] 0) (fld fs[j] 1)) (by omega) (by omega) s1 (by omega);have hj2:j<9223372036854775807:=by omega
   simp only[hlt,decide_true,cond_true,bI hlt,ah,hs,bX hj2,KQ];exact ih
  ·rw[xU hlt];simp only[hlt,decide_false,cond_false,KQ]
theorem adG(m:Nat)(l:List Dt)(z:Dt)(hk:∀k∈l,Nd k)(hl:l.length<9223372036854775000)(hm:1200000000<=m)(hm2:m<9223372036854775000):∀(M i:Nat)(b:Bool)(r:Dt),i<=l.length->l.length-i<M->Dc r->r.bulk+bulkL (l.drop i)<=1200000000->
  gF (m+2) M b l (l.length:Int) (i:Int) z r=some (mgP b r (l.drop i))
 |0,i,_,_,_,h,_,_=>by omega
 |M+    1,i,  b,r,hi,h,hr,hb=>by
  simp only[gF,dlt];by_cases hlt:i<l.length
  ·rw[   uf hlt]at hb ⊢
   rw[bulkL]at hb;have ih:=fun b r=>adG m l z hk hl hm hm2 M (i+1) b r (by omega) (by omega);have hn:=hk _ (aF hlt);have e4:∀b r,pI (m+2) (gF (m+2) M) b l (l.length:Int) (i:Int) z r=gF (m+2) M b l (l.length:Int) (((i+1:Nat)):Int) z r:=fun b r=>by rw[pI,bX (by omega)]
   simp only[hlt,decide_true,cond_true,sM,bI hlt,ah,mgP,ED (m+1),e4];cases h0:(I l[i] 0==0)
   ·    cases h2:(I l[i] 0==2)
        ·cases h5:(I l[i] 0==5);·rfl
         ·obtain⟨d1,d2⟩:=hn.doc (kor h5);have hL:=Zo d1.wv;cases b
          ·   obtain⟨a1,a2,a3⟩:=RH _ hr d2;have hl4:=yJ (L l[i] 4);have hin:=akt m (gF (m+2) M) false l (l.length:Int) (i:Int) z (L l[i] 4) d2 (by omega) hm hm2 (Nat.succ (m+2)) 0 r (aI _) (by omega) hr (by rw[aQ];omega);rw[aQ]at hin;simp only[cond_true,cond_false,Bool.or_false,Bool.false_or];refine hin.trans ?_;simp only[uP,ED (m+1),ah,e4];cases decide ((1024:Int)<((L (KQ r (L l[i] 4)) 4).length:Int));·exact ih false _ a1 (by omega)
              ·rfl
          ·exact ih false _ d1 (by have:=wv6 hr.wv;omega)
        ·exact ih b r hr (by omega)
   ·exact ih b r hr (by omega)
  ·rw[xU hlt];simp only[hlt,decide_false,cond_false,mgP]
theorem BD:∀(l:List Dt),(∀k∈l,Nd k)->bulkL l<=4300800*l.length
 | [],_=>aj _
 |a::l,h=>by have h1:=(h a (bA ..)).bulk;have h2:=BD l fun k hk=>h k (bD _ hk);rw[bulkL,List.length_cons];omega
theorem aiR(l:List Dt)(hk:∀k∈l,Nd k)(h:l.length<=256)(m:Nat)(hm:1200000001<=m)(hm2:m<9223372036854775000):oF (m+2) l=some (mgS l):=by have hB:=BD l hk;obtain⟨q,rfl⟩:∃q,m=q+1:=⟨m-1,by omega⟩;have key:=adG q l aC hk (by omega) (by omega) (by omega) (Nat.succ (q+2)) 0 true (KH []) (aI _) (by omega) aoa (by have:(KH []).bulk=6:=rfl;rw[aQ];omega);rw[aQ]at key;exact key
def VE:Nat->Dt->Prop
 |0,_=>False
 |r+1,d=>nodeS d=0∧(L d 6).length<=256∧∀k∈L d 6,VE r k
theorem adH{b:Bool}{x y:Int}(h:(bif b then x else y)=0)(hx:x≠0):b=false∧y=0:=by
 cases b;·exact⟨rfl,h⟩
 ·exact absurd h hx
theorem Zq{f:Dt->Nat->Nat×Int}(hf:∀e n,n<=256->(f e n).2=0->n<(f e n).1∧(f e n).1<=256):∀(l:List Dt)(n:Nat),n<=256->(ckL f l n).2=0->n+l.length<=(ckL f l n).1∧∀e∈l,∃n',n'<=256∧(f e n').2=0
 | [],n,hn,h=>⟨aj _,fun _ h=>by cases h⟩
 |e::r,n,hn,h=>by
  rw[ckL]at h ⊢
  cases hb:((f e n).2 !=0)with
  |true=>
   rw[hb,cond_true]at h;rw[h]at hb;cases hb
  |false=>
   have hz:(f e n).2=0:=by simpa [bne]using hb
   rw[hb,cond_false]at h;rw[cond_false];obtain⟨h1,h2⟩:=hf e n hn hz;obtain⟨h3,h4⟩:=Zq hf r _ h2 h;refine⟨by rw[List.length_cons];omega,fun x hx=>?_⟩;rcases List.mem_cons.1 hx with rfl|hx;·exact⟨n,hn,hz⟩
   ·exact h4 x hx
theorem J7:∀(r:Nat)(d:Dt)(n:Nat),n<=256->(ckE r d n).2=0->n<(ckE r d n).1∧VE r d
 |0,_,_,_,h=>absurd (show (2:Int)=0 from h) (by decide)
 |r+    1,d,n,hn,h=>by
  rw[ckE]at h ⊢
  cases hb:Nat.beq n 256 with
  |true=>
   rw[hb,cond_true]at h;exact absurd (show (2:Int)=0 from h) (by decide)
  |false=>
   have h9:n≠256:=fun h=>by subst h;cases hb
   rw[hb,cond_false]at h;rw[cond_false];cases hz:(nodeS d !=0)with
   |    true=>
        rw[hz,cond_true]at h;have h:nodeS d=0:=h;rw[h]at hz;cases hz
   |    false=>
        have hz':nodeS d=0:=by simpa [bne]using hz
        rw[hz,cond_false]at h;rw[cond_false];obtain⟨h1,h2⟩:=Zq (f:=ckE r) (fun e n hn he=>⟨(J7 r e n hn he).1,NT r e n hn⟩) (L d 6) (n+1) (by omega) h;have h3:=Y3 (f:=ckE r) (fun e n h=>NT r e n h) (L d 6) (n+1) (by omega);refine⟨by omega,hz',by omega,fun k hk=>?_⟩;obtain⟨n',hn',he⟩:=h2 k hk;exact(J7 r k n' hn' he).2
theorem xW{d:Dt}(h:nodeS d=0):1<=I d 0∧I d 0<=37∧ehk (O1 (I d 0)) ((L d 6).length:Int)=true∧(I d 0=34->(L d 3).length=(L d 6).length)∧(I d 0=1->okV (fld d 4)=true):=by
 rw[nodeS]at h;obtain⟨h1,h⟩:=adH h (by decide);obtain⟨h2,h⟩:=adH h (by decide);rw[sE]at h;obtain⟨_,h⟩:=adH h (by decide);rw[sD]at h;obtain⟨_,h⟩:=adH h (by decide);rw[sC]at h;obtain⟨h3,_⟩:=adH h (by decide);rw[Bool.or_eq_false_iff]at h1 h2;have h11:=of_decide_eq_false h1.1;have h12:=of_decide_eq_false h1.2;refine⟨by omega,by omega,by simpa using h2.1,fun e=>?_,fun e=>?_⟩
 ·have h4:=h2.2;rw[e,show ((34:Int)==34)=true from rfl,Bool.true_and]at h4;have h5:((L d 6).length:Int)=((L d 3).length:Int):=by simpa [bne]using h4
  omega
 ·rw[e,show ((1:Int)==1)=true from rfl,Bool.true_and]at h3;simpa using h3
