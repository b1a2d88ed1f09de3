/- The encoding of values, in plain Lean: different values have different encodings.
The program's encoding of values is the plain one.
Maps by the documents' keys;documents put in place of those with the same identifier.
Total preorders by comparing functions,in plain Lean:products,lists,values.
Comparing values:the program's function,in plain Lean (parts numbered as since session 5).
Values that compare as equal are equal.
Copies of values:the functions hand the parts back.
Copies of values,by layer 4's function.
Comparing values:the reference's function (parts numbered as since session 5).
Storable documents:identifiers and keys.
Copies of documents by reshape's own function.
Merge:what each step of the store does.
Merge:the whole store.
Each value is the same as itself (layer 3's functions). -/
import Derived.Test.YtmecfjhdnbgfeaaGreatDoorPA
import Derived.Test.YtmecfjhdnbgfeaaGreatDoorA4
import Derived.Lib.Bytealg
import Derived.Test.YtmecfjhdnbgfeaaGreatDoorSh
set_option linter.all false
namespace Go.Proofs.YtmecfjhdnbgfeaaGreatDoor
open Go.Am Dt
theorem aoX{a b:Int}(h:zz a=zz b):a=b:=by unfold zz at h;split at h<;>split at h<;>omega
def tF:Nat->Nat->List UInt8
 |0,u=>[UInt8.ofNat u]
 |k+1,u=>if u<128 then[UInt8.ofNat u]else UInt8.ofNat (u%128+128)::tF k (u/128)
theorem oP{a b:Nat}(ha:a<256)(hb:b<256)(h:UInt8.ofNat a=UInt8.ofNat b):a=b:=by have:=congrArg UInt8.toNat h;rw[UInt8.toNat_ofNat',UInt8.toNat_ofNat',Nat.mod_eq_of_lt ha,Nat.mod_eq_of_lt hb]at this;exact this
theorem H6:∀(k u v:Nat)(r s:List UInt8),u<128^(k+1)->v<128^(k+1)->tF k u++r=tF k v++s->u=v∧r=s
 |0,u,v,r,s,hu,hv,h=>by simp only[tF,List.cons_append,List.nil_append,List.cons.injEq]at h;exact⟨oP (by omega) (by omega) h.1,h.2⟩
 |k+    1,u,v,r,s,hu,hv,h=>by
  rw[tF,tF]at h;rw[Nat.pow_succ]at hu hv;by_cases h1:u<128
  ·rw[if_pos h1]at h;by_cases h2:v<128
   ·    rw[if_pos h2]at h;simp only[List.cons_append,List.nil_append,List.cons.injEq]at h;exact⟨oP (by omega) (by omega) h.1,h.2⟩
   ·    rw[if_neg h2]at h;simp only[List.cons_append,List.nil_append,List.cons.injEq]at h;have:=oP (by omega) (by omega) h.1;omega
  ·rw[if_neg h1]at h;by_cases h2:v<128
   ·    rw[if_pos h2]at h;simp only[List.cons_append,List.nil_append,List.cons.injEq]at h;have:=oP (by omega) (by omega) h.1;omega
   ·    rw[if_neg h2]at h;simp only[List.cons_append,List.cons.injEq]at h;have h3:=oP (by omega) (by omega) h.1;obtain⟨h4,h5⟩:=H6 k (u/128) (v/128) r s (Nat.div_lt_of_lt_mul (by rw[Nat.mul_comm];exact hu)) (Nat.div_lt_of_lt_mul (by rw[Nat.mul_comm];exact hv)) h.2;exact⟨by omega,h5⟩
def numE(n:Int):List UInt8:=tF 9 (zz n)
theorem kN{a b:Int}{r s:List UInt8}(ha:rgI a)(hb:rgI b)(h:numE a++r=numE b++s):a=b∧r=s:=by have h1:=LB ha.1 ha.2;have h2:=LB hb.1 hb.2;obtain⟨h3,h4⟩:=H6 9 (zz a) (zz b) r s (by omega) (by omega) h;exact⟨aoX h3,h4⟩
def tH(s:ByteArray):List UInt8:=numE (s.size:Int)++s.data.toList
theorem y8{a b:ByteArray}{r s:List UInt8}(ha:a.size<9223372036854775807)(hb:b.size<9223372036854775807)(h:tH a++r=tH b++s):a=b∧r=s:=by
 unfold tH at h;rw[List.append_assoc,List.append_assoc]at h;obtain⟨h1,h2⟩:=kN ⟨by omega,by omega⟩ ⟨by omega,by omega⟩ h;obtain⟨h3,h4⟩:=List.append_inj h2 (by rw[Array.length_toList,Array.length_toList];have:a.data.size=a.size:=rfl;have:b.data.size=b.size:=rfl;omega)
 refine⟨?_,h4⟩;cases a;cases b
 simp only[ByteArray.mk.injEq];exact Array.toList_inj.1 h3
def Bt(n:Int):UInt8:=UInt8.ofNat n.toNat
def eY:Nat->Dt->List UInt8
 |0,_=>[]
 |  n+1,d=>Bt (I d 0)::(bif I d 0==3||I d 0==10 then numE (I d 1)else bif I d 0==9 then[Bt (I d 1)]else bif I d 0==4||I d 0==7 then tH (S d 2)else
    bif I d 0==8 then(S d 2).data.toList else bif I d 0==6 then numE ((L d 3).length:Int)++((L d 3).map (eY n)).flatten else
    bif I d 0==5 then numE ((L d 4).length:Int)++((L d 4).map fun f=>tH (S f 0)++eY n (fld f 1)).flatten else[])
theorem y9{f:Dt->List UInt8}:∀{L L':List Dt}{r s:List UInt8},L.length=L'.length->(∀e∈L,∀e'∈L',∀r s,f e++r=f e'++s->e=e'∧r=s)->(L.map f).flatten++r=(L'.map f).flatten++s->L=L'∧r=s
 | [],[],_,_,_,_,h=>⟨rfl,h⟩
 | [],_::_,_,_,hl,_,_=>by cases hl
 |_::_,[],_,_,hl,_,_=>by cases hl
 |a::L,b::L',r,s,hl,hi,h=>by simp only[List.map_cons,List.flatten_cons,List.append_assoc]at h;obtain⟨h1,h2⟩:=hi a bB b bB _ _ h;obtain⟨h3,h4⟩:=y9 (by simpa using hl) (fun e he e' he'=>hi e (aY _ he) e' (aY _ he')) h2;exact⟨by rw[h1,h3],h4⟩
theorem oQ{p:ByteArray->Bool}{self:Dt->Bool}:∀{L:List Dt}{seen:List ByteArray},fl p self seen L=true->∀f∈L,self (fld f 1)=true
 | [],_,_,f,hf=>by cases hf
 |a::L,seen,h,f,hf=>by
  simp only[fl,aJ]at h;rcases List.mem_cons.1 hf with rfl|hf;·exact h.1.2
  ·exact oQ h.2 f hf
theorem sz0{s:ByteArray}(h:(s.toList==[])=true):s=ByteArray.empty:=by
 have h:s.toList=[]:=by simpa using h
 rw[ByteArray.toList_eq]at h;cases s with
 |mk a=>cases a with
  |mk l=>
   have:l=[]:=h;subst this;rfl
theorem iw{p:ByteArray->Bool}{n:Nat}{d:Dt}(h:bX p n d=true):shp d=true∧1<=I d 0∧I d 0<=11:=by
 cases n with
 |zero=>cases h
 |succ n=>
  rw[bX,aJ]at h;refine⟨h.1,?_⟩;have h2:=h.2;rcases LY (I d 0)with e|e|e|e|e|e|e|e|e|e|e|e;all_goals first|omega|skip
  obtain⟨k1,k2,k3,k4,k5,k6,k7,k8,k9,k10,k11⟩:=kno e;rw[k9,k10,k4,k7,k8,k6,k5]at h2;simp only[cond_false,aJ,decide_eq_true_eq]at h2;omega
theorem Fy:∀(N:Nat)(a b:Dt)(n n':Nat)(r s:List UInt8),N<=1000000000->WV a->WV b->WR a->WR b->bX nm n a=true->bX nm n' b=true->a.bulk<=N->b.bulk<=N->eY N a++r=eY N b++s->a=b∧r=s
 |0,a,_,_,_,_,_,_,_,_,_,_,_,_,h,_,_=>by have:=bQ a;omega
 |N+1,a,b,0,_,_,_,_,_,_,_,_,h,_,_,_,_=>by cases h
 |N+1,a,b,_+1,0,_,_,_,_,_,_,_,_,h,_,_,_=>by cases h
 |N+    1,a,b,n+1,n'+1,r,s,hN,ha,hb,ra,rb,sa,sb,ba,bb,h=>by
  obtain⟨za,ka1,ka2⟩:=iw sa;obtain⟨zb,kb1,kb2⟩:=iw sb;obtain⟨ra1,ra5,ra6⟩:=jO ra;obtain⟨rb1,rb5,rb6⟩:=jO rb;have ra2:=j3 ha;have rb2:=j3 hb;have rf:=j4 ha;have rg:=j4 hb;obtain⟨pa1,pa2,pa3,pa4⟩:=cK ha;obtain⟨pb1,pb2,pb3,pb4⟩:=cK hb;rw[eY,eY,List.cons_append,List.cons_append,List.cons.injEq]at h;obtain⟨h0,h⟩:=h;have hk:I a 0=I b 0:=by have:=oP (by omega) (by omega) h0;omega
  rw[bX,aJ]at sa sb;have fin:I a 1=I b 1->S a 2=S b 2->L a 3=L b 3->L a 4=L b 4->a=b:=fun h1 h2 h3 h4=>by
   cases ha with
   |    mk _ _=>cases hb with
        |mk _ _=>
         simp only[I,S,L,fld,toInt,toStr,toLst,List.getD_cons_zero,List.getD_cons_succ]at hk h1 h2 h3 h4;subst hk h1 h2 h3 h4;rfl
  unfold shp at za zb;simp only[aJ]at za zb;obtain⟨⟨⟨za1,za2⟩,za3⟩,za4⟩:=za;obtain⟨⟨⟨zb1,zb2⟩,zb3⟩,zb4⟩:=zb;rw[←hk]at zb1 zb2 zb3 zb4 sb h;obtain⟨k,hkk⟩:∃k,k=I a 0:=⟨_,rfl⟩;rw[←hkk]at za1 za2 za3 za4 zb1 zb2 zb3 zb4 sa sb h ka1 ka2;have I0:(k==3)=false->(k==9)=false->(k==10)=false->I a 1=I b 1:=fun e1 e2 e3=>by rw[e1,e2,e3]at za1 zb1;simp only[Bool.false_or,beq_iff_eq]at za1 zb1;rw[za1,zb1]
  have S0:(k==4)=false->(k==7)=false->(k==8)=false->S a 2=S b 2:=fun e1 e2 e3=>by rw[e1,e2,e3]at za2 zb2;simp only[Bool.false_or]at za2 zb2;rw[sz0 za2,sz0 zb2]
  have L0:(k==6)=false->L a 3=L b 3:=fun e1=>by rw[e1,Bool.false_or]at za3 zb3;rw[Bg za3,Bg zb3]
  have F0:(k==5)=false->L a 4=L b 4:=fun e1=>by rw[e1,Bool.false_or]at za4 zb4;rw[Bg za4,Bg zb4]
  clear hkk hk h0;have nil:[]++r=[]++s->r=s:=fun h=>h;rcases LY k with e|e|e|e|e|e|e|e|e|e|e|e;all_goals first|omega|skip
  all_goals subst e
  ·exact⟨fin (I0 rfl rfl rfl) (S0 rfl rfl rfl) (L0 rfl) (F0 rfl),nil h⟩
  ·exact⟨fin (I0 rfl rfl rfl) (S0 rfl rfl rfl) (L0 rfl) (F0 rfl),nil h⟩
  ·obtain⟨h1,h2⟩:=kN ra1 rb1 h;exact⟨fin h1 (S0 rfl rfl rfl) (L0 rfl) (F0 rfl),h2⟩
  ·obtain⟨h1,h2⟩:=y8 (by omega) (by omega) h;exact⟨fin (I0 rfl rfl rfl) h1 (L0 rfl) (F0 rfl),h2⟩
  ·have h:(numE ((L a 4).length:Int)++((L a 4).map fun f=>tH (S f 0)++eY N (fld f 1)).flatten)++r=(numE ((L b 4).length:Int)++((L b 4).map fun f=>tH (S f 0)++eY N (fld f 1)).flatten)++s:=h;rw[List.append_assoc,List.append_assoc]at h;obtain⟨h1,h2⟩:=kN ⟨by omega,by omega⟩ ⟨by omega,by omega⟩ h;have ga:fl nm (bX nm n) [] (L a 4)=true:=sa.2;have gb:fl nm (bX nm n') [] (L b 4)=true:=sb.2;obtain⟨h3,h4⟩:=y9 (by omega) (fun f hf g hg r s e=>by
        rw[List.append_assoc,List.append_assoc]at e;obtain⟨e1,e2⟩:=y8 (by have:=rf f hf;have:=bU hf;omega) (by have:=rg g hg;have:=bU hg;omega) e;obtain⟨e3,e4⟩:=Fy N (fld f 1) (fld g 1) n n' r s (by omega) (pa4 f hf).1 (pb4 g hg).1 (ra6 f hf) (rb6 g hg) (oQ ga f hf) (oQ gb g hg) (by have:=(pa4 f hf).2;omega) (by have:=(pb4 g hg).2;omega) e2;refine⟨?_,e4⟩;cases (VZ ha).2.1 f hf with
        |mk _=>cases (VZ hb).2.1 g hg with
         |mk _=>
          simp only[S,fld,toStr,List.getD_cons_zero,List.getD_cons_succ]at e1 e3;rw[e1,e3]) h2
   exact⟨fin (I0 rfl rfl rfl) (S0 rfl rfl rfl) (L0 rfl) h3,h4⟩
  ·have h:(numE ((L a 3).length:Int)++((L a 3).map (eY N)).flatten)++r=(numE ((L b 3).length:Int)++((L b 3).map (eY N)).flatten)++s:=h;rw[List.append_assoc,List.append_assoc]at h;obtain⟨h1,h2⟩:=kN ⟨by omega,by omega⟩ ⟨by omega,by omega⟩ h;have ga:(L a 3).all (bX nm n)=true:=sa.2;have gb:(L b 3).all (bX nm n')=true:=sb.2;obtain⟨h3,h4⟩:=y9 (by omega) (fun e he e' he' r s x=>
        Fy N e e' n n' r s (by omega) (pa3 e he).1 (pb3 e' he').1 (ra5 e he) (rb5 e' he') (List.all_eq_true.1 ga e he) (List.all_eq_true.1 gb e' he') (by have:=(pa3 e he).2;omega) (by have:=(pb3 e' he').2;omega) x) h2
   exact⟨fin (I0 rfl rfl rfl) (S0 rfl rfl rfl) h3 (F0 rfl),h4⟩
  ·obtain⟨h1,h2⟩:=y8 (by omega) (by omega) h;exact⟨fin (I0 rfl rfl rfl) h1 (L0 rfl) (F0 rfl),h2⟩
  ·have h:(S a 2).data.toList++r=(S b 2).data.toList++s:=h;have ga:(((S a 2).size:Int)==12)=true:=sa.2;have gb:(((S b 2).size:Int)==12)=true:=sb.2;simp only[beq_iff_eq]at ga gb;obtain⟨h3,h4⟩:=List.append_inj h (by rw[Array.length_toList,Array.length_toList];have:(S a 2).data.size=(S a 2).size:=rfl;have:(S b 2).data.size=(S b 2).size:=rfl;omega)
   refine⟨fin (I0 rfl rfl rfl) ?_ (L0 rfl) (F0 rfl),h4⟩;generalize S a 2=x at h3;generalize S b 2=y at h3;cases x;cases y
   simp only[ByteArray.mk.injEq];exact Array.toList_inj.1 h3
  ·have h:Bt (I a 1)::r=Bt (I b 1)::s:=h;have ga:(I a 1==0||I a 1==1)=true:=sa.2;have gb:(I b 1==0||I b 1==1)=true:=sb.2;simp only[Bool.or_eq_true,beq_iff_eq]at ga gb;rw[List.cons.injEq]at h;have:=oP (by omega) (by omega) h.1;exact⟨fin (by omega) (S0 rfl rfl rfl) (L0 rfl) (F0 rfl),h.2⟩
  ·obtain⟨h1,h2⟩:=kN ra1 rb1 h;exact⟨fin h1 (S0 rfl rfl rfl) (L0 rfl) (F0 rfl),h2⟩
  ·exact⟨fin (I0 rfl rfl rfl) (S0 rfl rfl rfl) (L0 rfl) (F0 rfl),nil h⟩
def bI(l:List UInt8):List Dt:=l.map fun b=>int (b.toNat:Int)
theorem iY(l:List UInt8):(bI l).length=l.length:=by simp[bI]
theorem tJ(a b:List UInt8):bI (a++b)=bI a++bI b:=by simp[bI]
theorem Db(s:ByteArray):bytesD s=bI s.data.toList:=rfl
def bA(l:List UInt8):ByteArray:=⟨l.toArray⟩
theorem M0{a b:ByteArray}(h:a.data.toList=b.data.toList):a=b:=by
 cases a;cases b
 simp only[ByteArray.mk.injEq];exact Array.toList_inj.1 h
theorem aoY{a b:List UInt8}(h:bA a=bA b):a=b:=by have:=congrArg (fun s:ByteArray=>s.data.toList) h;simpa [bA]using this
theorem aoZ(l:List UInt8):strOfNums ((bI l).map toInt)=bA l:=by unfold strOfNums bI;refine M0 ?_;simp only[List.map_map];show List.map _ l=l;refine(List.map_congr_left fun x _=>?_).trans (List.map_id l);show UInt8.ofNat ((x.toNat:Int).toNat)=x;simp
theorem M4(x:Int):IntKind.wrap IntKind.u8 x=x%256:=by unfold IntKind.wrap;simp[IntKind.bits,IntKind.signed]
set_option maxRecDepth 100000 in
theorem arG:∀x:Nat,x<256->orI .u8 (x:Int) 128=((x%128+128:Nat):Int):=by decide+kernel
theorem O7{m:Nat}:∀(k M u:Nat)(row:List Dt),u<128^(k+1)->k<M->row.length+k+1<=137438953472->r9 m M (u:Int) row=some (row++bI (tF k u))
 |k,0,u,row,_,h,_=>by omega
 |k,M+1,u,row,hu,hM,hr=>by
  rw[r9];by_cases h1:u<128
  ·rw[decide_eq_false (by omega),cond_false,Mh,M4,show (u:Int)%256=(u:Int) by omega,lU (by simp;omega),ah];have e:tF k u=[UInt8.ofNat u]:=by
        cases k with
        |zero=>rfl
        |succ k=>rw[tF,if_pos h1]
   rw[e];show some (row++[int (u:Int)])=some (row++[int ((UInt8.ofNat u).toNat:Int)]);rw[UInt8.toNat_ofNat',Nat.mod_eq_of_lt (by omega)]
  ·cases k with
   |zero=>omega
   |    succ k=>
        have e1:orI .u8 (IntKind.wrap .u8 (u:Int)) 128=((u%128+128:Nat):Int):=by rw[M4,show (u:Int)%256=((u%256:Nat):Int) by omega,arG _ (by omega)];omega
        rw[decide_eq_true (by omega),cond_true,Mg,e1,lU (by simp;omega),ah,auX];rw[Nat.pow_succ]at hu;rw[O7 k M (u/128) _ (Nat.div_lt_of_lt_mul (by rw[Nat.mul_comm];exact hu)) (by omega) (by simp;omega),tF,if_neg h1];show some (row++[_]++bI _)=some (row++(int ((UInt8.ofNat (u%128+128)).toNat:Int)::bI _));rw[UInt8.toNat_ofNat',Nat.mod_eq_of_lt (show u%128+128<2^8 by omega),List.append_assoc];rfl
theorem H7:∀k u,(tF k u).length<=k+1
 |0,u=>aM _
 |k+1,u=>by
  rw[tF];split;·simp
  ·have:=H7 k (u/128);simp;omega
theorem aiP{m:Nat}(hm:12<=m)(n:Int)(row:List Dt)(hn:rgI n)(hr:row.length+10<=137438953472):i60 (m+1) n row=some (row++bI (numE n)):=by obtain⟨q,rfl⟩:∃q,m=q+1:=⟨m-1,by omega⟩;have hz:=LB hn.1 hn.2;rw[i60,aix q n hn.1 hn.2,ah];exact O7 9 (q+2) (zz n) row (by omega) (by omega) (by omega)
theorem iy(n:Int):(numE n).length<=10:=H7 9 _
theorem ze(s:ByteArray):(tH s).length<=10+s.size:=by
 have:=iy (s.size:Int);have e:s.data.toList.length=s.size:=by rw[Array.length_toList];rfl
 unfold tH;rw[aW];omega
theorem arH{m:Nat}(hm:13<=m)(s:ByteArray)(row:List Dt)(hs:s.size<=1000000000)(hr:row.length+10+s.size<=137438953472):i62 (m+1) s row=some (row++bI (tH s)):=by
 obtain⟨q,rfl⟩:∃q,m=q+1:=⟨m-1,by omega⟩;have h1:=iy (s.size:Int);have e:s.data.toList.length=s.size:=by rw[Array.length_toList];rfl
 rw[i62,aiP (by omega) _ _ ⟨by omega,by omega⟩ (by omega),ah,Db,lU (by rw[aW,iY,iY];omega),ah];unfold tH;rw[tJ,List.append_assoc]
theorem Yv{n:Int}(h0:0<=n)(h1:n<256):int (IntKind.wrap IntKind.u8 n)=int ((Bt n).toNat:Int):=by unfold Bt;rw[M4,UInt8.toNat_ofNat',Nat.mod_eq_of_lt (by omega)];congr 1;omega
theorem zf{f:Dt->List UInt8}{B:Nat}:∀{L:List Dt},(∀e∈L,(f e).length<=B*e.bulk)->((L.map f).flatten).length<=B*bulkL L
 | [],_=>by simp
 |a::L,h=>by have h1:=h a bB;have h2:=zf (L:=L) fun e he=>h e (aY _ he);simp only[List.map_cons,List.flatten_cons,aW,bulkL];rw[Nat.mul_add];omega
theorem lY:∀(N:Nat)(d:Dt),WV d->(eY N d).length<=20*d.bulk
 |0,d,_=>by simp[eY]
 |N+1,d,hw=>by
  obtain⟨p1,p2,p3,p4⟩:=cK hw;have hz:=j3 hw;have s3:=zf (f:=eY N) (B:=20) (L:=Dt.L d 3) fun e he=>lY N e (p3 e he).1;have s4:=zf (f:=fun f=>tH (S f 0)++eY N (fld f 1)) (B:=20) (L:=Dt.L d 4) fun f hf=>by have e1:=lY N _ (p4 f hf).1;have e2:=j4 hw f hf;have e3:=ze (S f 0);rw[aW];omega
  have n1:=iy (I d 1);have n2:=ze (S d 2);have n3:=iy ((Dt.L d 3).length:Int);have n4:=iy ((Dt.L d 4).length:Int);have n5:(S d 2).data.toList.length=(S d 2).size:=by rw[Array.length_toList];rfl
  have q0:∀(b:Bool)(x y:List UInt8),x.length+1<=20*d.bulk->y.length+1<=20*d.bulk->(bif b then x else y).length+1<=20*d.bulk:=fun b x y h1 h2=>by cases b<;>assumption
  rw[eY,List.length_cons];exact q0 _ _ _ (by omega) (q0 _ _ _ (by simp;omega) (q0 _ _ _ (by omega) (q0 _ _ _ (by omega) (q0 _ _ _ (by rw[aW];omega) (q0 _ _ _ (by rw[aW];omega) (by simp;omega))))))
theorem O8{m:Nat}(self:Dt->List Dt->Option (List Dt))(N:Nat)(L:List Dt)(hl:L.length<1000000000)(hs:∀e∈L,WV e∧∀row:List Dt,row.length+20*e.bulk<=137438953472->self e row=some (row++bI (eY N e))):∀(M i:Nat)(row:List Dt),i<=L.length->L.length-i<M->row.length+20*bulkL (L.drop i)<=137438953472->
  sj m self M L (L.length:Int) (i:Int) row=some (row++bI ((L.drop i).map (eY N)).flatten)
 |0,i,_,_,h,_=>by omega
 |M+1,i,row,hi,h,hr=>by
  rw[sj,dlt];by_cases hlt:i<L.length
  ·obtain⟨w,hs1⟩:=hs _ (aI hlt);have hel:=lY N _ w;rw[aD hlt]at hr ⊢
   simp only[bulkL]at hr;rw[decide_eq_true hlt,cond_true,Mj,bE hlt,ah,hs1 row (by omega),ah,Mi,bK (by omega)];rw[O8 self N L hl hs M (i+1) _ (by omega) (by omega) (by rw[aW,iY];omega),List.map_cons,List.flatten_cons,tJ,List.append_assoc]
  ·have e:i=L.length:=by omega
   subst e;rw[decide_eq_false hlt,cond_false,List.drop_length];simp[iW,bI]
theorem H8{m:Nat}(hm:13<m)(self:Dt->List Dt->Option (List Dt))(N:Nat)(L:List Dt)(hl:L.length<1000000000)(hs:∀f∈L,WV (fld f 1)∧f.bulk=(fld f 1).bulk+(S f 0).size+2∧(S f 0).size<=1000000000∧∀row:List Dt,row.length+20*(fld f 1).bulk<=137438953472->self (fld f 1) row=some (row++bI (eY N (fld f 1)))):∀(M i:Nat)(row:List Dt),i<=L.length->L.length-i<M->row.length+20*bulkL (L.drop i)<=137438953472->
  su m self M L (L.length:Int) (i:Int) row=some (row++bI ((L.drop i).map fun f=>tH (S f 0)++eY N (fld f 1)).flatten)
 |0,i,_,_,h,_=>by omega
 |M+1,i,row,hi,h,hr=>by
  rw[su,dlt];by_cases hlt:i<L.length
  ·obtain⟨w,hb,hz,hs1⟩:=hs _ (aI hlt);have hel:=lY N _ w;have htl:=ze (S L[i] 0);obtain⟨q,rfl⟩:∃q,m=q+1:=⟨m-1,by omega⟩;rw[aD hlt]at hr ⊢
   simp only[bulkL]at hr;rw[decide_eq_true hlt,cond_true,Mk,bE hlt,ah,arH (by omega) _ _ hz (by omega),ah,hs1 _ (by rw[aW,iY];omega),ah,ER,bK (by omega)];rw[H8 hm self N L hl hs M (i+1) _ (by omega) (by omega) (by rw[aW,aW,iY,iY];omega),List.map_cons,List.flatten_cons,tJ,tJ,List.append_assoc,List.append_assoc,List.append_assoc]
  ·have e:i=L.length:=by omega
   subst e;rw[decide_eq_false hlt,cond_false,List.drop_length];simp[iW,bI]
theorem ao0:∀(N:Nat)(d:Dt)(n:Nat),WV d->WR d->bX nm n d=true->d.bulk<=N->N<=100000000->∀(m:Nat)(row:List Dt),2*N+40<=m->row.length+20*d.bulk<=137438953472->i59 (m+1) d row=some (row++bI (eY N d))
 |0,d,_,_,_,_,h,_,_,_,_,_=>by have:=bQ d;omega
 |N+1,d,0,_,_,h,_,_,_,_,_,_=>by cases h
 |N+    1,d,n+1,hw,hr,hs,hb,hN,m,row,hm,hl=>by
  obtain⟨zs,k1,k2⟩:=iw hs;obtain⟨r1,r2,r3⟩:=jO hr;obtain⟨p1,p2,p3,p4⟩:=cK hw;have hz:=j3 hw;have hfz:=j4 hw;have h6:=wv6 hw;have hl3:=bW (L d 3);have hl4:=bW (L d 4);rw[bX,aJ]at hs;obtain⟨q,rfl⟩:∃q,m=q+2:=⟨m-2,by omega⟩;rw[i59,Yv (by omega) (by omega),lU (by simp;omega),ah,eY];have hrow:(row++[int ((Bt (I d 0)).toNat:Int)]).length=row.length+1:=by simp
  have fin:∀l,row++bI (Bt (I d 0)::l)=(row++[int ((Bt (I d 0)).toNat:Int)])++bI l:=fun l=>by rw[List.append_assoc];rfl
  rw[fin];generalize row++[int ((Bt (I d 0)).toNat:Int)]=R at hrow;have hnum:=aiP (m:=q+1) (by omega) (I d 1) R r1 (by omega);have htxt:=arH (m:=q+1) (by omega) (S d 2) R (by omega) (by omega);have nil:some R=some (R++bI []):=by simp[bI]
  obtain⟨k,hk⟩:∃k,k=I d 0:=⟨_,rfl⟩;rw[←hk]at hs k1 k2 ⊢
  rcases LY k with e|e|e|e|e|e|e|e|e|e|e|e;all_goals first|omega|skip
  all_goals subst e
  ·exact nil
  ·exact nil
  ·show Option.bind (i60 (q+2) (I d 1) R) _=_;rw[hnum];rfl
  ·show Option.bind (i62 (q+2) (S d 2) R) _=_;rw[htxt];rfl
  ·have ga:fl nm (bX nm n) [] (L d 4)=true:=hs.2;have hn4:=iy ((L d 4).length:Int);show Option.bind (i60 (q+2) ((L d 4).length:Int) R) _=_;rw[aiP (by omega) _ _ ⟨by omega,by omega⟩ (by omega),ah];have:=H8 (m:=q+2) (by omega) (i59 (q+2)) N (L d 4) (by omega) (fun f hf=>by have e1:=hfz f hf;have e2:=bU hf;exact⟨(p4 f hf).1,e1,by omega,fun row hrow=>ao0 N _ n (p4 f hf).1 (r3 f hf) (oQ ga f hf) (by omega) (by omega) (q+1) row (by omega) hrow⟩) (q+3) 0 (R++bI (numE ((L d 4).length:Int))) (by omega) (by omega) (by rw[aW,iY,aQ];omega)
   rw[aQ,List.append_assoc,←tJ]at this;exact this
  ·have ga:(L d 3).all (bX nm n)=true:=hs.2;have hn3:=iy ((L d 3).length:Int);show Option.bind (i60 (q+2) ((L d 3).length:Int) R) _=_;rw[aiP (by omega) _ _ ⟨by omega,by omega⟩ (by omega),ah];have:=O8 (m:=q+2) (i59 (q+2)) N (L d 3) (by omega) (fun e he=>by have e2:=bU he;exact⟨(p3 e he).1,fun row hrow=>ao0 N e n (p3 e he).1 (r2 e he) (List.all_eq_true.1 ga e he) (by omega) (by omega) (q+1) row (by omega) hrow⟩) (q+3) 0 (R++bI (numE ((L d 3).length:Int))) (by omega) (by omega) (by rw[aW,iY,aQ];omega)
   rw[aQ,List.append_assoc,←tJ]at this;exact this
  ·show Option.bind (i62 (q+2) (S d 2) R) _=_;rw[htxt];rfl
  ·have n5:(S d 2).data.toList.length=(S d 2).size:=by rw[Array.length_toList];rfl
   show Option.bind (app R (bytesD (S d 2))) _=_;rw[Db,lU (by rw[iY];omega)];rfl
  ·have ga:(I d 1==0||I d 1==1)=true:=hs.2;simp only[Bool.or_eq_true,beq_iff_eq]at ga;show Option.bind (app R [int (IntKind.wrap IntKind.u8 (I d 1))]) _=_;rw[Yv (by omega) (by omega),lU (by simp;omega)];rfl
  ·show Option.bind (i60 (q+2) (I d 1) R) _=_;rw[hnum];rfl
  ·exact nil
end Go.Proofs.YtmecfjhdnbgfeaaGreatDoor
namespace Go.Proofs.YtmecfjhdnbgfeaaGreatDoor
open Go.Am
def fk(kc:Dt->ByteArray)(k:ByteArray):List Dt->Option Nat
 | []=>none
 |d::r=>if kc d=k then some 0 else(fk kc k r).map (· +1)
theorem alq{kc:Dt->ByteArray}{k:ByteArray}:∀{D:List Dt}{i:Nat},fk kc k D=some i->∃h:i<D.length,kc D[i]=k
 | [],i,h=>by cases h
 |d::r,i,h=>by
  rw[fk]at h;split at h
  ·rename_i e;cases h;exact⟨by simp,e⟩
  ·cases hr:fk kc k r with
   |none=>rw[hr]at h;cases h
   |    some j=>
        rw[hr]at h;cases h;obtain⟨h1,h2⟩:=alq hr;exact⟨by simp;omega,by simpa using h2⟩
def mkM(kc:Dt->ByteArray)(g:Nat->Dt):Nat->List Dt->List Dt
 |_,[]=>[]
 |k,d::r=> .agg [.str (kc d),g k]::mkM kc g (k+1) r
theorem arI{a b:ByteArray}:(a==b)=decide (a=b):=by
 by_cases h:a=b;·rw[decide_eq_true h,h,(fA b b).2 rfl]
 ·rw[decide_eq_false h];cases hb:a==b with
  |true=>exact absurd ((fA a b).1 hb) h
  |false=>rfl
theorem Fz(kc:Dt->ByteArray)(g:Nat->Dt)(s:ByteArray):∀(D:List Dt)(k:Nat),mget (mkM kc g k D) s=(fk kc s D).map fun i=>g (k+i)
 | [],_=>rfl
 |d::r,k=>by
  rw[mkM,mget,fk];show (bif kc d==s then some (g k)else _)=_;rw[arI];by_cases h:kc d=s
  ·rw[decide_eq_true h,cond_true,if_pos h];rfl
  ·rw[decide_eq_false h,cond_false,if_neg h,Fz kc g s r (k+1)];cases fk kc s r with
   |none=>rfl
   |    some i=>
        show some (g (k+1+i))=some (g (k+(i+1)));rw[Nat.add_assoc,Nat.add_comm 1 i]
theorem FB(kc:Dt->ByteArray)(g:Nat->Dt)(d:Dt):∀(D:List Dt)(k:Nat),fk kc (kc d) D=none->mput (mkM kc g k D) (kc d) (g (k+D.length))=mkM kc g k (D++[d])
 | [],k,_=>rfl
 |e::r,k,h=>by
  rw[fk]at h;split at h;·cases h
  ·rename_i hne;rw[mkM,mput];show (bif kc e==kc d then _ else _)=_;rw[arI,decide_eq_false hne,cond_false];have:=FB kc g d r (k+1) (by simpa using h);rw[show k+(e::r).length=k+1+r.length by simp;omega,this];rfl
theorem FC(kc:Dt->ByteArray)(g:Nat->Dt)(d:Dt):∀(D:List Dt)(k i:Nat)(h:i<D.length),kc D[i]=kc d->mkM kc g k (D.set i d)=mkM kc g k D
 | [],_,_,h,_=>by cases h
 |e::r,k,0,h,hk=>by show Dt.agg [.str (kc d),g k]::_=Dt.agg [.str (kc e),g k]::_;rw[show kc e=kc d from hk]
 |e::r,k,i+1,h,hk=>by show _::mkM kc g (k+1) (r.set i d)=_;rw[FC kc g d r (k+1) i (by simpa using h) (by simpa using hk)];rfl
def eZ(kc:Dt->ByteArray)(D:List Dt)(d:Dt):List Dt:=match fk kc (kc d) D with
 |some i=>D.set i d
 |none=>D++[d]
def Df(kc:Dt->ByteArray)(D:List Dt):Prop:=D.Pairwise fun a b=>kc a≠kc b
theorem qp{kc:Dt->ByteArray}{D:List Dt}{d x:Dt}(h:x∈eZ kc D d):x∈D∨x=d:=by
 unfold eZ at h;split at h;·exact List.mem_or_eq_of_mem_set h
 ·simpa using h
end Go.Proofs.YtmecfjhdnbgfeaaGreatDoor
namespace Go.Am
open Dt
structure TPO {A:Type} (c:A->A->Int):Prop where
 rng:∀a b,c a b= -1∨c a b=0∨c a b=1
 anti:∀a b,c b a= -c a b
 tr:∀a b d,c a b<=0->c b d<=0->c a d<=0
theorem iA{X:Type}{x y:Int}{u v:X}(h:x≠y):(bif x !=y then u else v)=u:=by
 have:(x !=y)=true:=by simpa using h
 rw[this];rfl
theorem kg{X:Type}{x y:Int}{u v:X}(h:x=y):(bif x !=y then u else v)=v:=by subst h;simp
namespace TPO
variable{A B:Type}{c c':A->A->Int}
theorem refl(h:TPO c)(a:A):c a a=0:=by have:=h.anti a a;omega
theorem eql(h:TPO c){a b d:A}(e:c a b=0):c a d=c b d:=by have h1:=h.anti a b;have h2:=h.anti a d;have h3:=h.anti b d;have t1:=h.tr a b d;have t2:=h.tr b a d;have t3:=h.tr d a b;have t4:=h.tr d b a;have r1:=h.rng a d;have r2:=h.rng b d;omega
theorem eqr(h:TPO c){a b d:A}(e:c b d=0):c a b=c a d:=by have h1:=h.anti b a;have h2:=h.anti d a;have:=h.eql (d:=a) e;omega
theorem ltl(h:TPO c){a b d:A}(h1:c a b<0)(h2:c b d<=0):c a d<0:=by
 have t:=h.tr a b d (by omega) h2;have r:=h.rng a d;have e:c a d≠0:=fun e=>by have:=h.eql (d:=b) e;have:=h.anti b d;omega
 omega
theorem zero:TPO (fun _ _:A=>0):=⟨fun _ _=> .inr (.inl rfl),fun _ _=>rfl,fun _ _ _ _ _=>Int.le_refl 0⟩
theorem key(h:TPO c)(k:B->A):TPO (fun a b=>c (k a) (k b)):=⟨fun _ _=>h.rng _ _,fun _ _=>h.anti _ _,fun _ _ _=>h.tr _ _ _⟩
theorem lex(h:TPO c)(h':TPO c'):TPO (fun a b=>bif c a b !=0 then c a b else c' a b):=by
 have ev:∀a b,(c a b=0∧(bif c a b !=0 then c a b else c' a b)=c' a b)∨(c a b≠0∧(bif c a b !=0 then c a b else c' a b)=c a b):=fun a b=>by
  by_cases e:c a b=0;·exact .inl ⟨e,kg e⟩
  ·exact .inr ⟨e,iA e⟩
 refine⟨fun a b=>?_,fun a b=>?_,fun a b d h1 h2=>?_⟩
 ·rcases ev a b with⟨_,e⟩| ⟨_,e⟩;·rw[e];exact h'.rng a b
  ·rw[e];exact h.rng a b
 ·have h1:=h.anti a b;have h2:=h'.anti a b;rcases ev a b with⟨e0,e⟩| ⟨e0,e⟩<;>rcases ev b a with⟨f0,f⟩| ⟨f0,f⟩<;>rw[e,f]<;>omega
 ·rcases ev a b with⟨e0,e⟩| ⟨e0,e⟩<;>rcases ev b d with⟨f0,f⟩| ⟨f0,f⟩<;>rw[e]at h1<;>rw[f]at h2
  ·have g:=h.eql (d:=d) e0;rcases ev a d with⟨g0,g'⟩| ⟨g0,g'⟩;·rw[g'];exact h'.tr a b d h1 h2
   ·omega
  ·have g:=h.eql (d:=d) e0;rcases ev a d with⟨g0,g'⟩| ⟨g0,g'⟩;·omega
   ·rw[g'];omega
  ·have g:=h.eqr (a:=a) f0;rcases ev a d with⟨g0,g'⟩| ⟨g0,g'⟩;·omega
   ·rw[g'];omega
  ·have g:=h.ltl (d:=d) (show c a b<0 by omega) h2;rcases ev a d with⟨g0,g'⟩| ⟨g0,g'⟩;·omega
   ·rw[g'];omega
theorem neg(h:TPO c):TPO (fun a b=> -c a b):=⟨fun a b=>by have:=h.rng a b;omega,fun a b=>by have:=h.anti a b;omega,fun a b d h1 h2=>by have a1:=h.anti a b;have a2:=h.anti b d;have a3:=h.anti a d;have:=h.tr d b a (by omega) (by omega);omega⟩
end TPO
def iZ(a b:Int):Int:=bif decide (a<b)then -1 else bif decide (b<a)then 1 else 0
theorem bV(a b:Int):(a<b∧iZ a b= -1)∨(a=b∧iZ a b=0)∨(b<a∧iZ a b=1):=by
 unfold iZ;by_cases h:a<b;·exact .inl ⟨h,by simp[h]⟩
 ·by_cases h2:b<a;·exact .inr (.inr ⟨h2,by simp[h,h2]⟩)
  ·exact .inr (.inl ⟨by omega,by simp[h,h2]⟩)
theorem Yw:TPO iZ:=⟨fun a b=>by rcases bV a b with⟨_,h⟩| ⟨_,h⟩| ⟨_,h⟩<;>omega,fun a b=>by
 rcases bV a b with⟨h1,h⟩| ⟨h1,h⟩| ⟨h1,h⟩<;>rcases bV b a with⟨g1,g⟩| ⟨g1,g⟩| ⟨g1,g⟩<;>omega,fun a b d h1 h2=>by
 rcases bV a b with⟨p1,p⟩| ⟨p1,p⟩| ⟨p1,p⟩<;>rcases bV b d with⟨g1,g⟩| ⟨g1,g⟩| ⟨g1,g⟩<;>rcases bV a d with⟨q1,q⟩| ⟨q1,q⟩| ⟨q1,q⟩<;>omega⟩
def cmpL{A:Type}(c:A->A->Int):List A->List A->Int
 |a::r,b::s=>bif c a b !=0 then c a b else cmpL c r s
 | [],[]=>0
 | [],_::_=> -1
 |_::_,[]=>1
theorem ao1{A:Type}{c:A->A->Int}(h:TPO c):TPO (cmpL c):=by
 have hd:∀(a b:A)(r s:List A),(c a b=0∧cmpL c (a::r) (b::s)=cmpL c r s)∨(c a b≠0∧cmpL c (a::r) (b::s)=c a b):=fun a b r s=>by
  by_cases e:c a b=0;·exact .inl ⟨e,kg e⟩
  ·exact .inr ⟨e,iA e⟩
 have hanti:∀a b,cmpL c b a= -cmpL c a b:=by
  intro a;induction a with
  |nil=>intro b;cases b<;>rfl
  |cons x a ih=>
   intro b;cases b with
   |nil=>rfl
   |    cons y b=>
        have:=ih b;have:=h.anti x y;rcases hd x y a b with⟨e0,e⟩| ⟨e0,e⟩<;>rcases hd y x b a with⟨f0,f⟩| ⟨f0,f⟩<;>rw[e,f]<;>omega
 refine⟨?_,hanti,?_⟩
 ·intro a;induction a with
  |nil=>intro b;cases b<;>simp[cmpL]
  |cons x a ih=>
   intro b;cases b with
   |nil=>simp[cmpL]
   |    cons y b=>
        rcases hd x y a b with⟨_,e⟩| ⟨_,e⟩;·rw[e];exact ih b
        ·rw[e];exact h.rng x y
 ·intro  a;induction a with
  |nil=>
   intro b d h1 h2;cases d with
   |nil=>exact Int.le_refl 0
   |cons z d=>simp[cmpL]
  |cons x a ih=>
   intro b d h1 h2;cases b with
   |nil=>simp[cmpL]at h1
   |    cons y b=>
        cases d with
        |nil=>simp[cmpL]at h2
        |cons z d=>
         rcases hd x y a b with⟨e0,e⟩| ⟨e0,e⟩<;>rcases hd y z b d with⟨f0,f⟩| ⟨f0,f⟩<;>rw[e]at h1<;>rw[f]at h2
         ·have g:=h.eql (d:=z) e0;rcases hd x z a d with⟨g0,g'⟩| ⟨g0,g'⟩;·rw[g'];exact ih b d h1 h2
          ·omega
         ·have g:=h.eql (d:=z) e0;rcases hd x z a d with⟨g0,g'⟩| ⟨g0,g'⟩;·omega
          ·rw[g'];omega
         ·have g:=h.eqr (a:=x) f0;rcases hd x z a d with⟨g0,g'⟩| ⟨g0,g'⟩;·omega
          ·rw[g'];omega
         ·have g:=h.ltl (d:=z) (show c x y<0 by omega) h2;rcases hd x z a d with⟨g0,g'⟩| ⟨g0,g'⟩;·omega
          ·rw[g'];omega
theorem oU{A:Type}{c c':A->A->Int}:∀{l r:List A},(∀a∈l,∀b∈r,c a b=c' a b)->cmpL c l r=cmpL c' l r
 | [],[],_=>rfl
 | [],_::_,_=>rfl
 |_::_,[],_=>rfl
 |a::l,b::r,h=>by simp only[cmpL,h a (by simp) b (by simp),oU (l:=l) (r:=r) fun x hx y hy=>h x (by simp[hx]) y (by simp[hy])]
theorem ao2{A:Type}(k:A->Int)(f:Int->A->A->Int)(h:∀i,TPO (f i)):TPO (fun a b=>bif k a !=k b then iZ (k a) (k b)else f (k a) a b):=by
 have ev:∀a b,(k a=k b∧(bif k a !=k b then iZ (k a) (k b)else f (k a) a b)=f (k a) a b)∨(k a≠k b∧(bif k a !=k b then iZ (k a) (k b)else f (k a) a b)=iZ (k a) (k b)):=fun a b=>by
  by_cases e:k a=k b;·exact .inl ⟨e,kg e⟩
  ·exact .inr ⟨e,iA e⟩
 refine⟨fun a b=>?_,fun a b=>?_,fun a b d h1 h2=>?_⟩
 ·rcases ev a b with⟨_,e⟩| ⟨_,e⟩;·rw[e];exact(h _).rng a b
  ·rw[e];exact Yw.rng _ _
 ·rcases ev a b with⟨e0,e⟩| ⟨e0,e⟩<;>rcases ev b a with⟨f0,g⟩| ⟨f0,g⟩<;>rw[e,g];·rw[←e0];exact(h _).anti a b
  ·exact absurd e0.symm f0
  ·exact absurd f0.symm e0
  ·exact Yw.anti _ _
 ·rcases ev a b with⟨e0,e⟩| ⟨e0,e⟩<;>rcases ev b d with⟨f0,g⟩| ⟨f0,g⟩<;>rcases ev a d with⟨g0,g'⟩| ⟨g0,g'⟩<;>rw[e]at h1<;>rw[g]at h2<;>rw[g'];·rw[←e0]at h2;exact(h _).tr a b d h1 h2
  ·exact absurd (e0.trans f0) g0
  ·exact absurd (e0.symm.trans g0) f0
  ·rw[e0];exact h2
  ·exact absurd (g0.trans f0.symm) e0
  ·rw[←f0];exact h1
  ·have c1:=bV (k a) (k b);have c2:=bV (k b) (k d);omega
  ·exact Yw.tr _ _ _ h1 h2
def zh(a b:UInt8):Int:=iZ (a.toNat:Int) (b.toNat:Int)
theorem wm:∀l r:List UInt8,Lib.compareBytes l r=cmpL zh l r
 | [],[]=>rfl
 | [],_::_=>rfl
 |_::_,[]=>rfl
 |a::l,b::r=>by
  simp only[Lib.compareBytes,cmpL,wm l r];have hab:a<b↔a.toNat<b.toNat:=UInt8.lt_iff_toNat_lt;have hba:b<a↔b.toNat<a.toNat:=UInt8.lt_iff_toNat_lt;rcases bV (a.toNat:Int) (b.toNat:Int)with⟨h,e⟩| ⟨h,e⟩| ⟨h,e⟩
  ·have h1:a<b:=hab.2 (by omega);have e':zh a b= -1:=e;simp[h1,e']
  ·have h1:¬a<b:=fun x=>by have:=hab.1 x;omega
   have h2:¬b<a:=fun x=>by have:=hba.1 x;omega
   have e':zh a b=0:=e;simp[h1,h2,e']
  ·have h1:¬a<b:=fun x=>by have:=hab.1 x;omega
   have h2:b<a:=hba.2 (by omega);have e':zh a b=1:=e;simp[h1,h2,e']
def kP(a b:ByteArray):Int:=Lib.compareBytes a.data.toList b.data.toList
theorem arJ:TPO kP:=by
 have h:TPO (fun a b:ByteArray=>cmpL zh a.data.toList b.data.toList):=(ao1 (Yw.key fun u:UInt8=>(u.toNat:Int))).key (fun a:ByteArray=>a.data.toList);have e:kP=fun a b:ByteArray=>cmpL zh a.data.toList b.data.toList:=by funext a b;exact wm _ _
 rw[e];exact h
def vW(c:Dt->Dt->Int)(f g:Dt):Int:=bif kP (S f 0) (S g 0) !=0 then kP (S f 0) (S g 0)else c (fld f 1) (fld g 1)
def Sd(c:Dt->Dt->Int)(k:Int)(a b:Dt):Int:=
 bif (k==3||k==9||k==10)then iZ (I a 1) (I b 1)
 else bif (k==4||k==7||k==8)then kP (S a 2) (S b 2)
 else bif k==6 then cmpL c (L a 3) (L b 3)
 else bif k==5 then cmpL (vW c) (L a 4) (L b 4)else 0
def gP:Nat->Dt->Dt->Int
 |0,_,_=>0
 |n+1,a,b=>bif (I a 0 !=I b 0)then iZ (I a 0) (I b 0)else Sd (gP n) (I a 0) a b
theorem aiQ:∀n,TPO (gP n)
 |0=>TPO.zero
 |n+    1=>by
  have ih:=aiQ n;have hF:TPO (vW (gP n)):=(arJ.key fun f=>S f 0).lex (ih.key fun f=>fld f 1);refine ao2 (fun a=>I a 0) (fun k=>Sd (gP n) k) fun k=>?_;unfold Sd;cases (k==3||k==9||k==10)
  ·cases (k==4||k==7||k==8)
   ·    cases k==6
        ·cases k==5;·exact TPO.zero
         ·exact(ao1 hF).key fun a=>L a 4
        ·exact(ao1 ih).key fun a=>L a 3
   ·exact arJ.key fun a=>S a 2
  ·exact Yw.key fun a=>I a 1
end Go.Am
namespace Go.Am.Srt
variable{A:Type}(lt:A->A->Bool)
structure SWO:Prop where
 irr:∀x,lt x x=false
 tr:∀x y z,lt x y=true->lt y z=true->lt x z=true
 ntr:∀x y z,lt x y=false->lt y z=false->lt x z=false
variable{lt}
end Go.Am.Srt
namespace Go.Proofs.YtmecfjhdnbgfeaaGreatDoor
open Go.Am Dt
theorem M5{c c':Dt->Dt->Int}{f g:Dt}(h:c (fld f 1) (fld g 1)=c' (fld f 1) (fld g 1)):vW c f g=vW c' f g:=by unfold vW;rw[h]
theorem tK:∀(n n':Nat)(a b:Dt),a.bulk<=n->a.bulk<=n'->gP n a b=gP n' a b
 |0,_,a,_,h,_=>by have:=fF a;omega
 |_,0,a,_,_,h=>by have:=fF a;omega
 |n+1,n'+1,a,b,h,h'=>by
  simp only[gP];congr 1;unfold Sd;rw[oU (l:=L a 3) (c:=gP n) (c':=gP n') fun x hx y _=>tK n n' x y (by have:=lV hx;omega) (by have:=lV hx;omega),
   oU (l:=L a 4) (c:=vW (gP n)) (c':=vW (gP n')) fun x hx y _=>M5 (tK n n' _ _ (by have:=lV hx;have:=iG x 1;omega) (by have:=lV hx;have:=iG x 1;omega))]
def Bu(a b:Dt):Int:=gP (a.bulk+b.bulk) a b
theorem M6{n:Nat}{a b:Dt}(h:a.bulk<=n):gP n a b=Bu a b:=tK _ _ _ _ h (by omega)
theorem avc:TPO Bu:=by
 have e:∀(a b:Dt)(n:Nat),a.bulk<=n->Bu a b=gP n a b:=fun a b n h=>(M6 h).symm;refine⟨fun a b=>?_,fun a b=>?_,fun a b d h1 h2=>?_⟩;·exact(aiQ _).rng a b
 ·rw[e a b (a.bulk+b.bulk) (by omega),e b a (a.bulk+b.bulk) (by omega)];exact(aiQ _).anti a b
 ·rw[e a b (a.bulk+b.bulk+d.bulk) (by omega)]at h1;rw[e b d (a.bulk+b.bulk+d.bulk) (by omega)]at h2;rw[e a d (a.bulk+b.bulk+d.bulk) (by omega)];exact(aiQ _).tr a b d h1 h2
theorem FD(m:Nat)(a b:Int):zF (m+2) a b=some (iZ a b):=by
 have e:∀x:Int,(x !=x)=false:=fun x=>by simp
 simp only[zF,yF,ah,e,cond_false,Xq,Xr,Xt,Xu,Xv,iZ];cases decide (a<b)<;>cases decide (b<a)<;>rfl
theorem ao3{A:Type}{c:A->A->Int}:∀{l r:List A},(l=[]∨r=[])->cmpL c l r=iZ (l.length:Int) (r.length:Int)
 | [],[],_=>rfl
 | [],_::r,_=>by
   show (-1:Int)=_;rcases bV (([]:List A).length:Int) ((‹A› ::r).length:Int)with⟨_,e⟩| ⟨h,e⟩| ⟨h,e⟩;·rw[e]
   ·simp at h;omega
   ·simp at h;omega
 | _::l,[],_=>by
   show (1:Int)=_;rcases bV ((‹A› ::l).length:Int) (([]:List A).length:Int)with⟨h,e⟩| ⟨h,e⟩| ⟨_,e⟩;·simp at h;omega
   ·simp at h;omega
   ·rw[e]
 |_::_,_::_,h=>by simp at h
theorem M7(a b k:Int):iZ (a+k) (b+k)=iZ a b:=by rcases bV a b with⟨h,e⟩| ⟨h,e⟩| ⟨h,e⟩<;>rcases bV (a+k) (b+k)with⟨g,f⟩| ⟨g,f⟩| ⟨g,f⟩<;>omega
theorem iK{A:Type}{c:A->A->Int}{l r:List A}{i:Nat}(hl:i<=l.length)(hr:i<=r.length)(h:i=l.length∨i=r.length):cmpL c (l.drop i) (r.drop i)=iZ (l.length:Int) (r.length:Int):=by
 rw[ao3];·rw[List.length_drop,List.length_drop,show ((l.length:Nat):Int)=((l.length-i:Nat):Int)+i by omega,show ((r.length:Nat):Int)=((r.length-i:Nat):Int)+i by omega,M7]
 ·rcases h with h|h;·exact .inl (List.drop_eq_nil_of_le (by omega))
  ·exact .inr (List.drop_eq_nil_of_le (by omega))
theorem O9(m:Nat)(self:Dt->Dt->Option Int)(c:Dt->Dt->Int)(a b:Dt)(hl:(L a 3).length<1000000000000)(hs:∀x∈L a 3,∀y,self x y=some (c x y)):∀(M i:Nat),i<=(L a 3).length->i<=(L b 3).length->min (L a 3).length (L b 3).length-i<M->
  Cj (m+2) self M ((min (L a 3).length (L b 3).length:Nat):Int) (i:Int) a b=some (cmpL c ((L a 3).drop i) ((L b 3).drop i))
 |0,i,_,_,h=>by omega
 |M+1,i,hi,hi2,h=>by
  simp only[Cj,dlt];by_cases h1:i<min (L a 3).length (L b 3).length
  ·have ha:i<(L a 3).length:=by omega
   have hb:i<(L b 3).length:=by omega
   simp only[h1,decide_true,cond_true,Xx,Xw,bE ha,bE hb,ah,hs _ (aI ha),bK (show i<9223372036854775807 by omega)];rw[O9 m self c a b hl hs M (i+1) (by omega) (by omega) (by omega),aD ha,aD hb];simp only[cmpL];cases (c (L a 3)[i] (L b 3)[i] !=0)<;>rfl
  ·simp only[h1,decide_false,cond_false,Xy,FD,ah];rw[iK hi hi2 (by omega)]
theorem Pb(m:Nat)(self:Dt->Dt->Option Int)(c:Dt->Dt->Int)(a b:Dt)(hl:(L a 4).length<1000000000000)(hs:∀x∈L a 4,∀y,self (fld x 1) (fld y 1)=some (c (fld x 1) (fld y 1))):∀(M i:Nat),i<=(L a 4).length->i<=(L b 4).length->min (L a 4).length (L b 4).length-i<M->
  Ck (m+2) self M ((min (L a 4).length (L b 4).length:Nat):Int) (i:Int) a b=some (cmpL (vW c) ((L a 4).drop i) ((L b 4).drop i))
 |0,i,_,_,h=>by omega
 |M+    1,i,hi,hi2,h=>by
  simp only[Ck,dlt];by_cases h1:i<min (L a 4).length (L b 4).length
  ·have ha:i<(L a 4).length:=by omega
   have hb:i<(L b 4).length:=by omega
   simp only[h1,decide_true,cond_true,Mw,Mt,Mr,bE ha,bE hb,ah,strings_Compare,hs _ (aI ha),bK (show i<9223372036854775807 by omega)];rw[Pb m self c a b hl hs M (i+1) (by omega) (by omega) (by omega),aD ha,aD hb];simp only[cmpL,vW,kP];by_cases e1:Lib.compareBytes (S (L a 4)[i] 0).data.toList (S (L b 4)[i] 0).data.toList=0
   ·    rw[kg e1,kg e1];by_cases e2:c (fld (L a 4)[i] 1) (fld (L b 4)[i] 1)=0;·rw[kg e2,kg e2]
        ·rw[iA e2,iA e2]
   ·rw[iA e1,iA e1,iA e1]
  ·simp only[h1,decide_false,cond_false,Mx,FD,ah];rw[iK hi hi2 (by omega)]
theorem aiR(x y:Nat):(bif decide ((y:Int)<(x:Int))then(y:Int)else(x:Int))=((min x y:Nat):Int):=by
 rw[dlt];by_cases h:y<x;·simp only[h,decide_true,cond_true];omega
 ·simp only[h,decide_false,cond_false];omega
theorem aiS(m:Nat)(self:Dt->Dt->Option Int)(a b:Dt):GJ m self a b=
  bif (I a 0==3||I a 0==9||I a 0==10)then zF m (I a 1) (I b 1)
  else bif (I a 0==4||I a 0==7||I a 0==8)then strings_Compare (S a 2) (S b 2)
  else bif I a 0==6 then OG m self ((min (L a 3).length (L b 3).length:Nat):Int) 0 a b
  else bif I a 0==5 then OH m self ((min (L a 4).length (L b 4).length:Nat):Int) 0 a b else MB m self:=by
 have hb:∀x:Option Int,(x.bind fun r=>some r)=x:=fun x=>by cases x<;>rfl
 simp only[GJ,GI,GH,aiR,hb];cases (I a 0==3)<;>cases (I a 0==9)<;>cases (I a 0==10)<;>cases (I a 0==4)<;>cases (I a 0==7)<;>cases (I a 0==8)<;>rfl
theorem FH:∀(n:Nat)(a b:Dt),a.bulk<=n->n<1000000000000->∀m,n<=m->qF (m+3) a b=some (gP n a b)
 |0,a,_,h,_,_,_=>by have:=fF a;omega
 |n+    1,a,b,h,hn,m,hm=>by
  obtain⟨m,rfl⟩:∃k,m=k+1:=⟨m-1,by omega⟩;have h3:=Ey a 3;have h4:=Ey a 4;have e3:=O9 (m+1) (qF (m+3)) (gP n) a b (by omega) (fun x hx y=>FH n x y (by have:=lV hx;omega) (by omega) m (by omega)) (m+4) 0 (aS _) (aS _) (by omega);have e4:=Pb (m+1) (qF (m+3)) (gP n) a b (by omega) (fun x hx y=>FH n _ _ (by have:=lV hx;have:=iG x 1;omega) (by omega) m (by omega)) (m+4) 0 (aS _) (aS _) (by omega);rw[aQ,aQ]at e3 e4;have e3':OG (m+3) (qF (m+3)) ((min (L a 3).length (L b 3).length:Nat):Int) 0 a b=_:=e3;have e4':OH (m+3) (qF (m+3)) ((min (L a 4).length (L b 4).length:Nat):Int) 0 a b=_:=e4;show (bif (I a 0 !=I b 0)then(zF (m+3) (I a 0) (I b 0)).bind (fun r=>some r)else GJ (m+3) (qF (m+3)) a b)=_;simp only[aiS,show m+3=(m+1)+2 from rfl,FD,gP,ah];cases (I a 0 !=I b 0)
  ·simp only[cond_false,Sd];cases (I a 0==3||I a 0==9||I a 0==10)
   ·    cases (I a 0==4||I a 0==7||I a 0==8)
        ·cases (I a 0==6)
         ·cases (I a 0==5);·rfl
          ·exact e4'
         ·exact e3'
        ·rfl
   ·rfl
  ·rfl
theorem ao4(a b:Dt)(m:Nat)(hm:a.bulk<=m)(hm2:a.bulk<1000000000000):qF (m+3) a b=some (Bu a b):=by rw[FH a.bulk a b (aM _) hm2 m hm,M6 (aM _)]
theorem aiT{a b:Dt}{n n':Nat}(ha:WV a)(hb:WV b)(sa:bX nm n a=true)(sb:bX nm n' b=true)(hk:I a 0=I b 0)
  (h1:I a 0=3∨I a 0=9∨I a 0=10->I a 1=I b 1)(h2:I a 0=4∨I a 0=7∨I a 0=8->S a 2=S b 2)(h3:I a 0=6->L a 3=L b 3)(h4:I a 0=5->L a 4=L b 4):a=b:=by
 have za:=(iw sa).1;have zb:=(iw sb).1;unfold shp at za zb;rw[←hk]at zb;simp only[aJ,Bool.or_eq_true,beq_iff_eq]at za zb;have e1:I a 1=I b 1:=by
  by_cases h:I a 0=3∨I a 0=9∨I a 0=10;·exact h1 h
  ·omega
 have e2:S a 2=S b 2:=by
  by_cases h:I a 0=4∨I a 0=7∨I a 0=8;·exact h2 h
  ·have x:=za.1.1.2.resolve_left (by omega);have y:=zb.1.1.2.resolve_left (by omega);rw[sz0 (s:=S a 2) (by simp[x]),sz0 (s:=S b 2) (by simp[y])]
 have e3:L a 3=L b 3:=by
  by_cases h:I a 0=6;·exact h3 h
  ·rw[Bg (za.1.2.resolve_left h),Bg (zb.1.2.resolve_left h)]
 have e4:L a 4=L b 4:=by
  by_cases h:I a 0=5;·exact h4 h
  ·rw[Bg (za.2.resolve_left h),Bg (zb.2.resolve_left h)]
 cases ha with
 |mk _ _=>cases hb with
  |mk _ _=>
   simp only[I,S,L,fld,toInt,toStr,toLst,List.getD_cons_zero,List.getD_cons_succ]at hk e1 e2 e3 e4;subst hk e1 e2 e3 e4;rfl
theorem Yx{a b:Int}(h:iZ a b=0):a=b:=by rcases bV a b with⟨_,e⟩| ⟨e,_⟩| ⟨_,e⟩<;>omega
theorem Pf{A:Type}{c:A->A->Int}:∀{l r:List A},(∀a∈l,∀b∈r,c a b=0->a=b)->cmpL c l r=0->l=r
 | [],[],_,_=>rfl
 | [],_::_,_,h=>by cases h
 |_::_,[],_,h=>by cases h
 |a::l,b::r,hc,h=>by
  rw[cmpL]at h;by_cases h0:c a b=0
  ·have e:(c a b !=0)=false:=by rw[h0];rfl
   rw[e,cond_false]at h;rw[hc a bB b bB h0,Pf (fun x hx y hy=>hc x (aY _ hx) y (aY _ hy)) h]
  ·have e:(c a b !=0)=true:=by simpa using h0
   rw[e,cond_true]at h;exact absurd h h0
theorem cmpT0{a b:ByteArray}(h:kP a b=0):a=b:=by
 unfold kP at h;rw[wm]at h;have:=Pf (fun x _ y _ h=>by have:=Yx h;exact UInt8.toNat_inj.1 (by omega)) h
 cases a;cases b
 simp only[ByteArray.mk.injEq];exact Array.toList_inj.1 this
theorem cmp0:∀(N:Nat)(a b:Dt)(n n':Nat),WV a->WV b->bX nm n a=true->bX nm n' b=true->a.bulk<=N->gP N a b=0->a=b
 |0,a,_,_,_,_,_,_,_,h,_=>by have:=bQ a;omega
 |N+1,a,b,0,_,_,_,h,_,_,_=>by cases h
 |N+1,a,b,_+1,0,_,_,_,h,_,_=>by cases h
 |N+    1,a,b,n+1,n'+1,ha,hb,sa,sb,ba,h=>by
  rw[gP]at h;have hk:I a 0=I b 0:=by
   by_cases h0:I a 0=I b 0;·exact h0
   ·    have e:(I a 0 !=I b 0)=true:=by simpa using h0
        rw[e,cond_true]at h;exact Yx h
  have e:(I a 0 !=I b 0)=false:=by rw[hk];simp
  rw[e,cond_false]at h;obtain⟨pa1,pa2,pa3,pa4⟩:=cK ha;obtain⟨pb1,pb2,pb3,pb4⟩:=cK hb;refine aiT ha hb sa sb hk (fun hc=>?_) (fun hc=>?_) (fun hc=>?_) (fun hc=>?_);·rcases hc with hc|hc|hc<;>(rw[hc]at h;exact Yx h)
  ·rcases hc with hc|hc|hc<;>(rw[hc]at h;exact cmpT0 h)
  ·have hb6:I b 0=6:=by omega
   rw[hc]at h;rw[bX,aJ,hc]at sa;rw[bX,aJ,hb6]at sb;have ga:(L a 3).all (bX nm n)=true:=sa.2;have gb:(L b 3).all (bX nm n')=true:=sb.2;exact Pf (fun x hx y hy h0=>cmp0 N x y n n' (pa3 x hx).1 (pb3 y hy).1 (List.all_eq_true.1 ga x hx) (List.all_eq_true.1 gb y hy) (by have:=(pa3 x hx).2;omega) h0) h
  ·have hb5:I b 0=5:=by omega
   rw[hc]at h;rw[bX,aJ,hc]at sa;rw[bX,aJ,hb5]at sb;have ga:fl nm (bX nm n) [] (L a 4)=true:=sa.2;have gb:fl nm (bX nm n') [] (L b 4)=true:=sb.2;refine Pf (fun f hf g hg h0=>?_) h;unfold vW at h0;have e0:kP (S f 0) (S g 0)=0:=by
        by_cases h1:kP (S f 0) (S g 0)=0;·exact h1
        ·have e:(kP (S f 0) (S g 0) !=0)=true:=by simpa using h1
         rw[e,cond_true]at h0;exact h0
   rw[e0]at h0;have e1:=cmpT0 e0;have e2:=cmp0 N (fld f 1) (fld g 1) n n' (pa4 f hf).1 (pb4 g hg).1 (oQ ga f hf) (oQ gb g hg) (by have:=(pa4 f hf).2;omega) h0;cases (VZ ha).2.1 f hf with
   |    mk _=>cases (VZ hb).2.1 g hg with
        |mk _=>
         simp only[S,fld,toStr,List.getD_cons_zero,List.getD_cons_succ]at e1 e2;rw[e1,e2]
theorem Pg{a b:Dt}(ha:WV a)(hb:WV b)(sa:bX nm a.bulk a=true)(sb:bX nm b.bulk b=true):Bu a b=0↔a=b:=
 ⟨fun h=>cmp0 _ a b _ _ ha hb sa sb (by omega) h,fun h=>by rw[h];exact avc.refl b⟩
def eB(d:Dt):Int×Int×ByteArray×List Dt×List Dt:=(I d 0,I d 1,S d 2,L d 3,L d 4)
def fC(d:Dt):Prop:=∃k i t l ds,d= .agg [.int k,.int i,.str t,.lst l,.lst ds]
theorem fP{d:Dt}(h:fC d):agg [.int (eB d).1,.int (eB d).2.1,.str (eB d).2.2.1,.lst (eB d).2.2.2.1,.lst (eB d).2.2.2.2]=d:=by obtain⟨k,i,t,l,ds,rfl⟩:=h;rfl
theorem WV.isVal{d:Dt}(h:WV d):fC d:=by
 cases h with
 |mk hl hd=>exact⟨_,_,_,_,_,rfl⟩
theorem wL(m:Nat)(self:Dt->Option (Int×Int×ByteArray×List Dt×List Dt))(l:List Dt)(hl:l.length<9223372036854775807)(hs:∀e∈l,fC e∧self e=some (eB e))(z x3 x4:Dt)(x5 x6:Int)(x7:ByteArray)(x9:List Dt):∀(M i:Nat),i<=l.length->l.length-i<M->
  mI m self M l (l.length:Int) (i:Int) x3 x4 x5 x6 x7 (l.take i++List.replicate (l.length-i) z) x9=kF m self x3 x4 x5 x6 x7 l x9
 |0,i,_,h=>by omega
 |M+1,i,hi,h=>by
  simp only[mI,dlt];by_cases hlt:i<l.length
  ·have hx:i<(l.take i++List.replicate (l.length-i) z).length:=by rw[gV l z i hi];exact hlt
   obtain⟨e1,e2⟩:=hs _ (aI hlt);simp only[hlt,decide_true,cond_true,OC,OB,bE hlt,ah,e2,fP e1,fJ hx,Int.toNat_natCast,aG hx,fI l z i hlt,bK (show i<9223372036854775807 by omega)];exact wL m self l hl hs z x3 x4 x5 x6 x7 x9 M (i+1) (by omega) (by omega)
  ·have e:i=l.length:=by omega
   subst e;simp
theorem wM(m:Nat)(self:Dt->Option (Int×Int×ByteArray×List Dt×List Dt))(l:List Dt)(hl:l.length<9223372036854775807)(hf:∀f∈l,∃s v,f= .agg [.str s,v]∧fC v∧self v=some (eB v))(z x3:Dt)(x4 x5:Int)(x6:ByteArray)(x7:List Dt):∀(M i:Nat),i<=l.length->l.length-i<M->
  uR m self M l (l.length:Int) (i:Int) x3 x4 x5 x6 x7 (l.take i++List.replicate (l.length-i) z)=some (x4,x5,x6,x7,l)
 |0,i,_,h=>by omega
 |M+1,i,hi,h=>by
  simp only[uR,dlt];by_cases hlt:i<l.length
  ·have hx:i<(l.take i++List.replicate (l.length-i) z).length:=by rw[gV l z i hi];exact hlt
   obtain⟨s,v,e1,e2,e3⟩:=hf _ (aI hlt);have e5:agg [.str (S l[i] 0),v]=l[i]:=by rw[e1];rfl
   have e4:fld l[i] 1=v:=by rw[e1];rfl
   simp only[hlt,decide_true,cond_true,OE,OD,bE hlt,ah,e4,e3,fP e2,e5,fJ hx,Int.toNat_natCast,aG hx,fI l z i hlt,bK (show i<9223372036854775807 by omega)];exact wM m self l hl hf z x3 x4 x5 x6 x7 M (i+1) (by omega) (by omega)
  ·have e:i=l.length:=by omega
   subst e;simp[GD]
theorem L8(m:Nat)(self:Dt->Option (Int×Int×ByteArray×List Dt×List Dt))(d x4:Dt)(x5 x6:Int)(x7:ByteArray)(x8:List Dt)(hm:(L d 4).length<=m)(hl:(L d 4).length<=137438953472)(hf:∀f∈L d 4,∃s v,f= .agg [.str s,v]∧fC v∧self v=some (eB v)):
  kF m self d x4 x5 x6 x7 x8 []=some (x5,x6,x7,x8,L d 4):=by
 unfold kF;by_cases h0:0<(L d 4).length
 ·have e0:decide ((0:Int)<(((L d 4).length:Nat):Int))=true:=by simp;omega
  rw[e0];simp only[cond_true];rw[fZ hl,ah];have key:=fun z=>wM m self (L d 4) (by omega) hf z x4 x5 x6 x7 x8 (Nat.succ m) 0 (by omega) (by omega);simp only[List.take_zero,List.nil_append,Nat.sub_zero]at key;exact key _
 ·have e0:decide ((0:Int)<(((L d 4).length:Nat):Int))=false:=by rw[decide_eq_false_iff_not];omega
  have e1:L d 4=[]:=List.length_eq_zero_iff.1 (by omega);rw[e0,e1];rfl
theorem BQ:∀(N:Nat)(d:Dt),d.bulk<=N->N<=137438953472->WV d->∀m,N<=m->qJ (m+1) d=some (eB d)
 |0,d,h,_,_,_,_=>by have:=bQ d;omega
 |N +   1,d,h,hN,hw,m,hm=>by
  cases hw with
  | @mk   k i t l ds hl hd=>
    rw[dM]at h;obtain⟨m,rfl⟩:∃q,m=q+1:=⟨m-1,by omega⟩;have hself:∀e∈l,fC e∧qJ (m+1) e=some (eB e):=fun e he=>⟨(hl e he).isVal,BQ N e (by have:=bU he;omega) (by omega) (hl e he) m (by omega)⟩;have hfld:∀f∈ds,∃s v,f= .agg [.str s,v]∧fC v∧qJ (m+1) v=some (eB v):=fun f hf=>by
        have hb:=bU hf;cases hd f hf with
        | @mk s v hv=>
          rw[gH]at hb;exact⟨s,v,rfl,hv.isVal,BQ N v (by omega) (by omega) hv m (by omega)⟩
    have hl1:=bW l;have hd1:=bW ds;have key4:=fun(x4:Dt)(x8:List Dt)=>L8 (m+1) (qJ (m+1)) (.agg [.int k,.int i,.str t,.lst l,.lst ds]) x4 k i t x8 (show ds.length<=m+1 by omega) (show ds.length<=137438953472 by omega) hfld;show (bif (decide ((0:Int)<((l.length:Nat):Int)))then _ else _)=_;by_cases h0:0<l.length
    ·   have e0:decide ((0:Int)<((l.length:Nat):Int))=true:=by simp;omega
        have key:=fun(x3 x4:Dt)(z:Dt)=>wL (m+1) (qJ (m+1)) l (by omega) hself z x3 x4 k i t [] (m+2) 0 (by omega) (by omega);simp only[List.take_zero,List.nil_append,Nat.sub_zero]at key;rw[e0];simp only[cond_true];show Option.bind (mkL ((l.length:Nat):Int) ((l.length:Nat):Int) _) _=_;rw[fZ (by omega),ah];show mI (m+1) (qJ (m+1)) (m+2) l ((l.length:Nat):Int) ((0:Nat):Int) _ _ k i t _ _=_;rw[key,key4];rfl
    ·   have e0:decide ((0:Int)<((l.length:Nat):Int))=false:=by rw[decide_eq_false_iff_not];omega
        have e3:l=[]:=List.length_eq_zero_iff.1 (by omega);rw[e0];simp only[cond_false];show kF (m+1) (qJ (m+1)) _ _ k i t [] []=_;rw[key4,e3];rfl
theorem Dc(m:Nat)(self:Dt->Option Dt)(l:List Dt)(hl:l.length<9223372036854775807)(hs:∀e∈l,self e=some e)(z x3 x4:Dt)(x5 x6:Int)(x7:ByteArray):∀(M i:Nat),i<=l.length->l.length-i<M->
  mH m self M l (l.length:Int) (i:Int) x3 x4 x5 x6 x7 (l.take i++List.replicate (l.length-i) z)=wQ m self x3 x4 x5 x6 x7 l
 |0,i,_,h=>by omega
 |M+1,i,hi,h=>by
  simp only[mH,dlt];by_cases hlt:i<l.length
  ·have hx:i<(l.take i++List.replicate (l.length-i) z).length:=by rw[gV l z i hi];exact hlt
   simp only[hlt,decide_true,cond_true,Ow,Ov,bE hlt,ah,hs _ (aI hlt),fJ hx,Int.toNat_natCast,aG hx,fI l z i hlt,bK (show i<9223372036854775807 by omega)];exact Dc m self l hl hs z x3 x4 x5 x6 x7 M (i+1) (by omega) (by omega)
  ·have e:i=l.length:=by omega
   subst e;simp
theorem Dg(m:Nat)(self:Dt->Option Dt)(l:List Dt)(hl:l.length<9223372036854775807)(hf:∀f∈l,∃s v,f= .agg [.str s,v]∧self v=some v)(z x3:Dt)(x4 x5:Int)(x6:ByteArray)(x7:List Dt):∀(M i:Nat),i<=l.length->l.length-i<M->
  uQ m self M l (l.length:Int) (i:Int) x3 x4 x5 x6 x7 (l.take i++List.replicate (l.length-i) z)=some (.agg [.int x4,.int x5,.str x6,.lst x7,.lst l])
 |0,i,_,h=>by omega
 |M+1,i,hi,h=>by
  simp only[uQ,dlt];by_cases hlt:i<l.length
  ·have hx:i<(l.take i++List.replicate (l.length-i) z).length:=by rw[gV l z i hi];exact hlt
   obtain⟨s,v,e1,e2⟩:=hf _ (aI hlt);have e3:agg [.str (S l[i] 0),v]=l[i]:=by rw[e1];rfl
   have e4:fld l[i] 1=v:=by rw[e1];rfl
   simp only[hlt,decide_true,cond_true,Oy,Ox,bE hlt,ah,e4,e2,e3,fJ hx,Int.toNat_natCast,aG hx,fI l z i hlt,bK (show i<9223372036854775807 by omega)];exact Dg m self l hl hf z x3 x4 x5 x6 x7 M (i+1) (by omega) (by omega)
  ·have e:i=l.length:=by omega
   subst e;simp[Oz]
theorem zk(m:Nat)(self:Dt->Option Dt)(l:List Dt)(hl:l.length<9223372036854775807)(hf:∀f∈l,∃s v,f= .agg [.str s,v]∧self v=some v)(z x3:Dt)(x4 x5:Int)(x6:ByteArray)(x7:List Dt):∀(M i:Nat),i<=l.length->l.length-i<M->
  rZ m self M l (l.length:Int) (i:Int) x3 x4 x5 x6 x7 (l.take i++List.replicate (l.length-i) z)=some (.agg [.int x4,.int x5,.str x6,.lst x7,.lst l])
 |0,i,_,h=>by omega
 |M+1,i,hi,h=>by
  simp only[rZ,dlt];by_cases hlt:i<l.length
  ·have hx:i<(l.take i++List.replicate (l.length-i) z).length:=by rw[gV l z i hi];exact hlt
   obtain⟨s,v,e1,e2⟩:=hf _ (aI hlt);have e3:agg [.str (S l[i] 0),v]=l[i]:=by rw[e1];rfl
   have e4:fld l[i] 1=v:=by rw[e1];rfl
   simp only[hlt,decide_true,cond_true,Me,Md,bE hlt,ah,e4,e2,e3,fJ hx,Int.toNat_natCast,aG hx,fI l z i hlt,bK (show i<9223372036854775807 by omega)];exact zk m self l hl hf z x3 x4 x5 x6 x7 M (i+1) (by omega) (by omega)
  ·have e:i=l.length:=by omega
   subst e;simp[Mf]
theorem tL:∀(N:Nat)(d:Dt),d.bulk<=N->N<=137438953472->WV d->∀m,N<=m->qG (m+1) d=some d
 |0,d,h,_,_,_,_=>by have:=bQ d;omega
 |N +   1,d,h,hN,hw,m,hm=>by
  cases hw with
  | @mk   k i t l ds hl hd=>
    rw[dM]at h;obtain⟨m,rfl⟩:∃q,m=q+1:=⟨m-1,by omega⟩;have hself:∀e∈l,qG (m+1) e=some e:=fun e he=>tL N e (by have:=bU he;omega) (by omega) (hl e he) m (by omega);have hfld:∀f∈ds,∃s v,f= .agg [.str s,v]∧qG (m+1) v=some v:=fun f hf=>by
        have hb:=bU hf;cases hd f hf with
        | @mk s v hv=>
          rw[gH]at hb;exact⟨s,v,rfl,tL N v (by omega) (by omega) hv m (by omega)⟩
    have hl1:=bW l;have hd1:=bW ds;show (bif (decide ((0:Int)<((l.length:Nat):Int)))then _ else _)=_;have key6:=fun(x3:Dt)(x7:List Dt)(z:Dt)=>Dg (m+1) (qG (m+1)) ds (by omega) hfld z x3 k i t x7 (m+2) 0 (by omega) (by omega);have key13:=fun(x3:Dt)(x7:List Dt)(z:Dt)=>zk (m+1) (qG (m+1)) ds (by omega) hfld z x3 k i t x7 (m+2) 0 (by omega) (by omega);simp only[List.take_zero,List.nil_append,Nat.sub_zero]at key6 key13;by_cases h0:0<l.length
    ·   have e0:decide ((0:Int)<((l.length:Nat):Int))=true:=by simp;omega
        have key:=fun(x3 x4:Dt)(z:Dt)=>Dc (m+1) (qG (m+1)) l (by omega) hself z x3 x4 k i t (m+2) 0 (by omega) (by omega);simp only[List.take_zero,List.nil_append,Nat.sub_zero]at key;rw[e0];simp only[cond_true];show Option.bind (mkL ((l.length:Nat):Int) ((l.length:Nat):Int) _) _=_;rw[fZ (by omega),ah];show mH (m+1) (qG (m+1)) (m+2) l ((l.length:Nat):Int) ((0:Nat):Int) _ _ k i t _=_;rw[key];show (bif (decide ((0:Int)<((ds.length:Nat):Int)))then _ else _)=_;by_cases h1:0<ds.length
        · have e1:decide ((0:Int)<((ds.length:Nat):Int))=true:=by simp;omega
          rw[e1];simp only[cond_true];show Option.bind (mkL ((ds.length:Nat):Int) ((ds.length:Nat):Int) _) _=_;rw[fZ (by omega),ah];exact key6 _ _ _
        · have e1:decide ((0:Int)<((ds.length:Nat):Int))=false:=by rw[decide_eq_false_iff_not];omega
          have e2:ds=[]:=List.length_eq_zero_iff.1 (by omega);subst e2;rfl
    ·   have e0:decide ((0:Int)<((l.length:Nat):Int))=false:=by rw[decide_eq_false_iff_not];omega
        have e3:l=[]:=List.length_eq_zero_iff.1 (by omega);subst e3;show (bif (decide ((0:Int)<((ds.length:Nat):Int)))then _ else _)=_;by_cases h1:0<ds.length
        · have e1:decide ((0:Int)<((ds.length:Nat):Int))=true:=by simp;omega
          rw[e1];simp only[cond_true];show Option.bind (mkL ((ds.length:Nat):Int) ((ds.length:Nat):Int) _) _=_;rw[fZ (by omega),ah];exact key13 _ _ _
        · have e2:ds=[]:=List.length_eq_zero_iff.1 (by omega);subst e2;rfl
theorem iL(m:Nat)(a b:Int):zM (m+1) a b=some (iZ a b):=by simp only[zM,WI,WH,iZ];cases decide (a<b)<;>cases decide (b<a)<;>rfl
theorem zl(m:Nat)(a b:ByteArray)(ha:a.size<1000000000000):∀(M i:Nat),i<=a.size->i<=b.size->a.size-i<M->BZ (m+1) M a b (i:Int)=some (cmpL zh (a.data.toList.drop i) (b.data.toList.drop i))
 |0,i,_,_,h=>by omega
 |M+    1,i,hi,hi2,h=>by
  have la:a.data.toList.length=a.size:=by rw[Array.length_toList];rfl
  have lb:b.data.toList.length=b.size:=by rw[Array.length_toList];rfl
  simp only[BZ,dlt];by_cases h1:i<a.size
  ·by_cases h2:i<b.size
   ·    have e1:a.data.toList.drop i=a[i]::a.data.toList.drop (i+1):=by rw[aD (by omega)];rfl
        have e2:b.data.toList.drop i=b[i]::b.data.toList.drop (i+1):=by rw[aD (by omega)];rfl
        have hwr:∀u:UInt8,IntKind.wrap IntKind.i64 (u.toNat:Int)=(u.toNat:Int):=fun u=>wrap64 (by omega) (by have:=u.toNat_lt;omega);simp only[h1,h2,decide_true,cond_true,WK,WJ,fV h1,fV h2,ah,hwr,iL,bK (show i<9223372036854775807 by omega)];rw[zl m a b ha M (i+1) (by omega) (by omega) (by omega),e1,e2];simp only[cmpL];by_cases e:((a[i].toNat:Int))=(b[i].toNat:Int)
        ·have e3:zh a[i] b[i]=0:=by
          rcases bV (a[i].toNat:Int) (b[i].toNat:Int)with⟨g,f⟩| ⟨g,f⟩| ⟨g,f⟩;·omega
          ·exact f
          ·omega
         rw[kg e,kg e3]
        ·have e3:zh a[i] b[i]≠0:=by
          rcases bV (a[i].toNat:Int) (b[i].toNat:Int)with⟨g,f⟩| ⟨g,f⟩| ⟨g,f⟩;·intro x;rw[show zh a[i] b[i]= -1 from f]at x;omega
          ·omega
          ·intro x;rw[show zh a[i] b[i]=1 from f]at x;omega
         rw[iA e,iA e3];rfl
   ·    have:i=b.size:=by omega
        simp only[h1,h2,decide_true,decide_false,cond_true,cond_false,Gv,iL,ah];rw[iK (by omega) (by omega) (.inr (by omega)),la,lb]
  ·simp only[h1,decide_false,cond_false,Gv,iL,ah];rw[iK (by omega) (by omega) (.inl (by omega)),la,lb]
theorem H9(m:Nat)(a b:ByteArray)(hm:a.size<=m)(hm2:m<1000000000000):zE (m+2) a b=some (kP a b):=by have:=zl m a b (by omega) (m+2) 0 (by omega) (by omega) (by omega);rw[kP,wm];exact this
theorem Ph(m:Nat)(self:Dt->Dt->Option Int)(c:Dt->Dt->Int)(a b:Dt)(hl:(L a 3).length<1000000000000)(hs:∀x∈L a 3,∀y,self x y=some (c x y)):∀(M i:Nat),i<=(L a 3).length->i<=(L b 3).length->(L a 3).length-i<M->
  Ca (m+1) self M (i:Int) a b=some (cmpL c ((L a 3).drop i) ((L b 3).drop i))
 |0,i,_,_,h=>by omega
 |M+    1,i,hi,hi2,h=>by
  simp only[Ca,dlt];by_cases ha:i<(L a 3).length
  ·by_cases hb:i<(L b 3).length
   ·    simp only[ha,hb,decide_true,cond_true,WM,WL,bE ha,bE hb,ah,hs _ (aI ha),bK (show i<9223372036854775807 by omega)];rw[Ph m self c a b hl hs M (i+1) (by omega) (by omega) (by omega),aD ha,aD hb];simp only[cmpL];cases (c (L a 3)[i] (L b 3)[i] !=0)<;>rfl
   ·    simp only[ha,hb,decide_true,decide_false,cond_true,cond_false,Gw,iL,ah];rw[iK hi hi2 (by omega)]
  ·simp only[ha,decide_false,cond_false,Gw,iL,ah];rw[iK hi hi2 (by omega)]
theorem Pj(m:Nat)(hm:1<=m)(self:Dt->Dt->Option Int)(c:Dt->Dt->Int)(a b:Dt)(hl:(L a 4).length<1000000000000)(ht:∀x∈L a 4,∀y,zE (m+1) (S x 0) (S y 0)=some (kP (S x 0) (S y 0)))(hs:∀x∈L a 4,∀y,self (fld x 1) (fld y 1)=some (c (fld x 1) (fld y 1))):∀(M i:Nat),i<=(L a 4).length->i<=(L b 4).length->(L a 4).length-i<M->
  Cb (m+1) self M (i:Int) a b=some (cmpL (vW c) ((L a 4).drop i) ((L b 4).drop i))
 |0,i,_,_,h=>by omega
 |M+    1,i,hi,hi2,h=>by
  simp only[Cb,dlt];by_cases ha:i<(L a 4).length
  ·by_cases hb:i<(L b 4).length
   ·    simp only[ha,hb,decide_true,cond_true,Ma,EP,L9,bE ha,bE hb,ah,ht _ (aI ha),hs _ (aI ha),bK (show i<9223372036854775807 by omega)];rw[Pj m hm self c a b hl ht hs M (i+1) (by omega) (by omega) (by omega),aD ha,aD hb];simp only[cmpL,vW];by_cases e:kP (S (L a 4)[i] 0) (S (L b 4)[i] 0)=0
        ·have e1:(kP (S (L a 4)[i] 0) (S (L b 4)[i] 0)==0)=true:=by simpa using e
         rw[e1];simp only[cond_true];rw[kg e];by_cases e2:c (fld (L a 4)[i] 1) (fld (L b 4)[i] 1)=0;·rw[kg e2,kg e2]
         ·rw[iA e2,iA e2]
        ·have e1:(kP (S (L a 4)[i] 0) (S (L b 4)[i] 0)==0)=false:=by simpa using e
         rw[e1];simp only[cond_false];rw[iA e,iA e,iA e]
   ·    simp only[ha,hb,decide_true,decide_false,cond_true,cond_false,wO,iL,ah];rw[iK hi hi2 (by omega)]
  ·simp only[ha,decide_false,cond_false,wO,iL,ah];rw[iK hi hi2 (by omega)]
theorem aiU(m:Nat)(self:Dt->Dt->Option Int)(a b:Dt):Gz m self a b=
  bif (I a 0==3||I a 0==9||I a 0==10)then zM m (I a 1) (I b 1)
  else bif (I a 0==4||I a 0==7||I a 0==8)then zE m (S a 2) (S b 2)
  else bif I a 0==6 then Oq m self 0 a b
  else bif I a 0==5 then Ot m self 0 a b else Mc m self:=by
 have hb:∀x:Option Int,(x.bind fun r=>some r)=x:=fun x=>by cases x<;>rfl
 simp only[Gz,Gy,Gx,hb];cases (I a 0==3)<;>cases (I a 0==9)<;>cases (I a 0==10)<;>cases (I a 0==4)<;>cases (I a 0==7)<;>cases (I a 0==8)<;>rfl
theorem FI:∀(n:Nat)(a b:Dt),a.bulk<=n->n<900000000000->∀m,n<=m->m<900000000000->qC (m+3) a b=some (gP n a b)
 |0,a,_,h,_,_,_,_=>by have:=fF a;omega
 |n+    1,a,b,h,hn,m,hm,hm2=>by
  obtain⟨m,rfl⟩:∃k,m=k+1:=⟨m-1,by omega⟩;have h3:=Ey a 3;have h4:=Ey a 4;have e3:=Ph (m+2) (qC (m+3)) (gP n) a b (by omega) (fun x hx y=>FI n x y (by have:=lV hx;omega) (by omega) m (by omega) (by omega)) (m+4) 0 (aS _) (aS _) (by omega);have e4:=Pj (m+2) (by omega) (qC (m+3)) (gP n) a b (by omega) (fun x hx y=>H9 (m+1) _ _ (by have:=lV hx;have:=aiw x 0;omega) (by omega)) (fun x hx y=>FI n _ _ (by have:=lV hx;have:=iG x 1;omega) (by omega) m (by omega) (by omega)) (m+4) 0 (aS _) (aS _) (by omega);rw[aQ,aQ]at e3 e4;have e3':Oq (m+3) (qC (m+3)) 0 a b=_:=e3;have e4':Ot (m+3) (qC (m+3)) 0 a b=_:=e4;show (bif (I a 0 !=I b 0)then(zM (m+3) (I a 0) (I b 0)).bind (fun r=>some r)else Gz (m+3) (qC (m+3)) a b)=_;simp only[aiU,show m+3=(m+2)+1 from rfl,iL,gP,ah];cases (I a 0 !=I b 0)
  ·simp only[cond_false,Sd];cases (I a 0==3||I a 0==9||I a 0==10)
   ·    cases (I a 0==4||I a 0==7||I a 0==8)
        ·cases (I a 0==6)
         ·cases (I a 0==5);·rfl
          ·exact e4'
         ·exact e3'
        ·exact H9 (m+1) _ _ (by have:=aiw a 2;omega) (by omega)
   ·rfl
  ·rfl
theorem Yy(a b:Dt)(m:Nat)(hm:a.bulk<=m)(hm2:m<900000000000):qC (m+3) a b=some (Bu a b):=by rw[FI a.bulk a b (aM _) (by omega) m hm hm2,M6 (aM _)]
def uid:ByteArray:=ByteArray.mk (List.toArray [95,105,100])
def idD(d:Dt):Dt:=fld ((L d 4).getD 0 (.int 0)) 1
theorem Pk{p:ByteArray->Bool}{s1 s2:Dt->Bool}:∀{L:List Dt}{seen:List ByteArray},(∀f∈L,s1 (fld f 1)=true->s2 (fld f 1)=true)->fl p s1 seen L=true->fl p s2 seen L=true
 | [],_,_,h=>h
 |a::L,seen,hs,h=>by
  simp only[fl,aJ]at h ⊢
  exact⟨⟨h.1.1,hs a bB h.1.2⟩,Pk (fun f hf=>hs f (aY _ hf)) h.2⟩
theorem bm{b x y x' y':Bool}(h1:x=true->x'=true)(h2:y=true->y'=true)(h:(bif b then x else y)=true):(bif b then x' else y')=true:=by
 cases b;·exact h2 h
 ·exact h1 h
theorem zn{p:ByteArray->Bool}:∀(n k:Nat)(v:Dt),WV v->v.bulk<=k->bX p n v=true->bX p k v=true
 |0,_,_,_,_,h=>by cases h
 |n+1,0,v,_,hk,_=>by have:=bQ v;omega
 |n+1,k+1,v,hw,hk,h=>by
  obtain⟨p1,p2,p3,p4⟩:=cK hw;rw[bX,aJ]at h ⊢
  refine⟨h.1,?_⟩;have h2:=h.2;have h3:(L v 3).all (bX p n)=true->(L v 3).all (bX p k)=true:=fun h=>List.all_eq_true.2 fun e he=>zn n k e (p3 e he).1 (by have:=(p3 e he).2;omega) (List.all_eq_true.1 h e he);have h4:fl p (bX p n) [] (L v 4)=true->fl p (bX p k) [] (L v 4)=true:=Pk fun f hf=>zn n k _ (p4 f hf).1 (by have:=(p4 f hf).2;omega);exact bm id (bm id (bm id (bm id (bm id (bm h3 (bm h4 id)))))) h2
structure Ok (v:Dt):Prop where
 wv:WV v
 wr:WR v
 ok:okV v=true
 bk:v.bulk<=1048576
theorem Ok.snd{v:Dt}(h:Ok v):bX nm v.bulk v=true:=by have:=h.ok;unfold okV at this;simp only[aJ]at this;exact this.2
theorem Ok.part{d f:Dt}(h:Ok d)(h5:I d 0=5)(hf:f∈Dt.L d 4):Ok (fld f 1):=by
 have hs:=h.snd;obtain⟨p1,p2,p3,p4⟩:=cK h.wv;have hb:=(p4 f hf).2;have hp:fld f 1∈gM d:=by unfold gM;rw[h5];exact List.mem_map.2 ⟨f,hf,rfl⟩
 have hk:=h.ok;have hbk:=h.bk;unfold okV at hk;simp only[aJ,decide_eq_true_eq]at hk;refine⟨(p4 f hf).1,(jO h.wr).2.2 f hf,?_,by omega⟩;unfold okV;simp only[aJ,decide_eq_true_eq];refine⟨⟨?_,?_⟩,?_⟩
 ·have:=Gr h.wv;have h1:nds (fld f 1)<=((gM d).map nds).sum:=by
   generalize gM d=L at hp;clear this;induction L with
   |nil=>cases hp
   |    cons a L ih=>
        rw[List.map_cons,List.sum_cons];rcases List.mem_cons.1 hp with rfl|hp;·omega
        ·have:=ih hp;omega
  omega
 ·have:=Oh h.wv;have h1:dpt (fld f 1)<=mx dpt (gM d):=by
   generalize gM d=L at hp;clear this;induction L with
   |nil=>cases hp
   |    cons a L ih=>
        simp only[mx];rcases List.mem_cons.1 hp with rfl|hp;·omega
        ·have:=ih hp;omega
  omega
 ·obtain⟨n,hn⟩:∃n,d.bulk=n+1:=⟨d.bulk-1,by have:=bQ d;omega⟩;rw[hn,bX,aJ,h5]at hs;have ga:fl nm (bX nm n) [] (Dt.L d 4)=true:=hs.2;exact zn n _ _ (p4 f hf).1 (aM _) (oQ ga f hf)
structure Do (d:Dt):Prop where
 o:Ok d
 k5:I d 0=5
 fs:∃v r,L d 4= .agg [.str uid,v]::r
 k6:I (idD d) 0≠6
 k1:I (idD d) 0≠1
 k11:I (idD d) 0≠11
 ln:lenD d<=16384
theorem Do.len{d:Dt}(h:Do d):0<(L d 4).length:=by obtain⟨v,r,e⟩:=h.fs;rw[e];simp
theorem Do.hd{d:Dt}(h:Do d):(L d 4)[0]'h.len= .agg [.str uid,idD d]:=by obtain⟨v,r,e⟩:=h.fs;simp[idD,e,fld]
theorem Do.idx{d:Dt}(h:Do d):idx (L d 4) 0=some (.agg [.str uid,idD d]):=by have:=bE h.len;rw[h.hd]at this;exact this
theorem Do.id{d:Dt}(h:Do d):Ok (idD d):=by have:=h.o.part h.k5 (aI h.len);rw[h.hd]at this;exact this
theorem Ia{d:Dt}(h:WV d):agg [.int (I d 0),.int (I d 1),.str (S d 2),.lst (L d 3),.lst (L d 4)]=d:=by cases h;rfl
def kc(d:Dt):ByteArray:=bA (eY 1048576 (idD d))
theorem M8{a b:Dt}(ha:Do a)(hb:Do b)(h:kc a=kc b):idD a=idD b:=by have h1:=aoY h;exact(Fy 1048576 (idD a) (idD b) _ _ [] [] (by omega) ha.id.wv hb.id.wv ha.id.wr hb.id.wr ha.id.snd hb.id.snd ha.id.bk hb.id.bk (by rw[h1])).1
theorem Yz(s:ByteArray)(h:(s.toList==[95,105,100])=true):s=uid:=by
 have h:s.toList=[95,105,100]:=by simpa using h
 rw[ByteArray.toList_eq]at h;exact M0 h
theorem YA:(uid.toList==[95,105,100])=true:=by rw[ByteArray.toList_eq];rfl
theorem ao5{v:Dt}(h:Ok v){m:Nat}(hm:5000000<=m):zP (m+1) v=some (bA (eY 1048576 v),0):=by have hb:=h.bk;obtain⟨q,rfl⟩:∃q,m=q+3:=⟨m-3,by omega⟩;rw[zP,uP h.wv q (by omega) (by omega),h.ok,ah,Bool.not_true,cond_false,XP,ao0 1048576 v _ h.wv h.wr h.snd h.bk (by omega) (q+2) [] (by omega) (by simp;omega),ah,List.nil_append];have h1:=lY 1048576 v h.wv;rw[Nat.ble_eq_true_of_le (by rw[iY];omega),cond_true,aoZ];rfl
theorem FJ{v:Dt}(h:Ok v){m:Nat}(hm:5000002<=m):qY (m+1) [v]=some (bA (eY 1048576 v)):=by
 obtain⟨q,rfl⟩:∃q,m=q+1:=⟨m-1,by omega⟩;have h1:=lY 1048576 v h.wv;have hb:=h.bk;have hz:(bA (eY 1048576 v)).size=(eY 1048576 v).length:=by simp[bA,ByteArray.size]
 have he:(ByteArray.mk (List.toArray []))++bA (eY 1048576 v)=bA (eY 1048576 v):=M0 (by rw[ByteArray.data_append,Array.toList_append];rfl);rw[qY];show yx (q+1) (q+2) (ByteArray.mk (List.toArray [])) [v] 1 0=_;rw[yx];show OU (q+1) (yx (q+1) (q+1)) (ByteArray.mk (List.toArray [])) [v] 1 0=_;rw[OU];show Option.bind (zP (q+1) v) _=_;rw[ao5 h (by omega),ah];show G9 (q+1) _ (ByteArray.mk (List.toArray [])) (bA (eY 1048576 v)) [v] 1 0=_;rw[G9,Nat.ble_eq_true_of_le (by rw[hz];show 0+_<=_;omega),cond_true,he];rfl
theorem arK{d:Dt}(h:Do d)(m:Nat):zI (m+1) d uid=some 0:=by have hl:=h.len;rw[zI,h.k5];show Cg m (m+1) uid ((L d 4).length:Int) ((0:Nat):Int) d=_;rw[Cg,dlt,decide_eq_true hl,cond_true,Xc,bE hl,ah,h.hd];show (bif (uid.toList==uid.toList)then _ else _)=_;rw[beq_self_eq_true,cond_true];rfl
theorem ident{d:Dt}(h:Do d){m:Nat}(hm:5000000<=m):zL (m+1) d=some (idD d):=by have hb:=h.id.bk;obtain⟨q,rfl⟩:∃q,m=q+2:=⟨m-2,by omega⟩;rw[zL];show Option.bind (z8 (q+2) d uid) _=_;rw[z8,arK h,ah];show Option.bind (Option.bind (Am.idx (L d 4) 0) _) _=_;rw[h.idx,ah];show Option.bind (Option.bind (qJ (q+1) (idD d)) _) _=_;rw[BQ 1048576 (idD d) hb (by omega) h.id.wv q (by omega),ah];show some _=some _;rw[show agg [.int (eB (idD d)).1,.int (eB (idD d)).2.1,.str (eB (idD d)).2.2.1,.lst (eB (idD d)).2.2.2.1,.lst (eB (idD d)).2.2.2.2]=idD d from Ia h.id.wv]
theorem Ib{d:Dt}(h:Do d){m:Nat}(hm:5000000<=m):qT (m+1) d=some 0:=by
 have hb:=h.o.bk;have hl:=h.len;obtain⟨q,rfl⟩:∃q,m=q+4:=⟨m-4,by omega⟩;rw[qT,uP h.o.wv (q+1) (by omega) (by omega),h.o.ok,ah,Bool.not_true,cond_false,h.k5,show ((5:Int) !=5)=false from rfl,cond_false,
  show ((((L d 4).length:Nat):Int)==0)=false by rw[beq_eq_false_iff_ne];omega,cond_false,h.idx,ah]
 show yH _ (!(uid.toList==[95,105,100])) d=_;rw[YA,Bool.not_true,yH,cond_false,XV,h.idx,ah];show (bif (I (idD d) 0==6)then _ else bif (I (idD d) 0==1)then _ else CO _ (I (idD d) 0==11) d)=_;rw[beq_eq_false_iff_ne.2 h.k6,beq_eq_false_iff_ne.2 h.k1,beq_eq_false_iff_ne.2 h.k11,cond_false,cond_false,CO,cond_false,XU,Oj h.o.wv h.o.wr hb h.o.ok q (by omega),ah];show OV _ (lenD d:Int)=_;rw[OV,decide_eq_false (by have:=h.ln;omega),cond_false];rfl
theorem arL{d:Dt}(h:Do d){m:Nat}(hm:5000000<=m)(hm2:m<900000000000):zN (m+1) d=some (idD d,true):=by
 have hb:=h.o.bk;have hl:=h.len;obtain⟨q,rfl⟩:∃q,m=q+4:=⟨m-4,by omega⟩;rw[zN,mE h.o.wv q (by omega) (by omega) (by omega),h.o.ok,ah,Bool.not_true,cond_false,
  show ((((L d 4).length:Nat):Int)==0)=false by rw[beq_eq_false_iff_ne];omega,cond_false,h.idx,ah]
 show xV _ (!(uid.toList==[95,105,100])) d _=_;rw[YA,Bool.not_true,xV,cond_false,OQ,h.idx,ah];show (bif (I (idD d) 0==6)then _ else bif (I (idD d) 0==1)then _ else CJ (q+4) (I (idD d) 0==11) bg (idD d))=_;rw[beq_eq_false_iff_ne.2 h.k6,beq_eq_false_iff_ne.2 h.k1,beq_eq_false_iff_ne.2 h.k11,cond_false,cond_false];rfl
theorem vv{d:Dt}(h:Ok d)(h5:I d 0=5){m:Nat}(hm:5000000<=m)(hm2:m<900000000000):∃e,zK (m+1) d=some e∧(e=0->Do d):=by
 have hb:=h.bk;obtain⟨q,rfl⟩:∃q,m=q+6:=⟨m-6,by omega⟩;rw[zK,zN,mE h.wv (q+1) (by omega) (by omega) (by omega),h.ok,ah,Bool.not_true,cond_false];by_cases h0:(L d 4).length=0
 ·rw[show ((((L d 4).length:Nat):Int)==0)=true by rw[beq_iff_eq];omega];exact⟨8,rfl,fun h=>by cases h⟩
 ·have hl:0<(L d 4).length:=by omega
  have hi:=bE hl;obtain⟨v,hv⟩:∃v,(L d 4)[0]= .agg [.str (S (L d 4)[0] 0),v]:=by
   have hf:=(VZ h.wv).2.1 _ (aI hl);generalize (L d 4)[0]=f at hf;cases hf with
   |mk _=>exact⟨_,rfl⟩
  rw[show ((((L d 4).length:Nat):Int)==0)=false by rw[beq_eq_false_iff_ne];omega,cond_false,show Am.idx (L d 4) 0=some (L d 4)[0]from hi,ah];cases hu:((S (L d 4)[0] 0).toList==[95,105,100])with
  |false=>exact⟨8,rfl,fun h=>by cases h⟩
  |true=>
   have hs:=Yz _ hu;have hidD:fld (L d 4)[0] 1=idD d:=by unfold idD;rw[List.getD,aG hl];rfl
   rw[Bool.not_true,xV,cond_false,OQ,show Am.idx (L d 4) 0=some (L d 4)[0]from hi,ah,hidD];by_cases k6:I (idD d) 0=6;·rw[k6];exact⟨8,rfl,fun h=>by cases h⟩
   by_cases k1:I (idD d) 0=1;·rw[k1];exact⟨8,rfl,fun h=>by cases h⟩
   by_cases k11:I (idD d) 0=11;·rw[k11];exact⟨8,rfl,fun h=>by cases h⟩
   rw[beq_eq_false_iff_ne.2 k6,beq_eq_false_iff_ne.2 k1,beq_eq_false_iff_ne.2 k11,cond_false,cond_false,CJ,cond_false,XK,ah];show ∃e,O0 (q+6) d=some e∧_;rw[O0,Ol h.wv h.wr hb h.ok q (by omega) (by omega),ah];show ∃e,OZ _ (lenD d:Int)=some e∧_;rw[OZ];by_cases hln:lenD d<=16384
   ·    rw[decide_eq_false (by omega)];refine⟨0,rfl,fun _=>⟨h,h5,⟨v,(L d 4).drop 1,?_⟩,k6,k1,k11,hln⟩⟩;rw[hs]at hv;rw[←hv];have:=aD hl;rw[aQ]at this;exact this
   ·    rw[decide_eq_true (by omega)];exact⟨2,rfl,fun h=>by cases h⟩
end Go.Proofs.YtmecfjhdnbgfeaaGreatDoor
namespace Go.Proofs.YtmecfjhdnbgfeaaGreatDoor
open Go.Am
theorem qw{l:List Dt}{x:Dt}(h:l.length<137438953472):app l [x]=some (l++[x]):=by unfold app;rw[if_pos (by simp;omega)]
theorem jE{l:List Dt}{i:Nat}(h:i<l.length):l.take i++[l[i]]=l.take (i+1):=by rw[List.take_add_one,aG h];rfl
theorem Ic(m:Nat)(self:Dt->Option Dt)(l:List Dt)(hl:l.length<=137438953472)(hs:∀e∈l,self e=some e)(x3 x4:Dt)(x5 x6:Int)(x7:ByteArray)(x9:List Dt):∀(M i:Nat),i<=l.length->l.length-i<M->
  wN m self M l (l.length:Int) (i:Int) x3 x4 x5 x6 x7 (l.take i) x9=Wp m self x3 x4 x5 x6 x7 l x9
 |0,i,_,h=>by omega
 |M+1,i,hi,h=>by
  simp only[wN,dlt];by_cases hlt:i<l.length
  ·have hx:(l.take i).length<137438953472:=by rw[List.length_take];omega
   simp only[hlt,decide_true,cond_true,Wl,Wj,bE hlt,ah,hs _ (aI hlt),qw hx,jE hlt,bK (show i<9223372036854775807 by omega)];exact Ic m self l hl hs x3 x4 x5 x6 x7 x9 M (i+1) (by omega) (by omega)
  ·have e:i=l.length:=by omega
   subst e;simp
theorem Ie(m:Nat)(self:Dt->Option Dt)(l:List Dt)(hl:l.length<=137438953472)(hf:∀f∈l,∃s v,f= .agg [.str s,v]∧self v=some v)(x3:Dt)(x4 x5:Int)(x6:ByteArray)(x7:List Dt):∀(M i:Nat),i<=l.length->l.length-i<M->
  BX m self M l (l.length:Int) (i:Int) x3 x4 x5 x6 x7 (l.take i)=some (.agg [.int x4,.int x5,.str x6,.lst x7,.lst l])
 |0,i,_,h=>by omega
 |M+1,i,hi,h=>by
  simp only[BX,dlt];by_cases hlt:i<l.length
  ·have hx:(l.take i).length<137438953472:=by rw[List.length_take];omega
   obtain⟨s,v,e1,e2⟩:=hf _ (aI hlt);have e5:Dt.agg [.str (Dt.S l[i] 0),v]=l[i]:=by rw[e1];rfl
   have e4:Dt.fld l[i] 1=v:=by rw[e1];rfl
   simp only[hlt,decide_true,cond_true,Wn,Wm,bE hlt,ah,e4,e2,e5,qw hx,jE hlt,bK (show i<9223372036854775807 by omega)];exact Ie m self l hl hf x3 x4 x5 x6 x7 M (i+1) (by omega) (by omega)
  ·have e:i=l.length:=by omega
   subst e;simp[Wo]
theorem fG:∀(N:Nat)(d:Dt),d.bulk<=N->N<=137438953472->WV d->∀m,N<=m->qB (m+1) d=some d
 |0,d,h,_,_,_,_=>by have:=bQ d;omega
 |N +   1,d,h,hN,hw,m,hm=>by
  cases hw with
  | @mk   k i t l ds hl hd=>
    rw[dM]at h;obtain⟨m,rfl⟩:∃q,m=q+1:=⟨m-1,by omega⟩;have hself:∀e∈l,qB (m+1) e=some e:=fun e he=>fG N e (by have:=bU he;omega) (by omega) (hl e he) m (by omega);have hfld:∀f∈ds,∃s v,f= .agg [.str s,v]∧qB (m+1) v=some v:=fun f hf=>by
        have hb:=bU hf;cases hd f hf with
        | @mk s v hv=>
          rw[gH]at hb;exact⟨s,v,rfl,fG N v (by omega) (by omega) hv m (by omega)⟩
    have hl1:=bW l;have hd1:=bW ds;have key:=fun(x3 x4:Dt)=>Ic (m+1) (qB (m+1)) l (by omega) hself x3 x4 k i t [] (m+2) 0 (by omega) (by omega);have key6:=fun(x3:Dt)(x7:List Dt)=>Ie (m+1) (qB (m+1)) ds (by omega) hfld x3 k i t x7 (m+2) 0 (by omega) (by omega);simp only[List.take_zero]at key key6;show wN (m+1) (qB (m+1)) (m+2) l ((l.length:Nat):Int) ((0:Nat):Int) _ _ k i t [] []=_;rw[key];exact key6 _ _
end Go.Proofs.YtmecfjhdnbgfeaaGreatDoor
namespace Go.Proofs.YtmecfjhdnbgfeaaGreatDoor
open Go.Am Dt
def fK(s:ByteArray):Dt:= .agg [.str s,.lst [.lst [.str uid]],.int 1,.int 5]
def sto(D:List Dt):List Dt:=D.map fun d=> .agg [d,.str (kc d)]
def gJ(D:List Dt):List Dt:=mkM kc (fun i=> .lst [.int i]) 0 D
def idM(D:List Dt):List Dt:=mkM kc (fun i=> .int i) 0 D
def wrt(s:ByteArray)(n b:Dt):Dt:= .agg [.int 2,.str s,idD n,n,b,EK,EL,.str (ByteArray.mk (List.toArray [])),.int 0,.lst [],.lst [],.bool false]
theorem Ok.k0{d:Dt}(h:Ok d):(I d 0==0)=false:=by have:=iw h.snd;rw[beq_eq_false_iff_ne];omega
theorem arM{d:Dt}(h:Do d){m:Nat}(hm:5000000<=m)(hm2:m<800000000000):zJ (m+1) d [.str uid]=some (idD d):=by
 have hb:=h.o.bk;obtain⟨q,rfl⟩:∃q,m=q+1:=⟨m-1,by omega⟩;have hl:=(cK h.o.wv).2.1;have e0:fi uid (L d 4)=some 0:=by obtain⟨v,r,e⟩:=h.fs;rw[e,fi];show (bif (uid.toList==uid.toList)then _ else _)=_;rw[beq_self_eq_true];rfl
 rw[zJ];show pQ (q+1) (q+2) [.str uid] 1 0 d bg=_;rw[pQ];show OA (q+1) (pQ (q+1) (q+1)) [.str uid] 1 0 d bg=_;rw[OA];show (bif (I d 0==5)then Option.bind (zH (q+1) (L d 4) uid) _ else _)=_;rw[h.k5];show Option.bind (zH (q+1) (L d 4) uid) _=_;rw[auZ q uid (L d 4) (by omega) (by omega),e0,ah];show Option.bind (Am.idx (L d 4) 0) _=_;rw[h.idx,ah];show pQ (q+1) (q+1) [.str uid] 1 1 (idD d) bg=_;rw[pQ];show Option.bind (qG (q+1) (idD d)) _=_;rw[tL 1048576 (idD d) h.id.bk (by omega) h.id.wv q (by omega)];rfl
theorem key_eq{d:Dt}(h:Do d)(s:ByteArray)(a w:List Dt){m:Nat}(hm:6000000<=m)(hm2:m<800000000000):i19 (m+1) (.agg [fK s,.lst a,.lst [],.lst [],.lst w]) d=some (kc d):=by obtain⟨q,rfl⟩:∃q,m=q+1:=⟨m-1,by omega⟩;rw[i19];show Option.bind (mkL ((1:Nat):Int) ((1:Nat):Int) bg) _=_;rw[fZ (by omega),ah];show iX (q+1) (q+2) [.lst [.str uid]] 1 0 d [bg]=_;rw[iX];show EW (q+1) (iX (q+1) (q+1)) [.lst [.str uid]] 1 0 d [bg]=_;rw[EW];show Option.bind (zJ (q+1) d [.str uid]) _=_;rw[arM h (by omega) (by omega),ah];show (bif (I (idD d) 0==0)then _ else EU (q+1) (iX (q+1) (q+1)) [.lst [.str uid]] 1 0 d [idD d])=_;rw[h.id.k0,cond_false];show iX (q+1) (q+1) [.lst [.str uid]] 1 1 d [idD d]=_;rw[iX];show Option.bind (qY (q+1) [idD d]) _=_;rw[FJ h.id (by omega)];rfl
theorem Ig{n b:Dt}(hn:Do n)(hb:WV b)(hbb:b.bulk<=1048576)(s:ByteArray)(a k i w:List Dt)(hw:w.length<1000000000){m:Nat}(hm:5000001<=m):i26 (m+1) n b (fK s) a k i w=some (fK s,k,i,a,w++[wrt s n b]):=by
 obtain⟨q,rfl⟩:∃q,m=q+1:=⟨m-1,by omega⟩;have hx:w.length<(w++[pO]).length:=by simp
 rw[i26,ident hn (by omega),ah,fG 1048576 (idD n) hn.id.bk (by omega) hn.id.wv q (by omega),ah,fG 1048576 n hn.o.bk (by omega) hn.o.wv q (by omega),ah,fG 1048576 b hbb (by omega) hb q (by omega),ah,cond_false,cond_true,if_pos (by omega),ah,fJ hx,ah,Int.toNat_natCast,aG hx,ah];rw[List.set_append,if_neg (by omega),Nat.sub_self];rfl
theorem wo(D:List Dt):(sto D).length=D.length:=by simp[sto]
theorem FK{D:List Dt}{i:Nat}(h:i<D.length):(sto D)[i]? =some (.agg [D[i],.str (kc D[i])]):=by simp[sto,h]
theorem zo{kc':Dt->ByteArray}{g:Nat->Dt}{s:ByteArray}{D:List Dt}(h:fk kc' s D=none):mhas (mkM kc' g 0 D) s=false:=by unfold mhas;rw[Fz,h];rfl
theorem add_eq{d:Dt}(h:Do d){D:List Dt}(hf:fk kc (kc d) D=none)(hl:D.length<1000000000)(s:ByteArray)(w:List Dt){m:Nat}(hm:6000001<=m)(hm2:m<800000000000):i18 (m+1) d (fK s) (sto D) (gJ D) (idM D) w=some (fK s,gJ (D++[d]),idM (D++[d]),sto (D++[d]),w):=by
 obtain⟨q,rfl⟩:∃q,m=q+1:=⟨m-1,by omega⟩;have e1:mput (gJ D) (kc d) (.lst [.int ((D.length:Nat):Int)])=gJ (D++[d]):=by have:=FB kc (fun i=> .lst [.int i]) d D 0 hf;rw[Nat.zero_add]at this;exact this
 have e2:mput (idM D) (kc d) (.int ((D.length:Nat):Int))=idM (D++[d]):=by have:=FB kc (fun i=> .int i) d D 0 hf;rw[Nat.zero_add]at this;exact this
 rw[i18,key_eq h s _ _ (by omega) (by omega),ah,qw (by rw[wo];omega),ah,show mhas (gJ D) (kc d)=false from zo hf,cond_false,ident h (by omega),ah,FJ h.id (by omega),ah,wo,e1,show bA (eY 1048576 (idD d))=kc d from rfl,e2];show some _=some _;rw[show sto (D++[d])=sto D++[.agg [d,.str (kc d)]] by simp[sto]]
theorem aiV{d:Dt}(h:Do d){D:List Dt}{n:Nat}(hn:n<D.length)(hk:kc D[n]=kc d)(s:ByteArray)(k i w:List Dt){m:Nat}(hm:6000001<=m)(hm2:m<800000000000):i29 (m+1) (n:Int) d (fK s) (sto D) k i w=some (fK s,k,i,sto (D.set n d),w):=by
 obtain⟨q,rfl⟩:∃q,m=q+1:=⟨m-1,by omega⟩;have hx:n<(sto D).length:=by rw[wo];exact hn
 rw[i29,fJ hx,ah,Int.toNat_natCast,FK hn,ah,key_eq h s _ _ (by omega) (by omega),ah];show (bif !((kc D[n]).toList==(kc d).toList)then _ else _)=_;rw[hk,beq_self_eq_true,Bool.not_true,cond_false,yG,fJ hx,ah,Int.toNat_natCast,FK hn,ah];show some _=some _;rw[show sto (D.set n d)=(sto D).set n (.agg [d,.str (kc d)]) by simp[sto,List.map_set]]
theorem ao6:WV bg:= .mk (fun _ h=>by cases h) (fun _ h=>by cases h)
theorem YB:bg.bulk<=1048576:=by decide
theorem Sg{d:Dt}(h:Do d){D:List Dt}(hf:fk kc (kc d) D=none)(hl:D.length<1000000000)(s:ByteArray)(w:List Dt)(hw:w.length<1000000000){m:Nat}(hm:6000002<=m)(hm2:m<800000000000):i24 (m+1) d (fK s) (sto D) (gJ D) (idM D) w=some (0,fK s,gJ (D++[d]),idM (D++[d]),sto (D++[d]),w++[wrt s d bg]):=by obtain⟨q,rfl⟩:∃q,m=q+1:=⟨m-1,by omega⟩;rw[i24];show Option.bind (qT (q+1) d) _=_;rw[Ib h (by omega),ah];show EX (q+1) (fK s) (gJ D) (idM D) (sto D) w d=_;rw[EX,ident h (by omega),ah,FJ h.id (by omega),ah,show mhas (idM D) (bA (eY 1048576 (idD d)))=false from zo hf,cond_false,MJ,Ig h ao6 YB s _ _ _ w hw (by omega),ah,fG 1048576 d h.o.bk (by omega) h.o.wv q (by omega),ah];show Option.bind (i18 (q+1) d (fK s) (sto D) (gJ D) (idM D) (w++[wrt s d bg])) _=_;rw[add_eq h hf hl s _ (by omega) (by omega)];rfl
theorem Pm{p:ByteArray->Bool}{self:Dt->Bool}:∀{L:List Dt}{seen:List ByteArray},fl p self seen L=true->∀f∈L,seen.any (eqb (S f 0))=false
 | [],_,_,f,hf=>by cases hf
 |a::L,seen,h,f,hf=>by
  simp only[fl,aJ]at h;rcases List.mem_cons.1 hf with rfl|hf;·simpa using h.1.1.2
  ·have:=Pm h.2 f hf;rw[List.any_append,Bool.or_eq_false_iff]at this;exact this.1
theorem Do.names{d:Dt}(h:Do d):∀f∈(L d 4).drop 1,((S f 0).toList==[95,105,100])=false:=by
 have hs:=h.o.snd;obtain⟨n,hn⟩:∃n,d.bulk=n+1:=⟨d.bulk-1,by have:=bQ d;omega⟩;rw[hn,bX,aJ,h.k5]at hs;have ga:fl nm (bX nm n) [] (L d 4)=true:=hs.2;obtain⟨v,r,e⟩:=h.fs;intro f hf;rw[e]at hf ga;have hf:f∈r:=hf;simp only[fl,aJ]at ga;have:=Pm ga.2 f hf;cases hc:((S f 0).toList==[95,105,100])with
 |false=>rfl
 |true=>
  have hu:=Yz _ hc;rw[List.nil_append,List.any_cons,hu]at this;have e2:eqb uid (S (agg [.str uid,v]) 0)=true:=aiA uid;rw[e2]at this;cases this
theorem Do.back{d:Dt}(h:Do d):agg [.int 5,.int 0,.str (ByteArray.mk (List.toArray [])),.lst [],.lst (L d 4)]=d:=by
 have hs:=(iw h.o.snd).1;unfold shp at hs;rw[h.k5]at hs;simp only[aJ]at hs;have h1:I d 1=0:=by have:=hs.1.1.1;simpa using this
 have h2:S d 2=ByteArray.empty:=sz0 (by have:=hs.1.1.2;simpa using this);have h3:L d 3=[]:=Bg (by have:=hs.1.2;simpa using this);have:=Ia h.o.wv;rw[h.k5,h1,h2,h3]at this;exact this
theorem Pn{d:Dt}(h:Do d){m:Nat}(hm:5000000<=m)(x0:Int)(x4:Dt)(x5 x6 x7 x8:List Dt)(x9:Dt)(x10 x11:Int)(x12:ByteArray)(x13:List Dt):∀(M i:Nat),1<=i->i<=(L d 4).length->(L d 4).length-i<M->
  kH (m+1) M x0 (L d 4) ((L d 4).length:Int) (i:Int) x4 x5 x6 x7 x8 x9 x10 x11 x12 x13 ((L d 4).take i)=E8 (m+1) x0 x4 x5 x6 x7 x8 x9 x10 x11 x12 x13 (L d 4)
 |0,i,_,_,h=>by omega
 |M+    1,i,h1,hi,hM=>by
  have hb:=h.o.bk;have hl:=(cK h.o.wv).2.1;rw[kH,dlt];by_cases hlt:i<(L d 4).length
  ·obtain⟨s,v,e⟩:∃s v,(L d 4)[i]= .agg [.str s,v]:=by
        have hf:=(VZ h.o.wv).2.1 _ (aI hlt);generalize (L d 4)[i]=f at hf;cases hf with
        |mk _=>exact⟨_,_,rfl⟩
   have hn:(s.toList==[95,105,100])=false:=by have:=h.names (L d 4)[i] (List.mem_drop_iff_getElem.2 ⟨i-1,by omega,by congr 1;omega⟩);rw[e]at this;exact this
   obtain⟨p1,p2⟩:=(cK h.o.wv).2.2.2 _ (aI hlt);have e3:=jE hlt;rw[e]at p1 p2 e3;have p1:WV v:=p1;have p2:v.bulk<d.bulk:=p2;rw[decide_eq_true hlt,cond_true,EY,bE hlt,ah,e];show (bif !(s.toList==[95,105,100])then Option.bind (qB (m+1) v) _ else _)=_;rw[hn,Bool.not_false,cond_true,fG 1048576 v (by omega) (by omega) p1 m (by omega),ah];show Option.bind (app _ [.agg [.str s,v]]) _=_;rw[qw (by rw[List.length_take];omega),ah,e3,yI,bK (by omega)];exact Pn h hm x0 x4 x5 x6 x7 x8 x9 x10 x11 x12 x13 M (i+1) (by omega) (by omega) (by omega)
  ·have e:i=(L d 4).length:=by omega
   subst e;rw[decide_eq_false hlt,cond_false,List.take_length]
def Step(D D' W W':List Dt)(d:Dt):Prop:=(W'=W∧D'=D)∨∃w,W'=W++[w]∧I w 0=2∧fld w 3=d
theorem YC{d:Dt}(h:Do d){D:List Dt}{n:Nat}(hn:n<D.length)(ho:Do D[n])(hk:kc D[n]=kc d)(s:ByteArray)(k i w:List Dt)(hw:w.length<1000000000){m:Nat}(hm:6000010<=m)(hm2:m<800000000000):∃w',i27 (m+1) (n:Int) d (fK s) (sto D) k i w=some (0,fK s,k,i,sto (D.set n d),w')∧Step D (D.set n d) w w' d:=by
 obtain⟨q,rfl⟩:∃q,m=q+1:=⟨m-1,by omega⟩;have hx:n<(sto D).length:=by rw[wo];exact hn
 have hid:=M8 ho h hk;have hl:=h.len;have hb:=h.o.bk;have hlb:=(cK h.o.wv).2.1;have key:i27 (q+2) (n:Int) d (fK s) (sto D) k i w=EZ (q+1) (n:Int) (fK s) k i (sto D) w D[n] 5 0 (ByteArray.mk (List.toArray [])) [] (L d 4):=by
  rw[i27,fJ hx,ah,Int.toNat_natCast,FK hn,ah];show Option.bind (zL (q+1) D[n]) _=_;rw[ident ho (by omega),ah,fG 1048576 (idD D[n]) ho.id.bk (by omega) ho.id.wv q (by omega),ah,hid];show kH (q+1) (q+2) (n:Int) (L d 4) ((L d 4).length:Int) ((0:Nat):Int) (fK s) k i (sto D) w D[n] 5 0 (ByteArray.mk (List.toArray [])) [] [.agg [.str uid,idD d]]=_;rw[kH,dlt,decide_eq_true hl,cond_true,EY,bE hl,ah,h.hd];show (bif !(uid.toList==[95,105,100])then _ else _)=_;rw[YA,Bool.not_true,cond_false,yI,bK (by omega)];have ht:(L d 4).take 1=[.agg [.str uid,idD d]]:=by have:=jE hl;rw[h.hd]at this;exact this.symm
  rw[←ht,Pn h (by omega) _ _ _ _ _ _ _ _ _ _ _ (q+1) 1 (by omega) (by omega) (by omega),E8,h.back,Ib h (by omega),ah];rfl
 rw[key,EZ,h.back,yB];obtain⟨p,rfl⟩:∃p,q=p+3:=⟨q-3,by omega⟩;rw[ao4 d D[n] p (by omega) (by omega),ah,ah];cases hc:(Bu d D[n]==0)with
 |true=>
  have he:d=D[n]:=(Pg h.o.wv ho.o.wv h.o.snd ho.o.snd).1 (by simpa using hc);have hs:D.set n d=D:=by
   conv=>lhs;rw[he]
   exact List.set_getElem_self hn
  rw[Bool.not_true,cond_false,hs];exact⟨w,rfl,.inl ⟨rfl,rfl⟩⟩
 |false=>
  rw[Bool.not_false,cond_true,Ig h ho.o.wv ho.o.bk s _ _ _ w hw (by omega),ah];show ∃w',Option.bind (i29 (p+3+1) (n:Int) d (fK s) (sto D) k i (w++[wrt s d D[n]])) _=_∧_;rw[aiV h hn hk s _ _ _ (by omega) (by omega)];exact⟨_,rfl,.inr ⟨_,rfl,rfl,rfl⟩⟩
theorem aiW{d:Dt}(h:Do d){D:List Dt}(hD:∀x∈D,Do x)(hl:D.length<1000000000)(s:ByteArray)(w:List Dt)(hw:w.length<1000000000){m:Nat}(hm:6000020<=m)(hm2:m<800000000000):∃w',i23 (m+1) d (fK s) (sto D) (gJ D) (idM D) w=some (0,fK s,gJ (eZ kc D d),idM (eZ kc D d),sto (eZ kc D d),w')∧Step D (eZ kc D d) w w' d:=by
 obtain⟨q,rfl⟩:∃q,m=q+1:=⟨m-1,by omega⟩;rw[i23,key_eq h s _ _ (by omega) (by omega),ah];unfold eZ;cases hf:fk kc (kc d) D with
 |none=>
  rw[show mhas (gJ D) (kc d)=false from zo hf,cond_false,Sg h hf hl s w hw (by omega) (by omega),ah];exact⟨_,rfl,.inr ⟨_,rfl,rfl,rfl⟩⟩
 |some n=>
  obtain⟨hn,hk⟩:=alq hf;have hg:mget (gJ D) (kc d)=some (.lst [.int (n:Int)]):=by unfold gJ;rw[Fz,hf];show some (lst [.int ((0+n:Nat):Int)])=_;rw[Nat.zero_add]
  have h1:mhas (gJ D) (kc d)=true:=by unfold mhas;rw[hg];rfl
  have h2:mgetD (gJ D) (kc d) (.lst [])= .lst [.int (n:Int)]:=by unfold mgetD;rw[hg];rfl
  obtain⟨w',e1,e2⟩:=YC h hn (hD _ (aI hn)) hk s (gJ D) (idM D) w hw (m:=q) (by omega) (by omega);rw[h1,cond_true,h2];show ∃w',Option.bind (i27 (q+1) (n:Int) d (fK s) (sto D) (gJ D) (idM D) w) _=_∧_;rw[e1];have k1:gJ (D.set n d)=gJ D:=FC kc _ d D 0 n hn hk;have k2:idM (D.set n d)=idM D:=FC kc _ d D 0 n hn hk;dsimp only;rw[k1,k2];exact⟨w',rfl,e2⟩
def after(T W:List Dt):List Dt:=W.foldl (fun D w=>eZ kc D (fld w 3)) T
theorem qx(D:List Dt)(d:Dt):(eZ kc D d).length<=D.length+1:=by unfold eZ;split<;>simp
theorem Po{m:Nat}(hm:6000100<=m)(hm2:m<800000000000)(s:ByteArray)(T docs:List Dt)(hd:∀d∈docs,Do d)(hdl:docs.length<100000000):∀(M i:Nat)(D W:List Dt),(∀d∈D,Do d)->(∀w∈W,I w 0=2∧Do (fld w 3))->after T W=D->D.length<100000000+i->W.length<=i->i<=docs.length->docs.length-i<M->
  ∃W',yK m M docs (docs.length:Int) (i:Int) (fK s) (sto D) (gJ D) (idM D) W=some (W',0)∧(∀w∈W',I w 0=2∧Do (fld w 3))∧after T W'=(docs.drop i).foldl (eZ kc) D∧W'.length<=docs.length
 |0,i,_,_,_,_,_,_,_,_,h=>by omega
 |M+    1,i,D,W,hD,hW,hT,hDl,hWl,hi,h=>by
  rw[yK,dlt];by_cases hlt:i<docs.length
  ·have hdo:=hd _ (aI hlt);obtain⟨q,rfl⟩:∃q,m=q+1:=⟨m-1,by omega⟩;obtain⟨w',e1,e2⟩:=aiW hdo hD (by omega) s W (by omega) (m:=q) (by omega) (by omega);have pl:=qx D docs[i];rw[decide_eq_true hlt,cond_true,X4,bE hlt,ah,e1,ah];show ∃W',yK (q+1) M docs (docs.length:Int) (IntKind.wrap .i64 ((i:Int)+1)) (fK s) (sto (eZ kc D docs[i])) (gJ (eZ kc D docs[i])) (idM (eZ kc D docs[i])) w'=_∧_;rw[bK (by omega)];have hD':∀d∈eZ kc D docs[i],Do d:=fun d hm=>(qp hm).elim (hD d) fun e=>e▸hdo;have hW':(∀w∈w',I w 0=2∧Do (fld w 3))∧after T w'=eZ kc D docs[i]∧w'.length<=i+1:=by
        rcases e2 with⟨rfl,e⟩| ⟨x,rfl,x1,x2⟩;·rw[e];exact⟨hW,hT,by omega⟩
        ·refine⟨fun w hw=>?_,?_,by simp;omega⟩
         ·rcases List.mem_append.1 hw with hw|hw;·exact hW w hw
          · obtain rfl:=List.mem_singleton.1 hw;rw[x2];exact⟨x1,hdo⟩
         ·unfold after at hT ⊢
          rw[List.foldl_append,hT];show eZ kc D (fld x 3)=_;rw[x2]
   obtain⟨W',r1,r2,r3,r4⟩:=Po hm hm2 s T docs hd hdl M (i+1) (eZ kc D docs[i]) w' hD' hW'.1 hW'.2.1 (by omega) hW'.2.2 (by omega) (by omega);refine⟨W',r1,r2,?_,r4⟩;rw[r3,aD hlt];rfl
  ·have e:i=docs.length:=by omega
   subst e;rw[decide_eq_false hlt,cond_false,List.drop_length];exact⟨W,rfl,hW,hT,hWl⟩
theorem Ih{k:ByteArray}:∀{D:List Dt},(∀d∈D,kc d≠k)->fk kc k D=none
 | [],_=>rfl
 |d::r,h=>by rw[fk,if_neg (h d bB),Ih fun e he=>h e (aY _ he)];rfl
theorem Pp{m:Nat}(hm:6000100<=m)(hm2:m<800000000000)(s:ByteArray)(T docs:List Dt)(ht:∀d∈T,Do d)(hf:Df kc T)(htl:T.length<100000000):∀(M i:Nat),i<=T.length->T.length-i<M->
  yL m M docs T (T.length:Int) (i:Int) (fK s) (sto (T.take i)) (gJ (T.take i)) (idM (T.take i)) []=OY m docs (fK s) (sto T) (gJ T) (idM T) []
 |0,i,_,h=>by omega
 |M+    1,i,hi,h=>by
  rw[yL,dlt];by_cases hlt:i<T.length
  ·have hdo:=ht _ (aI hlt);have hb:=hdo.o.bk;obtain⟨q,rfl⟩:∃q,m=q+1:=⟨m-1,by omega⟩;have hno:fk kc (kc T[i]) (T.take i)=none:=Ih fun d hd=>by obtain⟨j,hj,e⟩:=List.mem_iff_getElem.1 hd;rw[List.length_take]at hj;rw[List.getElem_take]at e;rw[←e];exact List.pairwise_iff_getElem.1 hf j i (by omega) hlt (by omega)
   rw[decide_eq_true hlt,cond_true,X3,bE hlt,ah,fG 1048576 T[i] hb (by omega) hdo.o.wv q (by omega),ah,add_eq hdo hno (by rw[List.length_take];omega) s _ (by omega) (by omega),ah,jE hlt];show yL (q+1) M docs T (T.length:Int) (IntKind.wrap .i64 ((i:Int)+1)) (fK s) _ _ _ []=_;rw[bK (by omega)];exact Pp hm hm2 s T docs ht hf htl M (i+1) (by omega) (by omega)
  ·have e:i=T.length:=by omega
   subst e;rw[decide_eq_false hlt,cond_false,List.take_length]
theorem YD{m:Nat}(hm:6000100<=m)(hm2:m<800000000000)(s:ByteArray)(T docs:List Dt)(ht:∀d∈T,Do d)(hf:Df kc T)(htl:T.length<1000000)(hd:∀d∈docs,Do d)(hdl:docs.length<1000000):
  ∃W,qP (m+1) (fK s) T docs=some (W,0)∧(∀w∈W,I w 0=2∧Do (fld w 3))∧after T W=docs.foldl (eZ kc) T∧W.length<=docs.length:=by
 have h1:qP (m+1) (fK s) T docs=OY m docs (fK s) (sto T) (gJ T) (idM T) []:=by have:=Pp hm hm2 s T docs ht hf (by omega) (m+1) 0 (by omega) (by omega);rw[List.take_zero]at this;exact this
 obtain⟨W,e1,e2,e3,e4⟩:=Po hm hm2 s T docs hd (by omega) (m+1) 0 T [] ht (fun _ h=>by cases h) rfl (by omega) (by simp) (by omega) (by omega);exact⟨W,by rw[h1];exact e1,e2,e3,e4⟩
theorem alr(m:Nat)(self5:List Dt->List Dt->Option Bool)(self:Dt->Dt->Option Bool)(d:Dt)(hl:(L d 4).length<1000000000000)(hs:∀f∈L d 4,self (fld f 1) (fld f 1)=some true)(hL:self5 (L d 3) (L d 3)=some true):∀(M i:Nat),i<=(L d 4).length->(L d 4).length-i<M->BS m self5 self M ((L d 4).length:Int) (i:Int) d d=some true
 |0,i,_,h=>by omega
 |M+1,i,hi,h=>by
  simp only[BS,dlt];by_cases hlt:i<(L d 4).length
  ·simp only[hlt,decide_true,cond_true,Wh,Oo,Wd,bE hlt,ah,beq_self_eq_true,Bool.not_true,cond_false,hs _ (aI hlt),bK (show i<9223372036854775807 by omega)];exact alr m self5 self d hl hs hL M (i+1) (by omega) (by omega)
  ·simp only[hlt,decide_false,cond_false,Wi,hL,ah]
theorem YE(m:Nat)(self:Dt->Dt->Option Bool)(l:List Dt)(hl:l.length<1000000000000)(hs:∀e∈l,self e e=some true):∀(M i:Nat),i<=l.length->l.length-i<M->BR m self M l l (l.length:Int) (i:Int)=some true
 |0,i,_,h=>by omega
 |M+1,i,hi,h=>by
  simp only[BR,dlt];by_cases hlt:i<l.length
  ·simp only[hlt,decide_true,cond_true,V7,V6,bE hlt,ah,Bool.not_true,cond_false,hs _ (aI hlt),bK (show i<9223372036854775807 by omega)];exact YE m self l hl hs M (i+1) (by omega) (by omega)
  ·simp only[hlt,decide_false,cond_false,V8]
theorem Ii(m:Nat)(l:List Dt)(hl:l.length<=m)(hl2:l.length<1000000000000)(hs:∀e∈l,qW m e e=some true):qR (m+1) l l=some true:=by show (bif ((((l.length:Nat):Int) !=((l.length:Nat):Int)):Bool)then some false else V9 m (qW m) l l)=_;rw[bne_self_eq_false];exact YE m (qW m) l hl2 hs (m+1) 0 (aS _) (by omega)
theorem zq:∀(N:Nat)(d:Dt),d.bulk<=N->N<1000000000000->∀m,2*N<=m->qW (m+1) d d=some true
 |0,d,h,_,_,_=>by have:=fF d;omega
 |N+1,d,h,hN,m,hm=>by obtain⟨m,rfl⟩:∃k,m=k+2:=⟨m-2,by omega⟩;have h3:=Ey d 3;have h4:=Ey d 4;have hL:=Ii (m+1) (L d 3) (by omega) (by omega) fun e he=>zq N e (by have:=lV he;omega) (by omega) m (by omega);have key:=alr (m+2) (qR (m+2)) (qW (m+2)) d (by omega) (fun f hf=>zq N (fld f 1) (by have:=lV hf;have:=iG f 1;omega) (by omega) (m+1) (by omega)) hL (m+3) 0 (aS _) (by omega);rw[qW];simp only[bne_self_eq_false,beq_self_eq_true,Bool.not_true,cond_false,BU];exact key
