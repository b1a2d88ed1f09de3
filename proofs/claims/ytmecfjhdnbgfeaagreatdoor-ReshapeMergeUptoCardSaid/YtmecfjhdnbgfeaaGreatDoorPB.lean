/- The encoding of values, in plain Lean: different values have different encodings.
The program's encoding of values is the plain one.
Maps by the documents' keys;documents put in place of those with the same identifier.
Total preorders by comparing functions,in plain Lean:products,lists,values.
Comparing values:the program's function,in plain Lean (parts numbered as since session 5).
Values that compare as equal are equal.
Copies of values:the functions hand the parts back.
Copies of values,by layer 4's function.
Comparing values:the reference's function (parts numbered as since session 5).
Storable documents:identifiers and keys.
Copies of documents by reshape's own function.
Each value is the same as itself (layer 3's functions). -/
import Derived.Test.YtmecfjhdnbgfeaaGreatDoorPA
import Derived.Test.YtmecfjhdnbgfeaaGreatDoorA4
import Derived.Lib.Bytealg
import Derived.Test.YtmecfjhdnbgfeaaGreatDoorSh
set_option linter.all false
namespace Go.Proofs.YtmecfjhdnbgfeaaGreatDoor
open Go.Am Dt
theorem asS{a b:Int}(h:zz a=zz b):a=b:=by unfold zz at h;split at h<;>split at h<;>omega
def uU:Nat->Nat->List UInt8
 |0,u=>[UInt8.ofNat u]
 |k+1,u=>if u<128 then[UInt8.ofNat u]else UInt8.ofNat (u%128+128)::uU k (u/128)
theorem qh{a b:Nat}(ha:a<256)(hb:b<256)(h:UInt8.ofNat a=UInt8.ofNat b):a=b:=by have:=congrArg UInt8.toNat h;rw[UInt8.toNat_ofNat',UInt8.toNat_ofNat',Nat.mod_eq_of_lt ha,Nat.mod_eq_of_lt hb]at this;exact this
theorem KC:∀(k u v:Nat)(r s:List UInt8),u<128^(k+1)->v<128^(k+1)->uU k u++r=uU k v++s->u=v∧r=s
 |0,u,v,r,s,hu,hv,h=>by simp only[uU,List.cons_append,List.nil_append,List.cons.injEq]at h;exact⟨qh (by omega) (by omega) h.1,h.2⟩
 |k+    1,u,v,r,s,hu,hv,h=>by
  rw[uU,uU]at h;rw[Nat.pow_succ]at hu hv;by_cases h1:u<128
  ·rw[if_pos h1]at h;by_cases h2:v<128
   ·    rw[if_pos h2]at h;simp only[List.cons_append,List.nil_append,List.cons.injEq]at h;exact⟨qh (by omega) (by omega) h.1,h.2⟩
   ·    rw[if_neg h2]at h;simp only[List.cons_append,List.nil_append,List.cons.injEq]at h;have:=qh (by omega) (by omega) h.1;omega
  ·rw[if_neg h1]at h;by_cases h2:v<128
   ·    rw[if_pos h2]at h;simp only[List.cons_append,List.nil_append,List.cons.injEq]at h;have:=qh (by omega) (by omega) h.1;omega
   ·    rw[if_neg h2]at h;simp only[List.cons_append,List.cons.injEq]at h;have h3:=qh (by omega) (by omega) h.1;obtain⟨h4,h5⟩:=KC k (u/128) (v/128) r s (Nat.div_lt_of_lt_mul (by rw[Nat.mul_comm];exact hu)) (Nat.div_lt_of_lt_mul (by rw[Nat.mul_comm];exact hv)) h.2;exact⟨by omega,h5⟩
def numE(n:Int):List UInt8:=uU 9 (zz n)
theorem lK{a b:Int}{r s:List UInt8}(ha:rgI a)(hb:rgI b)(h:numE a++r=numE b++s):a=b∧r=s:=by have h1:=OV ha.1 ha.2;have h2:=OV hb.1 hb.2;obtain⟨h3,h4⟩:=KC 9 (zz a) (zz b) r s (by omega) (by omega) h;exact⟨asS h3,h4⟩
def uV(s:ByteArray):List UInt8:=numE (s.size:Int)++s.data.toList
theorem Bz{a b:ByteArray}{r s:List UInt8}(ha:a.size<9223372036854775807)(hb:b.size<9223372036854775807)(h:uV a++r=uV b++s):a=b∧r=s:=by
 unfold uV at h;rw[List.append_assoc,List.append_assoc]at h;obtain⟨h1,h2⟩:=lK ⟨by omega,by omega⟩ ⟨by omega,by omega⟩ h;obtain⟨h3,h4⟩:=List.append_inj h2 (by rw[Array.length_toList,Array.length_toList];have:a.data.size=a.size:=rfl;have:b.data.size=b.size:=rfl;omega)
 refine⟨?_,h4⟩;cases a;cases b
 simp only[ByteArray.mk.injEq];exact Array.toList_inj.1 h3
def DN(n:Int):UInt8:=UInt8.ofNat n.toNat
def eG:Nat->Dt->List UInt8
 |0,_=>[]
 |  n+1,d=>DN (I d 0)::(bif I d 0==3||I d 0==10 then numE (I d 1)else bif I d 0==9 then[DN (I d 1)]else bif I d 0==4||I d 0==7 then uV (S d 2)else
    bif I d 0==8 then(S d 2).data.toList else bif I d 0==6 then numE ((L d 3).length:Int)++((L d 3).map (eG n)).flatten else
    bif I d 0==5 then numE ((L d 4).length:Int)++((L d 4).map fun f=>uV (S f 0)++eG n (fld f 1)).flatten else[])
theorem sj{f:Dt->List UInt8}:∀{L L':List Dt}{r s:List UInt8},L.length=L'.length->(∀e∈L,∀e'∈L',∀r s,f e++r=f e'++s->e=e'∧r=s)->(L.map f).flatten++r=(L'.map f).flatten++s->L=L'∧r=s
 | [],[],_,_,_,_,h=>⟨rfl,h⟩
 | [],_::_,_,_,hl,_,_=>by cases hl
 |_::_,[],_,_,hl,_,_=>by cases hl
 |a::L,b::L',r,s,hl,hi,h=>by simp only[List.map_cons,List.flatten_cons,List.append_assoc]at h;obtain⟨h1,h2⟩:=hi a aZ b aZ _ _ h;obtain⟨h3,h4⟩:=sj (by simpa using hl) (fun e he e' he'=>hi e (aY _ he) e' (aY _ he')) h2;exact⟨by rw[h1,h3],h4⟩
theorem lM{p:ByteArray->Bool}{self:Dt->Bool}:∀{L:List Dt}{seen:List ByteArray},fl p self seen L=true->∀f∈L,self (fld f 1)=true
 | [],_,_,f,hf=>by cases hf
 |a::L,seen,h,f,hf=>by
  simp only[fl,aJ]at h;rcases List.mem_cons.1 hf with rfl|hf;·exact h.1.2
  ·exact lM h.2 f hf
theorem sz0{s:ByteArray}(h:(s.toList==[])=true):s=ByteArray.empty:=by
 have h:s.toList=[]:=by simpa using h
 rw[ByteArray.toList_eq]at h;cases s with
 |mk a=>cases a with
  |mk l=>
   have:l=[]:=h;subst this;rfl
theorem jZ{p:ByteArray->Bool}{n:Nat}{d:Dt}(h:bX p n d=true):shp d=true∧1<=I d 0∧I d 0<=11:=by
 cases n with
 |zero=>cases h
 |succ n=>
  rw[bX,aJ]at h;refine⟨h.1,?_⟩;have h2:=h.2;rcases O8 (I d 0)with e|e|e|e|e|e|e|e|e|e|e|e;all_goals first|omega|skip
  obtain⟨k1,k2,k3,k4,k5,k6,k7,k8,k9,k10,k11⟩:=kno e;rw[k9,k10,k4,k7,k8,k6,k5]at h2;simp only[cond_false,aJ,decide_eq_true_eq]at h2;omega
theorem xM:∀(N:Nat)(a b:Dt)(n n':Nat)(r s:List UInt8),N<=1000000000->WV a->WV b->WR a->WR b->bX nm n a=true->bX nm n' b=true->a.bulk<=N->b.bulk<=N->eG N a++r=eG N b++s->a=b∧r=s
 |0,a,_,_,_,_,_,_,_,_,_,_,_,_,h,_,_=>by have:=bV a;omega
 |N+1,a,b,0,_,_,_,_,_,_,_,_,h,_,_,_,_=>by cases h
 |N+1,a,b,_+1,0,_,_,_,_,_,_,_,_,h,_,_,_=>by cases h
 |N+    1,a,b,n+1,n'+1,r,s,hN,ha,hb,ra,rb,sa,sb,ba,bb,h=>by
  obtain⟨za,ka1,ka2⟩:=jZ sa;obtain⟨zb,kb1,kb2⟩:=jZ sb;obtain⟨ra1,ra5,ra6⟩:=iP ra;obtain⟨rb1,rb5,rb6⟩:=iP rb;have ra2:=jC ha;have rb2:=jC hb;have rf:=jD ha;have rg:=jD hb;obtain⟨pa1,pa2,pa3,pa4⟩:=bU ha;obtain⟨pb1,pb2,pb3,pb4⟩:=bU hb;rw[eG,eG,List.cons_append,List.cons_append,List.cons.injEq]at h;obtain⟨h0,h⟩:=h;have hk:I a 0=I b 0:=by have:=qh (by omega) (by omega) h0;omega
  rw[bX,aJ]at sa sb;have fin:I a 1=I b 1->S a 2=S b 2->L a 3=L b 3->L a 4=L b 4->a=b:=fun h1 h2 h3 h4=>by
   cases ha with
   |    mk _ _=>cases hb with
        |mk _ _=>
         simp only[I,S,L,fld,toInt,toStr,toLst,List.getD_cons_zero,List.getD_cons_succ]at hk h1 h2 h3 h4;subst hk h1 h2 h3 h4;rfl
  unfold shp at za zb;simp only[aJ]at za zb;obtain⟨⟨⟨za1,za2⟩,za3⟩,za4⟩:=za;obtain⟨⟨⟨zb1,zb2⟩,zb3⟩,zb4⟩:=zb;rw[←hk]at zb1 zb2 zb3 zb4 sb h;obtain⟨k,hkk⟩:∃k,k=I a 0:=⟨_,rfl⟩;rw[←hkk]at za1 za2 za3 za4 zb1 zb2 zb3 zb4 sa sb h ka1 ka2;have I0:(k==3)=false->(k==9)=false->(k==10)=false->I a 1=I b 1:=fun e1 e2 e3=>by rw[e1,e2,e3]at za1 zb1;simp only[Bool.false_or,beq_iff_eq]at za1 zb1;rw[za1,zb1]
  have S0:(k==4)=false->(k==7)=false->(k==8)=false->S a 2=S b 2:=fun e1 e2 e3=>by rw[e1,e2,e3]at za2 zb2;simp only[Bool.false_or]at za2 zb2;rw[sz0 za2,sz0 zb2]
  have L0:(k==6)=false->L a 3=L b 3:=fun e1=>by rw[e1,Bool.false_or]at za3 zb3;rw[xH za3,xH zb3]
  have F0:(k==5)=false->L a 4=L b 4:=fun e1=>by rw[e1,Bool.false_or]at za4 zb4;rw[xH za4,xH zb4]
  clear hkk hk h0;have nil:[]++r=[]++s->r=s:=fun h=>h;rcases O8 k with e|e|e|e|e|e|e|e|e|e|e|e;all_goals first|omega|skip
  all_goals subst e
  ·exact⟨fin (I0 rfl rfl rfl) (S0 rfl rfl rfl) (L0 rfl) (F0 rfl),nil h⟩
  ·exact⟨fin (I0 rfl rfl rfl) (S0 rfl rfl rfl) (L0 rfl) (F0 rfl),nil h⟩
  ·obtain⟨h1,h2⟩:=lK ra1 rb1 h;exact⟨fin h1 (S0 rfl rfl rfl) (L0 rfl) (F0 rfl),h2⟩
  ·obtain⟨h1,h2⟩:=Bz (by omega) (by omega) h;exact⟨fin (I0 rfl rfl rfl) h1 (L0 rfl) (F0 rfl),h2⟩
  ·have h:(numE ((L a 4).length:Int)++((L a 4).map fun f=>uV (S f 0)++eG N (fld f 1)).flatten)++r=(numE ((L b 4).length:Int)++((L b 4).map fun f=>uV (S f 0)++eG N (fld f 1)).flatten)++s:=h;rw[List.append_assoc,List.append_assoc]at h;obtain⟨h1,h2⟩:=lK ⟨by omega,by omega⟩ ⟨by omega,by omega⟩ h;have ga:fl nm (bX nm n) [] (L a 4)=true:=sa.2;have gb:fl nm (bX nm n') [] (L b 4)=true:=sb.2;obtain⟨h3,h4⟩:=sj (by omega) (fun f hf g hg r s e=>by
        rw[List.append_assoc,List.append_assoc]at e;obtain⟨e1,e2⟩:=Bz (by have:=rf f hf;have:=dh hf;omega) (by have:=rg g hg;have:=dh hg;omega) e;obtain⟨e3,e4⟩:=xM N (fld f 1) (fld g 1) n n' r s (by omega) (pa4 f hf).1 (pb4 g hg).1 (ra6 f hf) (rb6 g hg) (lM ga f hf) (lM gb g hg) (by have:=(pa4 f hf).2;omega) (by have:=(pb4 g hg).2;omega) e2;refine⟨?_,e4⟩;cases (iR ha).2.1 f hf with
        |mk _=>cases (iR hb).2.1 g hg with
         |mk _=>
          simp only[S,fld,toStr,List.getD_cons_zero,List.getD_cons_succ]at e1 e3;rw[e1,e3]) h2
   exact⟨fin (I0 rfl rfl rfl) (S0 rfl rfl rfl) (L0 rfl) h3,h4⟩
  ·have h:(numE ((L a 3).length:Int)++((L a 3).map (eG N)).flatten)++r=(numE ((L b 3).length:Int)++((L b 3).map (eG N)).flatten)++s:=h;rw[List.append_assoc,List.append_assoc]at h;obtain⟨h1,h2⟩:=lK ⟨by omega,by omega⟩ ⟨by omega,by omega⟩ h;have ga:(L a 3).all (bX nm n)=true:=sa.2;have gb:(L b 3).all (bX nm n')=true:=sb.2;obtain⟨h3,h4⟩:=sj (by omega) (fun e he e' he' r s x=>
        xM N e e' n n' r s (by omega) (pa3 e he).1 (pb3 e' he').1 (ra5 e he) (rb5 e' he') (List.all_eq_true.1 ga e he) (List.all_eq_true.1 gb e' he') (by have:=(pa3 e he).2;omega) (by have:=(pb3 e' he').2;omega) x) h2
   exact⟨fin (I0 rfl rfl rfl) (S0 rfl rfl rfl) h3 (F0 rfl),h4⟩
  ·obtain⟨h1,h2⟩:=Bz (by omega) (by omega) h;exact⟨fin (I0 rfl rfl rfl) h1 (L0 rfl) (F0 rfl),h2⟩
  ·have h:(S a 2).data.toList++r=(S b 2).data.toList++s:=h;have ga:(((S a 2).size:Int)==12)=true:=sa.2;have gb:(((S b 2).size:Int)==12)=true:=sb.2;simp only[beq_iff_eq]at ga gb;obtain⟨h3,h4⟩:=List.append_inj h (by rw[Array.length_toList,Array.length_toList];have:(S a 2).data.size=(S a 2).size:=rfl;have:(S b 2).data.size=(S b 2).size:=rfl;omega)
   refine⟨fin (I0 rfl rfl rfl) ?_ (L0 rfl) (F0 rfl),h4⟩;generalize S a 2=x at h3;generalize S b 2=y at h3;cases x;cases y
   simp only[ByteArray.mk.injEq];exact Array.toList_inj.1 h3
  ·have h:DN (I a 1)::r=DN (I b 1)::s:=h;have ga:(I a 1==0||I a 1==1)=true:=sa.2;have gb:(I b 1==0||I b 1==1)=true:=sb.2;simp only[Bool.or_eq_true,beq_iff_eq]at ga gb;rw[List.cons.injEq]at h;have:=qh (by omega) (by omega) h.1;exact⟨fin (by omega) (S0 rfl rfl rfl) (L0 rfl) (F0 rfl),h.2⟩
  ·obtain⟨h1,h2⟩:=lK ra1 rb1 h;exact⟨fin h1 (S0 rfl rfl rfl) (L0 rfl) (F0 rfl),h2⟩
  ·exact⟨fin (I0 rfl rfl rfl) (S0 rfl rfl rfl) (L0 rfl) (F0 rfl),nil h⟩
def bI(l:List UInt8):List Dt:=l.map fun b=>int (b.toNat:Int)
theorem jG(l:List UInt8):(bI l).length=l.length:=by simp[bI]
theorem uW(a b:List UInt8):bI (a++b)=bI a++bI b:=by simp[bI]
theorem Fz(s:ByteArray):bytesD s=bI s.data.toList:=rfl
def bA(l:List UInt8):ByteArray:=⟨l.toArray⟩
theorem BD{a b:ByteArray}(h:a.data.toList=b.data.toList):a=b:=by
 cases a;cases b
 simp only[ByteArray.mk.injEq];exact Array.toList_inj.1 h
theorem abZ{a b:List UInt8}(h:bA a=bA b):a=b:=by have:=congrArg (fun s:ByteArray=>s.data.toList) h;simpa [bA]using this
theorem asT(l:List UInt8):strOfNums ((bI l).map toInt)=bA l:=by unfold strOfNums bI;refine BD ?_;simp only[List.map_map];show List.map _ l=l;refine(List.map_congr_left fun x _=>?_).trans (List.map_id l);show UInt8.ofNat ((x.toNat:Int).toNat)=x;simp
theorem Qo(x:Int):IntKind.wrap IntKind.u8 x=x%256:=by unfold IntKind.wrap;simp[IntKind.bits,IntKind.signed]
set_option maxRecDepth 100000 in
theorem auR:∀x:Nat,x<256->orI .u8 (x:Int) 128=((x%128+128:Nat):Int):=by decide+kernel
theorem SN{m:Nat}:∀(k M u:Nat)(row:List Dt),u<128^(k+1)->k<M->row.length+k+1<=137438953472->uh m M (u:Int) row=some (row++bI (uU k u))
 |k,0,u,row,_,h,_=>by omega
 |k,M+1,u,row,hu,hM,hr=>by
  rw[uh];by_cases h1:u<128
  ·rw[decide_eq_false (by omega),cond_false,PG,Qo,show (u:Int)%256=(u:Int) by omega,gZ (by simp;omega),ah];have e:uU k u=[UInt8.ofNat u]:=by
        cases k with
        |zero=>rfl
        |succ k=>rw[uU,if_pos h1]
   rw[e];show some (row++[int (u:Int)])=some (row++[int ((UInt8.ofNat u).toNat:Int)]);rw[UInt8.toNat_ofNat',Nat.mod_eq_of_lt (by omega)]
  ·cases k with
   |zero=>omega
   |    succ k=>
        have e1:orI .u8 (IntKind.wrap .u8 (u:Int)) 128=((u%128+128:Nat):Int):=by rw[Qo,show (u:Int)%256=((u%256:Nat):Int) by omega,auR _ (by omega)];omega
        rw[decide_eq_true (by omega),cond_true,PE,e1,gZ (by simp;omega),ah,ayb];rw[Nat.pow_succ]at hu;rw[SN k M (u/128) _ (Nat.div_lt_of_lt_mul (by rw[Nat.mul_comm];exact hu)) (by omega) (by simp;omega),uU,if_neg h1];show some (row++[_]++bI _)=some (row++(int ((UInt8.ofNat (u%128+128)).toNat:Int)::bI _));rw[UInt8.toNat_ofNat',Nat.mod_eq_of_lt (show u%128+128<2^8 by omega),List.append_assoc];rfl
theorem KD:∀k u,(uU k u).length<=k+1
 |0,u=>aL _
 |k+1,u=>by
  rw[uU];split;·simp
  ·have:=KD k (u/128);simp;omega
theorem amD{m:Nat}(hm:12<=m)(n:Int)(row:List Dt)(hn:rgI n)(hr:row.length+10<=137438953472):i61 (m+1) n row=some (row++bI (numE n)):=by obtain⟨q,rfl⟩:∃q,m=q+1:=⟨m-1,by omega⟩;have hz:=OV hn.1 hn.2;rw[i61,amj q n hn.1 hn.2,ah];exact SN 9 (q+2) (zz n) row (by omega) (by omega) (by omega)
theorem iI(n:Int):(numE n).length<=10:=KD 9 _
theorem BF(s:ByteArray):(uV s).length<=10+s.size:=by
 have:=iI (s.size:Int);have e:s.data.toList.length=s.size:=by rw[Array.length_toList];rfl
 unfold uV;rw[aT];omega
theorem auS{m:Nat}(hm:13<=m)(s:ByteArray)(row:List Dt)(hs:s.size<=1000000000)(hr:row.length+10+s.size<=137438953472):i63 (m+1) s row=some (row++bI (uV s)):=by
 obtain⟨q,rfl⟩:∃q,m=q+1:=⟨m-1,by omega⟩;have h1:=iI (s.size:Int);have e:s.data.toList.length=s.size:=by rw[Array.length_toList];rfl
 rw[i63,amD (by omega) _ _ ⟨by omega,by omega⟩ (by omega),ah,Fz,gZ (by rw[aT,jG,jG];omega),ah];unfold uV;rw[uW,List.append_assoc]
theorem ab0{n:Int}(h0:0<=n)(h1:n<256):int (IntKind.wrap IntKind.u8 n)=int ((DN n).toNat:Int):=by unfold DN;rw[Qo,UInt8.toNat_ofNat',Nat.mod_eq_of_lt (by omega)];congr 1;omega
theorem BG{f:Dt->List UInt8}{B:Nat}:∀{L:List Dt},(∀e∈L,(f e).length<=B*e.bulk)->((L.map f).flatten).length<=B*bulkL L
 | [],_=>by simp
 |a::L,h=>by have h1:=h a aZ;have h2:=BG (L:=L) fun e he=>h e (aY _ he);simp only[List.map_cons,List.flatten_cons,aT,bulkL];rw[Nat.mul_add];omega
theorem jd:∀(N:Nat)(d:Dt),WV d->(eG N d).length<=20*d.bulk
 |0,d,_=>by simp[eG]
 |N+1,d,hw=>by
  obtain⟨p1,p2,p3,p4⟩:=bU hw;have hz:=jC hw;have s3:=BG (f:=eG N) (B:=20) (L:=Dt.L d 3) fun e he=>jd N e (p3 e he).1;have s4:=BG (f:=fun f=>uV (S f 0)++eG N (fld f 1)) (B:=20) (L:=Dt.L d 4) fun f hf=>by have e1:=jd N _ (p4 f hf).1;have e2:=jD hw f hf;have e3:=BF (S f 0);rw[aT];omega
  have n1:=iI (I d 1);have n2:=BF (S d 2);have n3:=iI ((Dt.L d 3).length:Int);have n4:=iI ((Dt.L d 4).length:Int);have n5:(S d 2).data.toList.length=(S d 2).size:=by rw[Array.length_toList];rfl
  have q0:∀(b:Bool)(x y:List UInt8),x.length+1<=20*d.bulk->y.length+1<=20*d.bulk->(bif b then x else y).length+1<=20*d.bulk:=fun b x y h1 h2=>by cases b<;>assumption
  rw[eG,List.length_cons];exact q0 _ _ _ (by omega) (q0 _ _ _ (by simp;omega) (q0 _ _ _ (by omega) (q0 _ _ _ (by omega) (q0 _ _ _ (by rw[aT];omega) (q0 _ _ _ (by rw[aT];omega) (by simp;omega))))))
theorem SQ{m:Nat}(self:Dt->List Dt->Option (List Dt))(N:Nat)(L:List Dt)(hl:L.length<1000000000)(hs:∀e∈L,WV e∧∀row:List Dt,row.length+20*e.bulk<=137438953472->self e row=some (row++bI (eG N e))):∀(M i:Nat)(row:List Dt),i<=L.length->L.length-i<M->row.length+20*bulkL (L.drop i)<=137438953472->
  uj m self M L (L.length:Int) (i:Int) row=some (row++bI ((L.drop i).map (eG N)).flatten)
 |0,i,_,_,h,_=>by omega
 |M+1,i,row,hi,h,hr=>by
  rw[uj,dlt];by_cases hlt:i<L.length
  ·obtain⟨w,hs1⟩:=hs _ (aD hlt);have hel:=jd N _ w;rw[ay hlt]at hr ⊢
   simp only[bulkL]at hr;rw[decide_eq_true hlt,cond_true,PK,bg hlt,ah,hs1 row (by omega),ah,PI,bF (by omega)];rw[SQ self N L hl hs M (i+1) _ (by omega) (by omega) (by rw[aT,jG];omega),List.map_cons,List.flatten_cons,uW,List.append_assoc]
  ·have e:i=L.length:=by omega
   subst e;rw[decide_eq_false hlt,cond_false,List.drop_length];simp[jF,bI]
theorem KE{m:Nat}(hm:13<m)(self:Dt->List Dt->Option (List Dt))(N:Nat)(L:List Dt)(hl:L.length<1000000000)(hs:∀f∈L,WV (fld f 1)∧f.bulk=(fld f 1).bulk+(S f 0).size+2∧(S f 0).size<=1000000000∧∀row:List Dt,row.length+20*(fld f 1).bulk<=137438953472->self (fld f 1) row=some (row++bI (eG N (fld f 1)))):∀(M i:Nat)(row:List Dt),i<=L.length->L.length-i<M->row.length+20*bulkL (L.drop i)<=137438953472->
  um m self M L (L.length:Int) (i:Int) row=some (row++bI ((L.drop i).map fun f=>uV (S f 0)++eG N (fld f 1)).flatten)
 |0,i,_,_,h,_=>by omega
 |M+1,i,row,hi,h,hr=>by
  rw[um,dlt];by_cases hlt:i<L.length
  ·obtain⟨w,hb,hz,hs1⟩:=hs _ (aD hlt);have hel:=jd N _ w;have htl:=BF (S L[i] 0);obtain⟨q,rfl⟩:∃q,m=q+1:=⟨m-1,by omega⟩;rw[ay hlt]at hr ⊢
   simp only[bulkL]at hr;rw[decide_eq_true hlt,cond_true,PL,bg hlt,ah,auS (by omega) _ _ hz (by omega),ah,hs1 _ (by rw[aT,jG];omega),ah,HV,bF (by omega)];rw[KE hm self N L hl hs M (i+1) _ (by omega) (by omega) (by rw[aT,aT,jG,jG];omega),List.map_cons,List.flatten_cons,uW,uW,List.append_assoc,List.append_assoc,List.append_assoc]
  ·have e:i=L.length:=by omega
   subst e;rw[decide_eq_false hlt,cond_false,List.drop_length];simp[jF,bI]
theorem asU:∀(N:Nat)(d:Dt)(n:Nat),WV d->WR d->bX nm n d=true->d.bulk<=N->N<=100000000->∀(m:Nat)(row:List Dt),2*N+40<=m->row.length+20*d.bulk<=137438953472->i60 (m+1) d row=some (row++bI (eG N d))
 |0,d,_,_,_,_,h,_,_,_,_,_=>by have:=bV d;omega
 |N+1,d,0,_,_,h,_,_,_,_,_,_=>by cases h
 |N+    1,d,n+1,hw,hr,hs,hb,hN,m,row,hm,hl=>by
  obtain⟨zs,k1,k2⟩:=jZ hs;obtain⟨r1,r2,r3⟩:=iP hr;obtain⟨p1,p2,p3,p4⟩:=bU hw;have hz:=jC hw;have hfz:=jD hw;have h6:=wv6 hw;have hl3:=dx (L d 3);have hl4:=dx (L d 4);rw[bX,aJ]at hs;obtain⟨q,rfl⟩:∃q,m=q+2:=⟨m-2,by omega⟩;rw[i60,ab0 (by omega) (by omega),gZ (by simp;omega),ah,eG];have hrow:(row++[int ((DN (I d 0)).toNat:Int)]).length=row.length+1:=by simp
  have fin:∀l,row++bI (DN (I d 0)::l)=(row++[int ((DN (I d 0)).toNat:Int)])++bI l:=fun l=>by rw[List.append_assoc];rfl
  rw[fin];generalize row++[int ((DN (I d 0)).toNat:Int)]=R at hrow;have hnum:=amD (m:=q+1) (by omega) (I d 1) R r1 (by omega);have htxt:=auS (m:=q+1) (by omega) (S d 2) R (by omega) (by omega);have nil:some R=some (R++bI []):=by simp[bI]
  obtain⟨k,hk⟩:∃k,k=I d 0:=⟨_,rfl⟩;rw[←hk]at hs k1 k2 ⊢
  rcases O8 k with e|e|e|e|e|e|e|e|e|e|e|e;all_goals first|omega|skip
  all_goals subst e
  ·exact nil
  ·exact nil
  ·show Option.bind (i61 (q+2) (I d 1) R) _=_;rw[hnum];rfl
  ·show Option.bind (i63 (q+2) (S d 2) R) _=_;rw[htxt];rfl
  ·have ga:fl nm (bX nm n) [] (L d 4)=true:=hs.2;have hn4:=iI ((L d 4).length:Int);show Option.bind (i61 (q+2) ((L d 4).length:Int) R) _=_;rw[amD (by omega) _ _ ⟨by omega,by omega⟩ (by omega),ah];have:=KE (m:=q+2) (by omega) (i60 (q+2)) N (L d 4) (by omega) (fun f hf=>by have e1:=hfz f hf;have e2:=dh hf;exact⟨(p4 f hf).1,e1,by omega,fun row hrow=>asU N _ n (p4 f hf).1 (r3 f hf) (lM ga f hf) (by omega) (by omega) (q+1) row (by omega) hrow⟩) (q+3) 0 (R++bI (numE ((L d 4).length:Int))) (by omega) (by omega) (by rw[aT,jG,aK];omega)
   rw[aK,List.append_assoc,←uW]at this;exact this
  ·have ga:(L d 3).all (bX nm n)=true:=hs.2;have hn3:=iI ((L d 3).length:Int);show Option.bind (i61 (q+2) ((L d 3).length:Int) R) _=_;rw[amD (by omega) _ _ ⟨by omega,by omega⟩ (by omega),ah];have:=SQ (m:=q+2) (i60 (q+2)) N (L d 3) (by omega) (fun e he=>by have e2:=dh he;exact⟨(p3 e he).1,fun row hrow=>asU N e n (p3 e he).1 (r2 e he) (List.all_eq_true.1 ga e he) (by omega) (by omega) (q+1) row (by omega) hrow⟩) (q+3) 0 (R++bI (numE ((L d 3).length:Int))) (by omega) (by omega) (by rw[aT,jG,aK];omega)
   rw[aK,List.append_assoc,←uW]at this;exact this
  ·show Option.bind (i63 (q+2) (S d 2) R) _=_;rw[htxt];rfl
  ·have n5:(S d 2).data.toList.length=(S d 2).size:=by rw[Array.length_toList];rfl
   show Option.bind (app R (bytesD (S d 2))) _=_;rw[Fz,gZ (by rw[jG];omega)];rfl
  ·have ga:(I d 1==0||I d 1==1)=true:=hs.2;simp only[Bool.or_eq_true,beq_iff_eq]at ga;show Option.bind (app R [int (IntKind.wrap IntKind.u8 (I d 1))]) _=_;rw[ab0 (by omega) (by omega),gZ (by simp;omega)];rfl
  ·show Option.bind (i61 (q+2) (I d 1) R) _=_;rw[hnum];rfl
  ·exact nil
end Go.Proofs.YtmecfjhdnbgfeaaGreatDoor
namespace Go.Proofs.YtmecfjhdnbgfeaaGreatDoor
open Go.Am
def fk(kc:Dt->ByteArray)(k:ByteArray):List Dt->Option Nat
 | []=>none
 |d::r=>if kc d=k then some 0 else(fk kc k r).map (· +1)
def mkM(kc:Dt->ByteArray)(g:Nat->Dt):Nat->List Dt->List Dt
 |_,[]=>[]
 |k,d::r=> .agg [.str (kc d),g k]::mkM kc g (k+1) r
theorem amE{a b:ByteArray}:(a==b)=decide (a=b):=by
 by_cases h:a=b;·rw[decide_eq_true h,h,(fT b b).2 rfl]
 ·rw[decide_eq_false h];cases hb:a==b with
  |true=>exact absurd ((fT a b).1 hb) h
  |false=>rfl
theorem Io(kc:Dt->ByteArray)(g:Nat->Dt)(s:ByteArray):∀(D:List Dt)(k:Nat),mget (mkM kc g k D) s=(fk kc s D).map fun i=>g (k+i)
 | [],_=>rfl
 |d::r,k=>by
  rw[mkM,mget,fk];show (bif kc d==s then some (g k)else _)=_;rw[amE];by_cases h:kc d=s
  ·rw[decide_eq_true h,cond_true,if_pos h];rfl
  ·rw[decide_eq_false h,cond_false,if_neg h,Io kc g s r (k+1)];cases fk kc s r with
   |none=>rfl
   |    some i=>
        show some (g (k+1+i))=some (g (k+(i+1)));rw[Nat.add_assoc,Nat.add_comm 1 i]
theorem SV(kc:Dt->ByteArray)(g:Nat->Dt)(d:Dt):∀(D:List Dt)(k:Nat),fk kc (kc d) D=none->mput (mkM kc g k D) (kc d) (g (k+D.length))=mkM kc g k (D++[d])
 | [],k,_=>rfl
 |e::r,k,h=>by
  rw[fk]at h;split at h;·cases h
  ·rename_i hne;rw[mkM,mput];show (bif kc e==kc d then _ else _)=_;rw[amE,decide_eq_false hne,cond_false];have:=SV kc g d r (k+1) (by simpa using h);rw[show k+(e::r).length=k+1+r.length by simp;omega,this];rfl
theorem SX(kc:Dt->ByteArray)(g:Nat->Dt)(d:Dt):∀(D:List Dt)(k i:Nat)(h:i<D.length),kc D[i]=kc d->mkM kc g k (D.set i d)=mkM kc g k D
 | [],_,_,h,_=>by cases h
 |e::r,k,0,h,hk=>by show Dt.agg [.str (kc d),g k]::_=Dt.agg [.str (kc e),g k]::_;rw[show kc e=kc d from hk]
 |e::r,k,i+1,h,hk=>by show _::mkM kc g (k+1) (r.set i d)=_;rw[SX kc g d r (k+1) i (by simpa using h) (by simpa using hk)];rfl
def Df(kc:Dt->ByteArray)(D:List Dt):Prop:=D.Pairwise fun a b=>kc a≠kc b
end Go.Proofs.YtmecfjhdnbgfeaaGreatDoor
namespace Go.Am
open Dt
structure TPO {A:Type} (c:A->A->Int):Prop where
 rng:∀a b,c a b= -1∨c a b=0∨c a b=1
 anti:∀a b,c b a= -c a b
 tr:∀a b d,c a b<=0->c b d<=0->c a d<=0
theorem iJ{X:Type}{x y:Int}{u v:X}(h:x≠y):(bif x !=y then u else v)=u:=by
 have:(x !=y)=true:=by simpa using h
 rw[this];rfl
theorem kS{X:Type}{x y:Int}{u v:X}(h:x=y):(bif x !=y then u else v)=v:=by subst h;simp
namespace TPO
variable{A B:Type}{c c':A->A->Int}
theorem refl(h:TPO c)(a:A):c a a=0:=by have:=h.anti a a;omega
theorem eql(h:TPO c){a b d:A}(e:c a b=0):c a d=c b d:=by have h1:=h.anti a b;have h2:=h.anti a d;have h3:=h.anti b d;have t1:=h.tr a b d;have t2:=h.tr b a d;have t3:=h.tr d a b;have t4:=h.tr d b a;have r1:=h.rng a d;have r2:=h.rng b d;omega
theorem eqr(h:TPO c){a b d:A}(e:c b d=0):c a b=c a d:=by have h1:=h.anti b a;have h2:=h.anti d a;have:=h.eql (d:=a) e;omega
theorem ltl(h:TPO c){a b d:A}(h1:c a b<0)(h2:c b d<=0):c a d<0:=by
 have t:=h.tr a b d (by omega) h2;have r:=h.rng a d;have e:c a d≠0:=fun e=>by have:=h.eql (d:=b) e;have:=h.anti b d;omega
 omega
theorem zero:TPO (fun _ _:A=>0):=⟨fun _ _=> .inr (.inl rfl),fun _ _=>rfl,fun _ _ _ _ _=>Int.le_refl 0⟩
theorem key(h:TPO c)(k:B->A):TPO (fun a b=>c (k a) (k b)):=⟨fun _ _=>h.rng _ _,fun _ _=>h.anti _ _,fun _ _ _=>h.tr _ _ _⟩
theorem lex(h:TPO c)(h':TPO c'):TPO (fun a b=>bif c a b !=0 then c a b else c' a b):=by
 have ev:∀a b,(c a b=0∧(bif c a b !=0 then c a b else c' a b)=c' a b)∨(c a b≠0∧(bif c a b !=0 then c a b else c' a b)=c a b):=fun a b=>by
  by_cases e:c a b=0;·exact .inl ⟨e,kS e⟩
  ·exact .inr ⟨e,iJ e⟩
 refine⟨fun a b=>?_,fun a b=>?_,fun a b d h1 h2=>?_⟩
 ·rcases ev a b with⟨_,e⟩| ⟨_,e⟩;·rw[e];exact h'.rng a b
  ·rw[e];exact h.rng a b
 ·have h1:=h.anti a b;have h2:=h'.anti a b;rcases ev a b with⟨e0,e⟩| ⟨e0,e⟩<;>rcases ev b a with⟨f0,f⟩| ⟨f0,f⟩<;>rw[e,f]<;>omega
 ·rcases ev a b with⟨e0,e⟩| ⟨e0,e⟩<;>rcases ev b d with⟨f0,f⟩| ⟨f0,f⟩<;>rw[e]at h1<;>rw[f]at h2
  ·have g:=h.eql (d:=d) e0;rcases ev a d with⟨g0,g'⟩| ⟨g0,g'⟩;·rw[g'];exact h'.tr a b d h1 h2
   ·omega
  ·have g:=h.eql (d:=d) e0;rcases ev a d with⟨g0,g'⟩| ⟨g0,g'⟩;·omega
   ·rw[g'];omega
  ·have g:=h.eqr (a:=a) f0;rcases ev a d with⟨g0,g'⟩| ⟨g0,g'⟩;·omega
   ·rw[g'];omega
  ·have g:=h.ltl (d:=d) (show c a b<0 by omega) h2;rcases ev a d with⟨g0,g'⟩| ⟨g0,g'⟩;·omega
   ·rw[g'];omega
theorem neg(h:TPO c):TPO (fun a b=> -c a b):=⟨fun a b=>by have:=h.rng a b;omega,fun a b=>by have:=h.anti a b;omega,fun a b d h1 h2=>by have a1:=h.anti a b;have a2:=h.anti b d;have a3:=h.anti a d;have:=h.tr d b a (by omega) (by omega);omega⟩
end TPO
def jH(a b:Int):Int:=bif decide (a<b)then -1 else bif decide (b<a)then 1 else 0
theorem bY(a b:Int):(a<b∧jH a b= -1)∨(a=b∧jH a b=0)∨(b<a∧jH a b=1):=by
 unfold jH;by_cases h:a<b;·exact .inl ⟨h,by simp[h]⟩
 ·by_cases h2:b<a;·exact .inr (.inr ⟨h2,by simp[h,h2]⟩)
  ·exact .inr (.inl ⟨by omega,by simp[h,h2]⟩)
theorem ab1:TPO jH:=⟨fun a b=>by rcases bY a b with⟨_,h⟩| ⟨_,h⟩| ⟨_,h⟩<;>omega,fun a b=>by
 rcases bY a b with⟨h1,h⟩| ⟨h1,h⟩| ⟨h1,h⟩<;>rcases bY b a with⟨g1,g⟩| ⟨g1,g⟩| ⟨g1,g⟩<;>omega,fun a b d h1 h2=>by
 rcases bY a b with⟨p1,p⟩| ⟨p1,p⟩| ⟨p1,p⟩<;>rcases bY b d with⟨g1,g⟩| ⟨g1,g⟩| ⟨g1,g⟩<;>rcases bY a d with⟨q1,q⟩| ⟨q1,q⟩| ⟨q1,q⟩<;>omega⟩
def cmpL{A:Type}(c:A->A->Int):List A->List A->Int
 |a::r,b::s=>bif c a b !=0 then c a b else cmpL c r s
 | [],[]=>0
 | [],_::_=> -1
 |_::_,[]=>1
theorem asV{A:Type}{c:A->A->Int}(h:TPO c):TPO (cmpL c):=by
 have hd:∀(a b:A)(r s:List A),(c a b=0∧cmpL c (a::r) (b::s)=cmpL c r s)∨(c a b≠0∧cmpL c (a::r) (b::s)=c a b):=fun a b r s=>by
  by_cases e:c a b=0;·exact .inl ⟨e,kS e⟩
  ·exact .inr ⟨e,iJ e⟩
 have hanti:∀a b,cmpL c b a= -cmpL c a b:=by
  intro a;induction a with
  |nil=>intro b;cases b<;>rfl
  |cons x a ih=>
   intro b;cases b with
   |nil=>rfl
   |    cons y b=>
        have:=ih b;have:=h.anti x y;rcases hd x y a b with⟨e0,e⟩| ⟨e0,e⟩<;>rcases hd y x b a with⟨f0,f⟩| ⟨f0,f⟩<;>rw[e,f]<;>omega
 refine⟨?_,hanti,?_⟩
 ·intro a;induction a with
  |nil=>intro b;cases b<;>simp[cmpL]
  |cons x a ih=>
   intro b;cases b with
   |nil=>simp[cmpL]
   |    cons y b=>
        rcases hd x y a b with⟨_,e⟩| ⟨_,e⟩;·rw[e];exact ih b
        ·rw[e];exact h.rng x y
 ·intro  a;induction a with
  |nil=>
   intro b d h1 h2;cases d with
   |nil=>exact Int.le_refl 0
   |cons z d=>simp[cmpL]
  |cons x a ih=>
   intro b d h1 h2;cases b with
   |nil=>simp[cmpL]at h1
   |    cons y b=>
        cases d with
        |nil=>simp[cmpL]at h2
        |cons z d=>
         rcases hd x y a b with⟨e0,e⟩| ⟨e0,e⟩<;>rcases hd y z b d with⟨f0,f⟩| ⟨f0,f⟩<;>rw[e]at h1<;>rw[f]at h2
         ·have g:=h.eql (d:=z) e0;rcases hd x z a d with⟨g0,g'⟩| ⟨g0,g'⟩;·rw[g'];exact ih b d h1 h2
          ·omega
         ·have g:=h.eql (d:=z) e0;rcases hd x z a d with⟨g0,g'⟩| ⟨g0,g'⟩;·omega
          ·rw[g'];omega
         ·have g:=h.eqr (a:=x) f0;rcases hd x z a d with⟨g0,g'⟩| ⟨g0,g'⟩;·omega
          ·rw[g'];omega
         ·have g:=h.ltl (d:=z) (show c x y<0 by omega) h2;rcases hd x z a d with⟨g0,g'⟩| ⟨g0,g'⟩;·omega
          ·rw[g'];omega
theorem qj{A:Type}{c c':A->A->Int}:∀{l r:List A},(∀a∈l,∀b∈r,c a b=c' a b)->cmpL c l r=cmpL c' l r
 | [],[],_=>rfl
 | [],_::_,_=>rfl
 |_::_,[],_=>rfl
 |a::l,b::r,h=>by simp only[cmpL,h a (by simp) b (by simp),qj (l:=l) (r:=r) fun x hx y hy=>h x (by simp[hx]) y (by simp[hy])]
theorem asW{A:Type}(k:A->Int)(f:Int->A->A->Int)(h:∀i,TPO (f i)):TPO (fun a b=>bif k a !=k b then jH (k a) (k b)else f (k a) a b):=by
 have ev:∀a b,(k a=k b∧(bif k a !=k b then jH (k a) (k b)else f (k a) a b)=f (k a) a b)∨(k a≠k b∧(bif k a !=k b then jH (k a) (k b)else f (k a) a b)=jH (k a) (k b)):=fun a b=>by
  by_cases e:k a=k b;·exact .inl ⟨e,kS e⟩
  ·exact .inr ⟨e,iJ e⟩
 refine⟨fun a b=>?_,fun a b=>?_,fun a b d h1 h2=>?_⟩
 ·rcases ev a b with⟨_,e⟩| ⟨_,e⟩;·rw[e];exact(h _).rng a b
  ·rw[e];exact ab1.rng _ _
 ·rcases ev a b with⟨e0,e⟩| ⟨e0,e⟩<;>rcases ev b a with⟨f0,g⟩| ⟨f0,g⟩<;>rw[e,g];·rw[←e0];exact(h _).anti a b
  ·exact absurd e0.symm f0
  ·exact absurd f0.symm e0
  ·exact ab1.anti _ _
 ·rcases ev a b with⟨e0,e⟩| ⟨e0,e⟩<;>rcases ev b d with⟨f0,g⟩| ⟨f0,g⟩<;>rcases ev a d with⟨g0,g'⟩| ⟨g0,g'⟩<;>rw[e]at h1<;>rw[g]at h2<;>rw[g'];·rw[←e0]at h2;exact(h _).tr a b d h1 h2
  ·exact absurd (e0.trans f0) g0
  ·exact absurd (e0.symm.trans g0) f0
  ·rw[e0];exact h2
  ·exact absurd (g0.trans f0.symm) e0
  ·rw[←f0];exact h1
  ·have c1:=bY (k a) (k b);have c2:=bY (k b) (k d);omega
  ·exact ab1.tr _ _ _ h1 h2
def BH(a b:UInt8):Int:=jH (a.toNat:Int) (b.toNat:Int)
theorem xO:∀l r:List UInt8,Lib.compareBytes l r=cmpL BH l r
 | [],[]=>rfl
 | [],_::_=>rfl
 |_::_,[]=>rfl
 |a::l,b::r=>by
  simp only[Lib.compareBytes,cmpL,xO l r];have hab:a<b↔a.toNat<b.toNat:=UInt8.lt_iff_toNat_lt;have hba:b<a↔b.toNat<a.toNat:=UInt8.lt_iff_toNat_lt;rcases bY (a.toNat:Int) (b.toNat:Int)with⟨h,e⟩| ⟨h,e⟩| ⟨h,e⟩
  ·have h1:a<b:=hab.2 (by omega);have e':BH a b= -1:=e;simp[h1,e']
  ·have h1:¬a<b:=fun x=>by have:=hab.1 x;omega
   have h2:¬b<a:=fun x=>by have:=hba.1 x;omega
   have e':BH a b=0:=e;simp[h1,h2,e']
  ·have h1:¬a<b:=fun x=>by have:=hab.1 x;omega
   have h2:b<a:=hba.2 (by omega);have e':BH a b=1:=e;simp[h1,h2,e']
def lN(a b:ByteArray):Int:=Lib.compareBytes a.data.toList b.data.toList
theorem auT:TPO lN:=by
 have h:TPO (fun a b:ByteArray=>cmpL BH a.data.toList b.data.toList):=(asV (ab1.key fun u:UInt8=>(u.toNat:Int))).key (fun a:ByteArray=>a.data.toList);have e:lN=fun a b:ByteArray=>cmpL BH a.data.toList b.data.toList:=by funext a b;exact xO _ _
 rw[e];exact h
def xD(c:Dt->Dt->Int)(f g:Dt):Int:=bif lN (S f 0) (S g 0) !=0 then lN (S f 0) (S g 0)else c (fld f 1) (fld g 1)
def WJ(c:Dt->Dt->Int)(k:Int)(a b:Dt):Int:=
 bif (k==3||k==9||k==10)then jH (I a 1) (I b 1)
 else bif (k==4||k==7||k==8)then lN (S a 2) (S b 2)
 else bif k==6 then cmpL c (L a 3) (L b 3)
 else bif k==5 then cmpL (xD c) (L a 4) (L b 4)else 0
def iq:Nat->Dt->Dt->Int
 |0,_,_=>0
 |n+1,a,b=>bif (I a 0 !=I b 0)then jH (I a 0) (I b 0)else WJ (iq n) (I a 0) a b
theorem amF:∀n,TPO (iq n)
 |0=>TPO.zero
 |n+    1=>by
  have ih:=amF n;have hF:TPO (xD (iq n)):=(auT.key fun f=>S f 0).lex (ih.key fun f=>fld f 1);refine asW (fun a=>I a 0) (fun k=>WJ (iq n) k) fun k=>?_;unfold WJ;cases (k==3||k==9||k==10)
  ·cases (k==4||k==7||k==8)
   ·    cases k==6
        ·cases k==5;·exact TPO.zero
         ·exact(asV hF).key fun a=>L a 4
        ·exact(asV ih).key fun a=>L a 3
   ·exact auT.key fun a=>S a 2
  ·exact ab1.key fun a=>I a 1
end Go.Am
namespace Go.Am.Srt
variable{A:Type}(lt:A->A->Bool)
structure SWO:Prop where
 irr:∀x,lt x x=false
 tr:∀x y z,lt x y=true->lt y z=true->lt x z=true
 ntr:∀x y z,lt x y=false->lt y z=false->lt x z=false
variable{lt}
end Go.Am.Srt
namespace Go.Proofs.YtmecfjhdnbgfeaaGreatDoor
open Go.Am Dt
theorem Qp{c c':Dt->Dt->Int}{f g:Dt}(h:c (fld f 1) (fld g 1)=c' (fld f 1) (fld g 1)):xD c f g=xD c' f g:=by unfold xD;rw[h]
theorem uX:∀(n n':Nat)(a b:Dt),a.bulk<=n->a.bulk<=n'->iq n a b=iq n' a b
 |0,_,a,_,h,_=>by have:=gq a;omega
 |_,0,a,_,_,h=>by have:=gq a;omega
 |n+1,n'+1,a,b,h,h'=>by
  simp only[iq];congr 1;unfold WJ;rw[qj (l:=L a 3) (c:=iq n) (c':=iq n') fun x hx y _=>uX n n' x y (by have:=lg hx;omega) (by have:=lg hx;omega),
   qj (l:=L a 4) (c:=xD (iq n)) (c':=xD (iq n')) fun x hx y _=>Qp (uX n n' _ _ (by have:=lg hx;have:=iQ x 1;omega) (by have:=lg hx;have:=iQ x 1;omega))]
def iT(a b:Dt):Int:=iq (a.bulk+b.bulk) a b
theorem Qq{n:Nat}{a b:Dt}(h:a.bulk<=n):iq n a b=iT a b:=uX _ _ _ _ h (by omega)
theorem ayk:TPO iT:=by
 have e:∀(a b:Dt)(n:Nat),a.bulk<=n->iT a b=iq n a b:=fun a b n h=>(Qq h).symm;refine⟨fun a b=>?_,fun a b=>?_,fun a b d h1 h2=>?_⟩;·exact(amF _).rng a b
 ·rw[e a b (a.bulk+b.bulk) (by omega),e b a (a.bulk+b.bulk) (by omega)];exact(amF _).anti a b
 ·rw[e a b (a.bulk+b.bulk+d.bulk) (by omega)]at h1;rw[e b d (a.bulk+b.bulk+d.bulk) (by omega)]at h2;rw[e a d (a.bulk+b.bulk+d.bulk) (by omega)];exact(amF _).tr a b d h1 h2
theorem Ip(m:Nat)(a b:Int):zJ (m+2) a b=some (jH a b):=by
 have e:∀x:Int,(x !=x)=false:=fun x=>by simp
 simp only[zJ,yP,ah,e,cond_false,aa2,aa3,aa4,aa5,aa6,jH];cases decide (a<b)<;>cases decide (b<a)<;>rfl
theorem asX{A:Type}{c:A->A->Int}:∀{l r:List A},(l=[]∨r=[])->cmpL c l r=jH (l.length:Int) (r.length:Int)
 | [],[],_=>rfl
 | [],_::r,_=>by
   show (-1:Int)=_;rcases bY (([]:List A).length:Int) ((‹A› ::r).length:Int)with⟨_,e⟩| ⟨h,e⟩| ⟨h,e⟩;·rw[e]
   ·simp at h;omega
   ·simp at h;omega
 | _::l,[],_=>by
   show (1:Int)=_;rcases bY ((‹A› ::l).length:Int) (([]:List A).length:Int)with⟨h,e⟩| ⟨h,e⟩| ⟨_,e⟩;·simp at h;omega
   ·simp at h;omega
   ·rw[e]
 |_::_,_::_,h=>by simp at h
theorem Qr(a b k:Int):jH (a+k) (b+k)=jH a b:=by rcases bY a b with⟨h,e⟩| ⟨h,e⟩| ⟨h,e⟩<;>rcases bY (a+k) (b+k)with⟨g,f⟩| ⟨g,f⟩| ⟨g,f⟩<;>omega
theorem je{A:Type}{c:A->A->Int}{l r:List A}{i:Nat}(hl:i<=l.length)(hr:i<=r.length)(h:i=l.length∨i=r.length):cmpL c (l.drop i) (r.drop i)=jH (l.length:Int) (r.length:Int):=by
 rw[asX];·rw[List.length_drop,List.length_drop,show ((l.length:Nat):Int)=((l.length-i:Nat):Int)+i by omega,show ((r.length:Nat):Int)=((r.length-i:Nat):Int)+i by omega,Qr]
 ·rcases h with h|h;·exact .inl (List.drop_eq_nil_of_le (by omega))
  ·exact .inr (List.drop_eq_nil_of_le (by omega))
theorem SY(m:Nat)(self:Dt->Dt->Option Int)(c:Dt->Dt->Int)(a b:Dt)(hl:(L a 3).length<1000000000000)(hs:∀x∈L a 3,∀y,self x y=some (c x y)):∀(M i:Nat),i<=(L a 3).length->i<=(L b 3).length->min (L a 3).length (L b 3).length-i<M->
  EI (m+2) self M ((min (L a 3).length (L b 3).length:Nat):Int) (i:Int) a b=some (cmpL c ((L a 3).drop i) ((L b 3).drop i))
 |0,i,_,_,h=>by omega
 |M+1,i,hi,hi2,h=>by
  simp only[EI,dlt];by_cases h1:i<min (L a 3).length (L b 3).length
  ·have ha:i<(L a 3).length:=by omega
   have hb:i<(L b 3).length:=by omega
   simp only[h1,decide_true,cond_true,aa8,aa7,bg ha,bg hb,ah,hs _ (aD ha),bF (show i<9223372036854775807 by omega)];rw[SY m self c a b hl hs M (i+1) (by omega) (by omega) (by omega),ay ha,ay hb];simp only[cmpL];cases (c (L a 3)[i] (L b 3)[i] !=0)<;>rfl
  ·simp only[h1,decide_false,cond_false,aa9,Ip,ah];rw[je hi hi2 (by omega)]
theorem Ta(m:Nat)(self:Dt->Dt->Option Int)(c:Dt->Dt->Int)(a b:Dt)(hl:(L a 4).length<1000000000000)(hs:∀x∈L a 4,∀y,self (fld x 1) (fld y 1)=some (c (fld x 1) (fld y 1))):∀(M i:Nat),i<=(L a 4).length->i<=(L b 4).length->min (L a 4).length (L b 4).length-i<M->
  EJ (m+2) self M ((min (L a 4).length (L b 4).length:Nat):Int) (i:Int) a b=some (cmpL (xD c) ((L a 4).drop i) ((L b 4).drop i))
 |0,i,_,_,h=>by omega
 |M+    1,i,hi,hi2,h=>by
  simp only[EJ,dlt];by_cases h1:i<min (L a 4).length (L b 4).length
  ·have ha:i<(L a 4).length:=by omega
   have hb:i<(L b 4).length:=by omega
   simp only[h1,decide_true,cond_true,PX,PW,PV,bg ha,bg hb,ah,strings_Compare,hs _ (aD ha),bF (show i<9223372036854775807 by omega)];rw[Ta m self c a b hl hs M (i+1) (by omega) (by omega) (by omega),ay ha,ay hb];simp only[cmpL,xD,lN];by_cases e1:Lib.compareBytes (S (L a 4)[i] 0).data.toList (S (L b 4)[i] 0).data.toList=0
   ·    rw[kS e1,kS e1];by_cases e2:c (fld (L a 4)[i] 1) (fld (L b 4)[i] 1)=0;·rw[kS e2,kS e2]
        ·rw[iJ e2,iJ e2]
   ·rw[iJ e1,iJ e1,iJ e1]
  ·simp only[h1,decide_false,cond_false,PY,Ip,ah];rw[je hi hi2 (by omega)]
theorem amG(x y:Nat):(bif decide ((y:Int)<(x:Int))then(y:Int)else(x:Int))=((min x y:Nat):Int):=by
 rw[dlt];by_cases h:y<x;·simp only[h,decide_true,cond_true];omega
 ·simp only[h,decide_false,cond_false];omega
theorem amH(m:Nat)(self:Dt->Dt->Option Int)(a b:Dt):JU m self a b=
  bif (I a 0==3||I a 0==9||I a 0==10)then zJ m (I a 1) (I b 1)
  else bif (I a 0==4||I a 0==7||I a 0==8)then strings_Compare (S a 2) (S b 2)
  else bif I a 0==6 then Sl m self ((min (L a 3).length (L b 3).length:Nat):Int) 0 a b
  else bif I a 0==5 then Sm m self ((min (L a 4).length (L b 4).length:Nat):Int) 0 a b else PZ m self:=by
 have hb:∀x:Option Int,(x.bind fun r=>some r)=x:=fun x=>by cases x<;>rfl
 simp only[JU,JR,JQ,amG,hb];cases (I a 0==3)<;>cases (I a 0==9)<;>cases (I a 0==10)<;>cases (I a 0==4)<;>cases (I a 0==7)<;>cases (I a 0==8)<;>rfl
theorem Iq:∀(n:Nat)(a b:Dt),a.bulk<=n->n<1000000000000->∀m,n<=m->qE (m+3) a b=some (iq n a b)
 |0,a,_,h,_,_,_=>by have:=gq a;omega
 |n+    1,a,b,h,hn,m,hm=>by
  obtain⟨m,rfl⟩:∃k,m=k+1:=⟨m-1,by omega⟩;have h3:=kE a 3;have h4:=kE a 4;have e3:=SY (m+1) (qE (m+3)) (iq n) a b (by omega) (fun x hx y=>Iq n x y (by have:=lg hx;omega) (by omega) m (by omega)) (m+4) 0 (aN _) (aN _) (by omega);have e4:=Ta (m+1) (qE (m+3)) (iq n) a b (by omega) (fun x hx y=>Iq n _ _ (by have:=lg hx;have:=iQ x 1;omega) (by omega) m (by omega)) (m+4) 0 (aN _) (aN _) (by omega);rw[aK,aK]at e3 e4;have e3':Sl (m+3) (qE (m+3)) ((min (L a 3).length (L b 3).length:Nat):Int) 0 a b=_:=e3;have e4':Sm (m+3) (qE (m+3)) ((min (L a 4).length (L b 4).length:Nat):Int) 0 a b=_:=e4;show (bif (I a 0 !=I b 0)then(zJ (m+3) (I a 0) (I b 0)).bind (fun r=>some r)else JU (m+3) (qE (m+3)) a b)=_;simp only[amH,show m+3=(m+1)+2 from rfl,Ip,iq,ah];cases (I a 0 !=I b 0)
  ·simp only[cond_false,WJ];cases (I a 0==3||I a 0==9||I a 0==10)
   ·    cases (I a 0==4||I a 0==7||I a 0==8)
        ·cases (I a 0==6)
         ·cases (I a 0==5);·rfl
          ·exact e4'
         ·exact e3'
        ·rfl
   ·rfl
  ·rfl
theorem asY(a b:Dt)(m:Nat)(hm:a.bulk<=m)(hm2:a.bulk<1000000000000):qE (m+3) a b=some (iT a b):=by rw[Iq a.bulk a b (aL _) hm2 m hm,Qq (aL _)]
theorem amI{a b:Dt}{n n':Nat}(ha:WV a)(hb:WV b)(sa:bX nm n a=true)(sb:bX nm n' b=true)(hk:I a 0=I b 0)
  (h1:I a 0=3∨I a 0=9∨I a 0=10->I a 1=I b 1)(h2:I a 0=4∨I a 0=7∨I a 0=8->S a 2=S b 2)(h3:I a 0=6->L a 3=L b 3)(h4:I a 0=5->L a 4=L b 4):a=b:=by
 have za:=(jZ sa).1;have zb:=(jZ sb).1;unfold shp at za zb;rw[←hk]at zb;simp only[aJ,Bool.or_eq_true,beq_iff_eq]at za zb;have e1:I a 1=I b 1:=by
  by_cases h:I a 0=3∨I a 0=9∨I a 0=10;·exact h1 h
  ·omega
 have e2:S a 2=S b 2:=by
  by_cases h:I a 0=4∨I a 0=7∨I a 0=8;·exact h2 h
  ·have x:=za.1.1.2.resolve_left (by omega);have y:=zb.1.1.2.resolve_left (by omega);rw[sz0 (s:=S a 2) (by simp[x]),sz0 (s:=S b 2) (by simp[y])]
 have e3:L a 3=L b 3:=by
  by_cases h:I a 0=6;·exact h3 h
  ·rw[xH (za.1.2.resolve_left h),xH (zb.1.2.resolve_left h)]
 have e4:L a 4=L b 4:=by
  by_cases h:I a 0=5;·exact h4 h
  ·rw[xH (za.2.resolve_left h),xH (zb.2.resolve_left h)]
 cases ha with
 |mk _ _=>cases hb with
  |mk _ _=>
   simp only[I,S,L,fld,toInt,toStr,toLst,List.getD_cons_zero,List.getD_cons_succ]at hk e1 e2 e3 e4;subst hk e1 e2 e3 e4;rfl
theorem ab2{a b:Int}(h:jH a b=0):a=b:=by rcases bY a b with⟨_,e⟩| ⟨e,_⟩| ⟨_,e⟩<;>omega
theorem Tc{A:Type}{c:A->A->Int}:∀{l r:List A},(∀a∈l,∀b∈r,c a b=0->a=b)->cmpL c l r=0->l=r
 | [],[],_,_=>rfl
 | [],_::_,_,h=>by cases h
 |_::_,[],_,h=>by cases h
 |a::l,b::r,hc,h=>by
  rw[cmpL]at h;by_cases h0:c a b=0
  ·have e:(c a b !=0)=false:=by rw[h0];rfl
   rw[e,cond_false]at h;rw[hc a aZ b aZ h0,Tc (fun x hx y hy=>hc x (aY _ hx) y (aY _ hy)) h]
  ·have e:(c a b !=0)=true:=by simpa using h0
   rw[e,cond_true]at h;exact absurd h h0
theorem cmpT0{a b:ByteArray}(h:lN a b=0):a=b:=by
 unfold lN at h;rw[xO]at h;have:=Tc (fun x _ y _ h=>by have:=ab2 h;exact UInt8.toNat_inj.1 (by omega)) h
 cases a;cases b
 simp only[ByteArray.mk.injEq];exact Array.toList_inj.1 this
theorem cmp0:∀(N:Nat)(a b:Dt)(n n':Nat),WV a->WV b->bX nm n a=true->bX nm n' b=true->a.bulk<=N->iq N a b=0->a=b
 |0,a,_,_,_,_,_,_,_,h,_=>by have:=bV a;omega
 |N+1,a,b,0,_,_,_,h,_,_,_=>by cases h
 |N+1,a,b,_+1,0,_,_,_,h,_,_=>by cases h
 |N+    1,a,b,n+1,n'+1,ha,hb,sa,sb,ba,h=>by
  rw[iq]at h;have hk:I a 0=I b 0:=by
   by_cases h0:I a 0=I b 0;·exact h0
   ·    have e:(I a 0 !=I b 0)=true:=by simpa using h0
        rw[e,cond_true]at h;exact ab2 h
  have e:(I a 0 !=I b 0)=false:=by rw[hk];simp
  rw[e,cond_false]at h;obtain⟨pa1,pa2,pa3,pa4⟩:=bU ha;obtain⟨pb1,pb2,pb3,pb4⟩:=bU hb;refine amI ha hb sa sb hk (fun hc=>?_) (fun hc=>?_) (fun hc=>?_) (fun hc=>?_);·rcases hc with hc|hc|hc<;>(rw[hc]at h;exact ab2 h)
  ·rcases hc with hc|hc|hc<;>(rw[hc]at h;exact cmpT0 h)
  ·have hb6:I b 0=6:=by omega
   rw[hc]at h;rw[bX,aJ,hc]at sa;rw[bX,aJ,hb6]at sb;have ga:(L a 3).all (bX nm n)=true:=sa.2;have gb:(L b 3).all (bX nm n')=true:=sb.2;exact Tc (fun x hx y hy h0=>cmp0 N x y n n' (pa3 x hx).1 (pb3 y hy).1 (List.all_eq_true.1 ga x hx) (List.all_eq_true.1 gb y hy) (by have:=(pa3 x hx).2;omega) h0) h
  ·have hb5:I b 0=5:=by omega
   rw[hc]at h;rw[bX,aJ,hc]at sa;rw[bX,aJ,hb5]at sb;have ga:fl nm (bX nm n) [] (L a 4)=true:=sa.2;have gb:fl nm (bX nm n') [] (L b 4)=true:=sb.2;refine Tc (fun f hf g hg h0=>?_) h;unfold xD at h0;have e0:lN (S f 0) (S g 0)=0:=by
        by_cases h1:lN (S f 0) (S g 0)=0;·exact h1
        ·have e:(lN (S f 0) (S g 0) !=0)=true:=by simpa using h1
         rw[e,cond_true]at h0;exact h0
   rw[e0]at h0;have e1:=cmpT0 e0;have e2:=cmp0 N (fld f 1) (fld g 1) n n' (pa4 f hf).1 (pb4 g hg).1 (lM ga f hf) (lM gb g hg) (by have:=(pa4 f hf).2;omega) h0;cases (iR ha).2.1 f hf with
   |    mk _=>cases (iR hb).2.1 g hg with
        |mk _=>
         simp only[S,fld,toStr,List.getD_cons_zero,List.getD_cons_succ]at e1 e2;rw[e1,e2]
theorem FB{a b:Dt}(ha:WV a)(hb:WV b)(sa:bX nm a.bulk a=true)(sb:bX nm b.bulk b=true):iT a b=0↔a=b:=
 ⟨fun h=>cmp0 _ a b _ _ ha hb sa sb (by omega) h,fun h=>by rw[h];exact ayk.refl b⟩
def iw(d:Dt):Int×Int×ByteArray×List Dt×List Dt:=(I d 0,I d 1,S d 2,L d 3,L d 4)
def BI(d:Dt):Prop:=∃k i t l ds,d= .agg [.int k,.int i,.str t,.lst l,.lst ds]
theorem iA{d:Dt}(h:BI d):agg [.int (iw d).1,.int (iw d).2.1,.str (iw d).2.2.1,.lst (iw d).2.2.2.1,.lst (iw d).2.2.2.2]=d:=by obtain⟨k,i,t,l,ds,rfl⟩:=h;rfl
theorem WV.isVal{d:Dt}(h:WV d):BI d:=by
 cases h with
 |mk hl hd=>exact⟨_,_,_,_,_,rfl⟩
theorem ab3(m:Nat)(self:Dt->Option (Int×Int×ByteArray×List Dt×List Dt))(l:List Dt)(hl:l.length<9223372036854775807)(hs:∀e∈l,BI e∧self e=some (iw e))(z x3 x4:Dt)(x5 x6:Int)(x7:ByteArray)(x9:List Dt):∀(M i:Nat),i<=l.length->l.length-i<M->
  yS m self M l (l.length:Int) (i:Int) x3 x4 x5 x6 x7 (l.take i++List.replicate (l.length-i) z) x9=yR m self x3 x4 x5 x6 x7 l x9
 |0,i,_,h=>by omega
 |M+1,i,hi,h=>by
  simp only[yS,dlt];by_cases hlt:i<l.length
  ·have hx:i<(l.take i++List.replicate (l.length-i) z).length:=by rw[tT l z i hi];exact hlt
   obtain⟨e1,e2⟩:=hs _ (aD hlt);simp only[hlt,decide_true,cond_true,aag,aaf,bg hlt,ah,e2,iA e1,eD hx,Int.toNat_natCast,aB hx,mV l z i hlt,bF (show i<9223372036854775807 by omega)];exact ab3 m self l hl hs z x3 x4 x5 x6 x7 x9 M (i+1) (by omega) (by omega)
  ·have e:i=l.length:=by omega
   subst e;simp
theorem ab4(m:Nat)(self:Dt->Option (Int×Int×ByteArray×List Dt×List Dt))(l:List Dt)(hl:l.length<9223372036854775807)(hf:∀f∈l,∃s v,f= .agg [.str s,v]∧BI v∧self v=some (iw v))(z x3:Dt)(x4 x5:Int)(x6:ByteArray)(x7:List Dt):∀(M i:Nat),i<=l.length->l.length-i<M->
  Em m self M l (l.length:Int) (i:Int) x3 x4 x5 x6 x7 (l.take i++List.replicate (l.length-i) z)=some (x4,x5,x6,x7,l)
 |0,i,_,h=>by omega
 |M+1,i,hi,h=>by
  simp only[Em,dlt];by_cases hlt:i<l.length
  ·have hx:i<(l.take i++List.replicate (l.length-i) z).length:=by rw[tT l z i hi];exact hlt
   obtain⟨s,v,e1,e2,e3⟩:=hf _ (aD hlt);have e5:agg [.str (S l[i] 0),v]=l[i]:=by rw[e1];rfl
   have e4:fld l[i] 1=v:=by rw[e1];rfl
   simp only[hlt,decide_true,cond_true,aai,aah,bg hlt,ah,e4,e3,iA e2,e5,eD hx,Int.toNat_natCast,aB hx,mV l z i hlt,bF (show i<9223372036854775807 by omega)];exact ab4 m self l hl hf z x3 x4 x5 x6 x7 M (i+1) (by omega) (by omega)
  ·have e:i=l.length:=by omega
   subst e;simp[R3]
theorem asZ(m:Nat)(self:Dt->Option (Int×Int×ByteArray×List Dt×List Dt))(d x4:Dt)(x5 x6:Int)(x7:ByteArray)(x8:List Dt)(hm:(L d 4).length<=m)(hl:(L d 4).length<=137438953472)(hf:∀f∈L d 4,∃s v,f= .agg [.str s,v]∧BI v∧self v=some (iw v)):
  yR m self d x4 x5 x6 x7 x8 []=some (x5,x6,x7,x8,L d 4):=by
 unfold yR;by_cases h0:0<(L d 4).length
 ·have e0:decide ((0:Int)<(((L d 4).length:Nat):Int))=true:=by simp;omega
  rw[e0];simp only[cond_true];rw[nG hl,ah];have key:=fun z=>ab4 m self (L d 4) (by omega) hf z x4 x5 x6 x7 x8 (Nat.succ m) 0 (by omega) (by omega);simp only[List.take_zero,List.nil_append,Nat.sub_zero]at key;exact key _
 ·have e0:decide ((0:Int)<(((L d 4).length:Nat):Int))=false:=by rw[decide_eq_false_iff_not];omega
  have e1:L d 4=[]:=List.length_eq_zero_iff.1 (by omega);rw[e0,e1];rfl
theorem BJ:∀(N:Nat)(d:Dt),d.bulk<=N->N<=137438953472->WV d->∀m,N<=m->qK (m+1) d=some (iw d)
 |0,d,h,_,_,_,_=>by have:=bV d;omega
 |N +   1,d,h,hN,hw,m,hm=>by
  cases hw with
  | @mk   k i t l ds hl hd=>
    rw[dS]at h;obtain⟨m,rfl⟩:∃q,m=q+1:=⟨m-1,by omega⟩;have hself:∀e∈l,BI e∧qK (m+1) e=some (iw e):=fun e he=>⟨(hl e he).isVal,BJ N e (by have:=dh he;omega) (by omega) (hl e he) m (by omega)⟩;have hfld:∀f∈ds,∃s v,f= .agg [.str s,v]∧BI v∧qK (m+1) v=some (iw v):=fun f hf=>by
        have hb:=dh hf;cases hd f hf with
        | @mk s v hv=>
          rw[gV]at hb;exact⟨s,v,rfl,hv.isVal,BJ N v (by omega) (by omega) hv m (by omega)⟩
    have hl1:=dx l;have hd1:=dx ds;have key4:=fun(x4:Dt)(x8:List Dt)=>asZ (m+1) (qK (m+1)) (.agg [.int k,.int i,.str t,.lst l,.lst ds]) x4 k i t x8 (show ds.length<=m+1 by omega) (show ds.length<=137438953472 by omega) hfld;show (bif (decide ((0:Int)<((l.length:Nat):Int)))then _ else _)=_;by_cases h0:0<l.length
    ·   have e0:decide ((0:Int)<((l.length:Nat):Int))=true:=by simp;omega
        have key:=fun(x3 x4:Dt)(z:Dt)=>ab3 (m+1) (qK (m+1)) l (by omega) hself z x3 x4 k i t [] (m+2) 0 (by omega) (by omega);simp only[List.take_zero,List.nil_append,Nat.sub_zero]at key;rw[e0];simp only[cond_true];show Option.bind (mkL ((l.length:Nat):Int) ((l.length:Nat):Int) _) _=_;rw[nG (by omega),ah];show yS (m+1) (qK (m+1)) (m+2) l ((l.length:Nat):Int) ((0:Nat):Int) _ _ k i t _ _=_;rw[key,key4];rfl
    ·   have e0:decide ((0:Int)<((l.length:Nat):Int))=false:=by rw[decide_eq_false_iff_not];omega
        have e3:l=[]:=List.length_eq_zero_iff.1 (by omega);rw[e0];simp only[cond_false];show yR (m+1) (qK (m+1)) _ _ k i t [] []=_;rw[key4,e3];rfl
theorem FC(m:Nat)(self:Dt->Option Dt)(l:List Dt)(hl:l.length<9223372036854775807)(hs:∀e∈l,self e=some e)(z x3 x4:Dt)(x5 x6:Int)(x7:ByteArray):∀(M i:Nat),i<=l.length->l.length-i<M->
  yx m self M l (l.length:Int) (i:Int) x3 x4 x5 x6 x7 (l.take i++List.replicate (l.length-i) z)=Z7 m self x3 x4 x5 x6 x7 l
 |0,i,_,h=>by omega
 |M+1,i,hi,h=>by
  simp only[yx,dlt];by_cases hlt:i<l.length
  ·have hx:i<(l.take i++List.replicate (l.length-i) z).length:=by rw[tT l z i hi];exact hlt
   simp only[hlt,decide_true,cond_true,ZY,ZX,bg hlt,ah,hs _ (aD hlt),eD hx,Int.toNat_natCast,aB hx,mV l z i hlt,bF (show i<9223372036854775807 by omega)];exact FC m self l hl hs z x3 x4 x5 x6 x7 M (i+1) (by omega) (by omega)
  ·have e:i=l.length:=by omega
   subst e;simp
theorem FD(m:Nat)(self:Dt->Option Dt)(l:List Dt)(hl:l.length<9223372036854775807)(hf:∀f∈l,∃s v,f= .agg [.str s,v]∧self v=some v)(z x3:Dt)(x4 x5:Int)(x6:ByteArray)(x7:List Dt):∀(M i:Nat),i<=l.length->l.length-i<M->
  Ei m self M l (l.length:Int) (i:Int) x3 x4 x5 x6 x7 (l.take i++List.replicate (l.length-i) z)=some (.agg [.int x4,.int x5,.str x6,.lst x7,.lst l])
 |0,i,_,h=>by omega
 |M+1,i,hi,h=>by
  simp only[Ei,dlt];by_cases hlt:i<l.length
  ·have hx:i<(l.take i++List.replicate (l.length-i) z).length:=by rw[tT l z i hi];exact hlt
   obtain⟨s,v,e1,e2⟩:=hf _ (aD hlt);have e3:agg [.str (S l[i] 0),v]=l[i]:=by rw[e1];rfl
   have e4:fld l[i] 1=v:=by rw[e1];rfl
   simp only[hlt,decide_true,cond_true,Z4,Z0,bg hlt,ah,e4,e2,e3,eD hx,Int.toNat_natCast,aB hx,mV l z i hlt,bF (show i<9223372036854775807 by omega)];exact FD m self l hl hf z x3 x4 x5 x6 x7 M (i+1) (by omega) (by omega)
  ·have e:i=l.length:=by omega
   subst e;simp[Z5]
theorem BK(m:Nat)(self:Dt->Option Dt)(l:List Dt)(hl:l.length<9223372036854775807)(hf:∀f∈l,∃s v,f= .agg [.str s,v]∧self v=some v)(z x3:Dt)(x4 x5:Int)(x6:ByteArray)(x7:List Dt):∀(M i:Nat),i<=l.length->l.length-i<M->
  uf m self M l (l.length:Int) (i:Int) x3 x4 x5 x6 x7 (l.take i++List.replicate (l.length-i) z)=some (.agg [.int x4,.int x5,.str x6,.lst x7,.lst l])
 |0,i,_,h=>by omega
 |M+1,i,hi,h=>by
  simp only[uf,dlt];by_cases hlt:i<l.length
  ·have hx:i<(l.take i++List.replicate (l.length-i) z).length:=by rw[tT l z i hi];exact hlt
   obtain⟨s,v,e1,e2⟩:=hf _ (aD hlt);have e3:agg [.str (S l[i] 0),v]=l[i]:=by rw[e1];rfl
   have e4:fld l[i] 1=v:=by rw[e1];rfl
   simp only[hlt,decide_true,cond_true,Pq,Pp,bg hlt,ah,e4,e2,e3,eD hx,Int.toNat_natCast,aB hx,mV l z i hlt,bF (show i<9223372036854775807 by omega)];exact BK m self l hl hf z x3 x4 x5 x6 x7 M (i+1) (by omega) (by omega)
  ·have e:i=l.length:=by omega
   subst e;simp[Pv]
theorem uY:∀(N:Nat)(d:Dt),d.bulk<=N->N<=137438953472->WV d->∀m,N<=m->qJ (m+1) d=some d
 |0,d,h,_,_,_,_=>by have:=bV d;omega
 |N +   1,d,h,hN,hw,m,hm=>by
  cases hw with
  | @mk   k i t l ds hl hd=>
    rw[dS]at h;obtain⟨m,rfl⟩:∃q,m=q+1:=⟨m-1,by omega⟩;have hself:∀e∈l,qJ (m+1) e=some e:=fun e he=>uY N e (by have:=dh he;omega) (by omega) (hl e he) m (by omega);have hfld:∀f∈ds,∃s v,f= .agg [.str s,v]∧qJ (m+1) v=some v:=fun f hf=>by
        have hb:=dh hf;cases hd f hf with
        | @mk s v hv=>
          rw[gV]at hb;exact⟨s,v,rfl,uY N v (by omega) (by omega) hv m (by omega)⟩
    have hl1:=dx l;have hd1:=dx ds;show (bif (decide ((0:Int)<((l.length:Nat):Int)))then _ else _)=_;have key6:=fun(x3:Dt)(x7:List Dt)(z:Dt)=>FD (m+1) (qJ (m+1)) ds (by omega) hfld z x3 k i t x7 (m+2) 0 (by omega) (by omega);have key13:=fun(x3:Dt)(x7:List Dt)(z:Dt)=>BK (m+1) (qJ (m+1)) ds (by omega) hfld z x3 k i t x7 (m+2) 0 (by omega) (by omega);simp only[List.take_zero,List.nil_append,Nat.sub_zero]at key6 key13;by_cases h0:0<l.length
    ·   have e0:decide ((0:Int)<((l.length:Nat):Int))=true:=by simp;omega
        have key:=fun(x3 x4:Dt)(z:Dt)=>FC (m+1) (qJ (m+1)) l (by omega) hself z x3 x4 k i t (m+2) 0 (by omega) (by omega);simp only[List.take_zero,List.nil_append,Nat.sub_zero]at key;rw[e0];simp only[cond_true];show Option.bind (mkL ((l.length:Nat):Int) ((l.length:Nat):Int) _) _=_;rw[nG (by omega),ah];show yx (m+1) (qJ (m+1)) (m+2) l ((l.length:Nat):Int) ((0:Nat):Int) _ _ k i t _=_;rw[key];show (bif (decide ((0:Int)<((ds.length:Nat):Int)))then _ else _)=_;by_cases h1:0<ds.length
        · have e1:decide ((0:Int)<((ds.length:Nat):Int))=true:=by simp;omega
          rw[e1];simp only[cond_true];show Option.bind (mkL ((ds.length:Nat):Int) ((ds.length:Nat):Int) _) _=_;rw[nG (by omega),ah];exact key6 _ _ _
        · have e1:decide ((0:Int)<((ds.length:Nat):Int))=false:=by rw[decide_eq_false_iff_not];omega
          have e2:ds=[]:=List.length_eq_zero_iff.1 (by omega);subst e2;rfl
    ·   have e0:decide ((0:Int)<((l.length:Nat):Int))=false:=by rw[decide_eq_false_iff_not];omega
        have e3:l=[]:=List.length_eq_zero_iff.1 (by omega);subst e3;show (bif (decide ((0:Int)<((ds.length:Nat):Int)))then _ else _)=_;by_cases h1:0<ds.length
        · have e1:decide ((0:Int)<((ds.length:Nat):Int))=true:=by simp;omega
          rw[e1];simp only[cond_true];show Option.bind (mkL ((ds.length:Nat):Int) ((ds.length:Nat):Int) _) _=_;rw[nG (by omega),ah];exact key13 _ _ _
        · have e2:ds=[]:=List.length_eq_zero_iff.1 (by omega);subst e2;rfl
theorem jf(m:Nat)(a b:Int):zS (m+1) a b=some (jH a b):=by simp only[zS,aak,aaj,jH];cases decide (a<b)<;>cases decide (b<a)<;>rfl
theorem BL(m:Nat)(a b:ByteArray)(ha:a.size<1000000000000):∀(M i:Nat),i<=a.size->i<=b.size->a.size-i<M->En (m+1) M a b (i:Int)=some (cmpL BH (a.data.toList.drop i) (b.data.toList.drop i))
 |0,i,_,_,h=>by omega
 |M+    1,i,hi,hi2,h=>by
  have la:a.data.toList.length=a.size:=by rw[Array.length_toList];rfl
  have lb:b.data.toList.length=b.size:=by rw[Array.length_toList];rfl
  simp only[En,dlt];by_cases h1:i<a.size
  ·by_cases h2:i<b.size
   ·    have e1:a.data.toList.drop i=a[i]::a.data.toList.drop (i+1):=by rw[ay (by omega)];rfl
        have e2:b.data.toList.drop i=b[i]::b.data.toList.drop (i+1):=by rw[ay (by omega)];rfl
        have hwr:∀u:UInt8,IntKind.wrap IntKind.i64 (u.toNat:Int)=(u.toNat:Int):=fun u=>wrap64 (by omega) (by have:=u.toNat_lt;omega);simp only[h1,h2,decide_true,cond_true,aam,aal,dW h1,dW h2,ah,hwr,jf,bF (show i<9223372036854775807 by omega)];rw[BL m a b ha M (i+1) (by omega) (by omega) (by omega),e1,e2];simp only[cmpL];by_cases e:((a[i].toNat:Int))=(b[i].toNat:Int)
        ·have e3:BH a[i] b[i]=0:=by
          rcases bY (a[i].toNat:Int) (b[i].toNat:Int)with⟨g,f⟩| ⟨g,f⟩| ⟨g,f⟩;·omega
          ·exact f
          ·omega
         rw[kS e,kS e3]
        ·have e3:BH a[i] b[i]≠0:=by
          rcases bY (a[i].toNat:Int) (b[i].toNat:Int)with⟨g,f⟩| ⟨g,f⟩| ⟨g,f⟩;·intro x;rw[show BH a[i] b[i]= -1 from f]at x;omega
          ·omega
          ·intro x;rw[show BH a[i] b[i]=1 from f]at x;omega
         rw[iJ e,iJ e3];rfl
   ·    have:i=b.size:=by omega
        simp only[h1,h2,decide_true,decide_false,cond_true,cond_false,JG,jf,ah];rw[je (by omega) (by omega) (.inr (by omega)),la,lb]
  ·simp only[h1,decide_false,cond_false,JG,jf,ah];rw[je (by omega) (by omega) (.inl (by omega)),la,lb]
theorem KF(m:Nat)(a b:ByteArray)(hm:a.size<=m)(hm2:m<1000000000000):zK (m+2) a b=some (lN a b):=by have:=BL m a b (by omega) (m+2) 0 (by omega) (by omega) (by omega);rw[lN,xO];exact this
theorem Td(m:Nat)(self:Dt->Dt->Option Int)(c:Dt->Dt->Int)(a b:Dt)(hl:(L a 3).length<1000000000000)(hs:∀x∈L a 3,∀y,self x y=some (c x y)):∀(M i:Nat),i<=(L a 3).length->i<=(L b 3).length->(L a 3).length-i<M->
  Eo (m+1) self M (i:Int) a b=some (cmpL c ((L a 3).drop i) ((L b 3).drop i))
 |0,i,_,_,h=>by omega
 |M+    1,i,hi,hi2,h=>by
  simp only[Eo,dlt];by_cases ha:i<(L a 3).length
  ·by_cases hb:i<(L b 3).length
   ·    simp only[ha,hb,decide_true,cond_true,aao,aan,bg ha,bg hb,ah,hs _ (aD ha),bF (show i<9223372036854775807 by omega)];rw[Td m self c a b hl hs M (i+1) (by omega) (by omega) (by omega),ay ha,ay hb];simp only[cmpL];cases (c (L a 3)[i] (L b 3)[i] !=0)<;>rfl
   ·    simp only[ha,hb,decide_true,decide_false,cond_true,cond_false,JH,jf,ah];rw[je hi hi2 (by omega)]
  ·simp only[ha,decide_false,cond_false,JH,jf,ah];rw[je hi hi2 (by omega)]
theorem Tf(m:Nat)(hm:1<=m)(self:Dt->Dt->Option Int)(c:Dt->Dt->Int)(a b:Dt)(hl:(L a 4).length<1000000000000)(ht:∀x∈L a 4,∀y,zK (m+1) (S x 0) (S y 0)=some (lN (S x 0) (S y 0)))(hs:∀x∈L a 4,∀y,self (fld x 1) (fld y 1)=some (c (fld x 1) (fld y 1))):∀(M i:Nat),i<=(L a 4).length->i<=(L b 4).length->(L a 4).length-i<M->
  Ep (m+1) self M (i:Int) a b=some (cmpL (xD c) ((L a 4).drop i) ((L b 4).drop i))
 |0,i,_,_,h=>by omega
 |M+    1,i,hi,hi2,h=>by
  simp only[Ep,dlt];by_cases ha:i<(L a 4).length
  ·by_cases hb:i<(L b 4).length
   ·    simp only[ha,hb,decide_true,cond_true,Px,Hz,Pw,bg ha,bg hb,ah,ht _ (aD ha),hs _ (aD ha),bF (show i<9223372036854775807 by omega)];rw[Tf m hm self c a b hl ht hs M (i+1) (by omega) (by omega) (by omega),ay ha,ay hb];simp only[cmpL,xD];by_cases e:lN (S (L a 4)[i] 0) (S (L b 4)[i] 0)=0
        ·have e1:(lN (S (L a 4)[i] 0) (S (L b 4)[i] 0)==0)=true:=by simpa using e
         rw[e1];simp only[cond_true];rw[kS e];by_cases e2:c (fld (L a 4)[i] 1) (fld (L b 4)[i] 1)=0;·rw[kS e2,kS e2]
         ·rw[iJ e2,iJ e2]
        ·have e1:(lN (S (L a 4)[i] 0) (S (L b 4)[i] 0)==0)=false:=by simpa using e
         rw[e1];simp only[cond_false];rw[iJ e,iJ e,iJ e]
   ·    simp only[ha,hb,decide_true,decide_false,cond_true,cond_false,yT,jf,ah];rw[je hi hi2 (by omega)]
  ·simp only[ha,decide_false,cond_false,yT,jf,ah];rw[je hi hi2 (by omega)]
theorem amJ(m:Nat)(self:Dt->Dt->Option Int)(a b:Dt):JL m self a b=
  bif (I a 0==3||I a 0==9||I a 0==10)then zS m (I a 1) (I b 1)
  else bif (I a 0==4||I a 0==7||I a 0==8)then zK m (S a 2) (S b 2)
  else bif I a 0==6 then R8 m self 0 a b
  else bif I a 0==5 then R9 m self 0 a b else Py m self:=by
 have hb:∀x:Option Int,(x.bind fun r=>some r)=x:=fun x=>by cases x<;>rfl
 simp only[JL,JK,JJ,hb];cases (I a 0==3)<;>cases (I a 0==9)<;>cases (I a 0==10)<;>cases (I a 0==4)<;>cases (I a 0==7)<;>cases (I a 0==8)<;>rfl
theorem Ir:∀(n:Nat)(a b:Dt),a.bulk<=n->n<900000000000->∀m,n<=m->m<900000000000->qA (m+3) a b=some (iq n a b)
 |0,a,_,h,_,_,_,_=>by have:=gq a;omega
 |n+    1,a,b,h,hn,m,hm,hm2=>by
  obtain⟨m,rfl⟩:∃k,m=k+1:=⟨m-1,by omega⟩;have h3:=kE a 3;have h4:=kE a 4;have e3:=Td (m+2) (qA (m+3)) (iq n) a b (by omega) (fun x hx y=>Ir n x y (by have:=lg hx;omega) (by omega) m (by omega) (by omega)) (m+4) 0 (aN _) (aN _) (by omega);have e4:=Tf (m+2) (by omega) (qA (m+3)) (iq n) a b (by omega) (fun x hx y=>KF (m+1) _ _ (by have:=lg hx;have:=ami x 0;omega) (by omega)) (fun x hx y=>Ir n _ _ (by have:=lg hx;have:=iQ x 1;omega) (by omega) m (by omega) (by omega)) (m+4) 0 (aN _) (aN _) (by omega);rw[aK,aK]at e3 e4;have e3':R8 (m+3) (qA (m+3)) 0 a b=_:=e3;have e4':R9 (m+3) (qA (m+3)) 0 a b=_:=e4;show (bif (I a 0 !=I b 0)then(zS (m+3) (I a 0) (I b 0)).bind (fun r=>some r)else JL (m+3) (qA (m+3)) a b)=_;simp only[amJ,show m+3=(m+2)+1 from rfl,jf,iq,ah];cases (I a 0 !=I b 0)
  ·simp only[cond_false,WJ];cases (I a 0==3||I a 0==9||I a 0==10)
   ·    cases (I a 0==4||I a 0==7||I a 0==8)
        ·cases (I a 0==6)
         ·cases (I a 0==5);·rfl
          ·exact e4'
         ·exact e3'
        ·exact KF (m+1) _ _ (by have:=ami a 2;omega) (by omega)
   ·rfl
  ·rfl
theorem Iu(a b:Dt)(m:Nat)(hm:a.bulk<=m)(hm2:m<900000000000):qA (m+3) a b=some (iT a b):=by rw[Ir a.bulk a b (aL _) (by omega) m hm hm2,Qq (aL _)]
def uid:ByteArray:=ByteArray.mk (List.toArray [95,105,100])
def idD(d:Dt):Dt:=fld ((L d 4).getD 0 (.int 0)) 1
theorem Tg{p:ByteArray->Bool}{s1 s2:Dt->Bool}:∀{L:List Dt}{seen:List ByteArray},(∀f∈L,s1 (fld f 1)=true->s2 (fld f 1)=true)->fl p s1 seen L=true->fl p s2 seen L=true
 | [],_,_,h=>h
 |a::L,seen,hs,h=>by
  simp only[fl,aJ]at h ⊢
  exact⟨⟨h.1.1,hs a aZ h.1.2⟩,Tg (fun f hf=>hs f (aY _ hf)) h.2⟩
theorem bm{b x y x' y':Bool}(h1:x=true->x'=true)(h2:y=true->y'=true)(h:(bif b then x else y)=true):(bif b then x' else y')=true:=by
 cases b;·exact h2 h
 ·exact h1 h
theorem su{p:ByteArray->Bool}:∀(n k:Nat)(v:Dt),WV v->v.bulk<=k->bX p n v=true->bX p k v=true
 |0,_,_,_,_,h=>by cases h
 |n+1,0,v,_,hk,_=>by have:=bV v;omega
 |n+1,k+1,v,hw,hk,h=>by
  obtain⟨p1,p2,p3,p4⟩:=bU hw;rw[bX,aJ]at h ⊢
  refine⟨h.1,?_⟩;have h2:=h.2;have h3:(L v 3).all (bX p n)=true->(L v 3).all (bX p k)=true:=fun h=>List.all_eq_true.2 fun e he=>su n k e (p3 e he).1 (by have:=(p3 e he).2;omega) (List.all_eq_true.1 h e he);have h4:fl p (bX p n) [] (L v 4)=true->fl p (bX p k) [] (L v 4)=true:=Tg fun f hf=>su n k _ (p4 f hf).1 (by have:=(p4 f hf).2;omega);exact bm id (bm id (bm id (bm id (bm id (bm h3 (bm h4 id)))))) h2
structure Ok (v:Dt):Prop where
 wv:WV v
 wr:WR v
 ok:okV v=true
 bk:v.bulk<=1048576
theorem Ok.snd{v:Dt}(h:Ok v):bX nm v.bulk v=true:=by have:=h.ok;unfold okV at this;simp only[aJ]at this;exact this.2
theorem Ok.part{d f:Dt}(h:Ok d)(h5:I d 0=5)(hf:f∈Dt.L d 4):Ok (fld f 1):=by
 have hs:=h.snd;obtain⟨p1,p2,p3,p4⟩:=bU h.wv;have hb:=(p4 f hf).2;have hp:fld f 1∈fM d:=by unfold fM;rw[h5];exact List.mem_map.2 ⟨f,hf,rfl⟩
 have hk:=h.ok;have hbk:=h.bk;unfold okV at hk;simp only[aJ,decide_eq_true_eq]at hk;refine⟨(p4 f hf).1,(iP h.wr).2.2 f hf,?_,by omega⟩;unfold okV;simp only[aJ,decide_eq_true_eq];refine⟨⟨?_,?_⟩,?_⟩
 ·have:=Dr h.wv;have h1:nds (fld f 1)<=((fM d).map nds).sum:=by
   generalize fM d=L at hp;clear this;induction L with
   |nil=>cases hp
   |    cons a L ih=>
        rw[List.map_cons,List.sum_cons];rcases List.mem_cons.1 hp with rfl|hp;·omega
        ·have:=ih hp;omega
  omega
 ·have:=JB h.wv;have h1:dpt (fld f 1)<=mx dpt (fM d):=by
   generalize fM d=L at hp;clear this;induction L with
   |nil=>cases hp
   |    cons a L ih=>
        simp only[mx];rcases List.mem_cons.1 hp with rfl|hp;·omega
        ·have:=ih hp;omega
  omega
 ·obtain⟨n,hn⟩:∃n,d.bulk=n+1:=⟨d.bulk-1,by have:=bV d;omega⟩;rw[hn,bX,aJ,h5]at hs;have ga:fl nm (bX nm n) [] (Dt.L d 4)=true:=hs.2;exact su n _ _ (p4 f hf).1 (aL _) (lM ga f hf)
structure Do (d:Dt):Prop where
 o:Ok d
 k5:I d 0=5
 fs:∃v r,L d 4= .agg [.str uid,v]::r
 k6:I (idD d) 0≠6
 k1:I (idD d) 0≠1
 k11:I (idD d) 0≠11
 ln:lenD d<=16384
theorem Do.len{d:Dt}(h:Do d):0<(L d 4).length:=by obtain⟨v,r,e⟩:=h.fs;rw[e];simp
theorem Do.hd{d:Dt}(h:Do d):(L d 4)[0]'h.len= .agg [.str uid,idD d]:=by obtain⟨v,r,e⟩:=h.fs;simp[idD,e,fld]
theorem Do.idx{d:Dt}(h:Do d):idx (L d 4) 0=some (.agg [.str uid,idD d]):=by have:=bg h.len;rw[h.hd]at this;exact this
theorem Do.id{d:Dt}(h:Do d):Ok (idD d):=by have:=h.o.part h.k5 (aD h.len);rw[h.hd]at this;exact this
theorem ab5{d:Dt}(h:WV d):agg [.int (I d 0),.int (I d 1),.str (S d 2),.lst (L d 3),.lst (L d 4)]=d:=by cases h;rfl
def kc(d:Dt):ByteArray:=bA (eG 1048576 (idD d))
theorem ab6{a b:Dt}(ha:Do a)(hb:Do b)(h:kc a=kc b):idD a=idD b:=by have h1:=abZ h;exact(xM 1048576 (idD a) (idD b) _ _ [] [] (by omega) ha.id.wv hb.id.wv ha.id.wr hb.id.wr ha.id.snd hb.id.snd ha.id.bk hb.id.bk (by rw[h1])).1
theorem ab7(s:ByteArray)(h:(s.toList==[95,105,100])=true):s=uid:=by
 have h:s.toList=[95,105,100]:=by simpa using h
 rw[ByteArray.toList_eq]at h;exact BD h
theorem auU:(uid.toList==[95,105,100])=true:=by rw[ByteArray.toList_eq];rfl
theorem ab8{v:Dt}(h:Ok v){m:Nat}(hm:5000000<=m):zX (m+1) v=some (bA (eG 1048576 v),0):=by have hb:=h.bk;obtain⟨q,rfl⟩:∃q,m=q+3:=⟨m-3,by omega⟩;rw[zX,nI h.wv q (by omega) (by omega),h.ok,ah,Bool.not_true,cond_false,abb,asU 1048576 v _ h.wv h.wr h.snd h.bk (by omega) (q+2) [] (by omega) (by simp;omega),ah,List.nil_append];have h1:=jd 1048576 v h.wv;rw[Nat.ble_eq_true_of_le (by rw[jG];omega),cond_true,asT];rfl
theorem Ti{v:Dt}(h:Ok v){m:Nat}(hm:5000002<=m):zA (m+1) [v]=some (bA (eG 1048576 v)):=by
 obtain⟨q,rfl⟩:∃q,m=q+1:=⟨m-1,by omega⟩;have h1:=jd 1048576 v h.wv;have hb:=h.bk;have hz:(bA (eG 1048576 v)).size=(eG 1048576 v).length:=by simp[bA,ByteArray.size]
 have he:(ByteArray.mk (List.toArray []))++bA (eG 1048576 v)=bA (eG 1048576 v):=BD (by rw[ByteArray.data_append,Array.toList_append];rfl);rw[zA];show rR (q+1) (q+2) (ByteArray.mk (List.toArray [])) [v] 1 0=_;rw[rR];show J3 (q+1) (rR (q+1) (q+1)) (ByteArray.mk (List.toArray [])) [v] 1 0=_;rw[J3];show Option.bind (zX (q+1) v) _=_;rw[ab8 h (by omega),ah];show Ah (q+1) _ (ByteArray.mk (List.toArray [])) (bA (eG 1048576 v)) [v] 1 0=_;rw[Ah,Nat.ble_eq_true_of_le (by rw[hz];show 0+_<=_;omega),cond_true,he];rfl
theorem auV{d:Dt}(h:Do d)(m:Nat):zG (m+1) d uid=some 0:=by have hl:=h.len;rw[zG,h.k5];show nK m (m+1) uid ((L d 4).length:Int) ((0:Nat):Int) d=_;rw[nK,dlt,decide_eq_true hl,cond_true,JF,bg hl,ah,h.hd];show (bif (uid.toList==uid.toList)then _ else _)=_;rw[beq_self_eq_true,cond_true];rfl
theorem ident{d:Dt}(h:Do d){m:Nat}(hm:5000000<=m):zQ (m+1) d=some (idD d):=by have hb:=h.id.bk;obtain⟨q,rfl⟩:∃q,m=q+2:=⟨m-2,by omega⟩;rw[zQ];show Option.bind (yJ (q+2) d uid) _=_;rw[yJ,auV h,ah];show Option.bind (Option.bind (Am.idx (L d 4) 0) _) _=_;rw[h.idx,ah];show Option.bind (Option.bind (qK (q+1) (idD d)) _) _=_;rw[BJ 1048576 (idD d) hb (by omega) h.id.wv q (by omega),ah];show some _=some _;rw[show agg [.int (iw (idD d)).1,.int (iw (idD d)).2.1,.str (iw (idD d)).2.2.1,.lst (iw (idD d)).2.2.2.1,.lst (iw (idD d)).2.2.2.2]=idD d from ab5 h.id.wv]
theorem KG{d:Dt}(h:Ok d)(h5:I d 0=5){m:Nat}(hm:5000000<=m)(hm2:m<900000000000):∃e,zI (m+1) d=some e∧(e=0->Do d):=by
 have hb:=h.bk;obtain⟨q,rfl⟩:∃q,m=q+6:=⟨m-6,by omega⟩;rw[zI,zT,iC h.wv (q+1) (by omega) (by omega) (by omega),h.ok,ah,Bool.not_true,cond_false];by_cases h0:(L d 4).length=0
 ·rw[show ((((L d 4).length:Nat):Int)==0)=true by rw[beq_iff_eq];omega];exact⟨8,rfl,fun h=>by cases h⟩
 ·have hl:0<(L d 4).length:=by omega
  have hi:=bg hl;obtain⟨v,hv⟩:∃v,(L d 4)[0]= .agg [.str (S (L d 4)[0] 0),v]:=by
   have hf:=(iR h.wv).2.1 _ (aD hl);generalize (L d 4)[0]=f at hf;cases hf with
   |mk _=>exact⟨_,rfl⟩
  rw[show ((((L d 4).length:Nat):Int)==0)=false by rw[beq_eq_false_iff_ne];omega,cond_false,show Am.idx (L d 4) 0=some (L d 4)[0]from hi,ah];cases hu:((S (L d 4)[0] 0).toList==[95,105,100])with
  |false=>exact⟨8,rfl,fun h=>by cases h⟩
  |true=>
   have hs:=ab7 _ hu;have hidD:fld (L d 4)[0] 1=idD d:=by unfold idD;rw[List.getD,aB hl];rfl
   rw[Bool.not_true,Bf,cond_false,SC,show Am.idx (L d 4) 0=some (L d 4)[0]from hi,ah,hidD];by_cases k6:I (idD d) 0=6;·rw[k6];exact⟨8,rfl,fun h=>by cases h⟩
   by_cases k1:I (idD d) 0=1;·rw[k1];exact⟨8,rfl,fun h=>by cases h⟩
   by_cases k11:I (idD d) 0=11;·rw[k11];exact⟨8,rfl,fun h=>by cases h⟩
   rw[beq_eq_false_iff_ne.2 k6,beq_eq_false_iff_ne.2 k1,beq_eq_false_iff_ne.2 k11,cond_false,cond_false,Fg,cond_false,SB,ah];show ∃e,Bg (q+6) d=some e∧_;rw[Bg,RU h.wv h.wr hb h.ok q (by omega) (by omega),ah];show ∃e,Fj _ (lenD d:Int)=some e∧_;rw[Fj];by_cases hln:lenD d<=16384
   ·    rw[decide_eq_false (by omega)];refine⟨0,rfl,fun _=>⟨h,h5,⟨v,(L d 4).drop 1,?_⟩,k6,k1,k11,hln⟩⟩;rw[hs]at hv;rw[←hv];have:=ay hl;rw[aK]at this;exact this
   ·    rw[decide_eq_true (by omega)];exact⟨2,rfl,fun h=>by cases h⟩
end Go.Proofs.YtmecfjhdnbgfeaaGreatDoor
namespace Go.Proofs.YtmecfjhdnbgfeaaGreatDoor
open Go.Am
theorem gu{l:List Dt}{x:Dt}(h:l.length<137438953472):app l [x]=some (l++[x]):=by unfold app;rw[if_pos (by simp;omega)]
theorem dL{l:List Dt}{i:Nat}(h:i<l.length):l.take i++[l[i]]=l.take (i+1):=by rw[List.take_add_one,aB h];rfl
theorem KH(m:Nat)(self:Dt->Option Dt)(l:List Dt)(hl:l.length<=137438953472)(hs:∀e∈l,self e=some e)(x3 x4:Dt)(x5 x6:Int)(x7:ByteArray)(x9:List Dt):∀(M i:Nat),i<=l.length->l.length-i<M->
  yu m self M l (l.length:Int) (i:Int) x3 x4 x5 x6 x7 (l.take i) x9=ZM m self x3 x4 x5 x6 x7 l x9
 |0,i,_,h=>by omega
 |M+1,i,hi,h=>by
  simp only[yu,dlt];by_cases hlt:i<l.length
  ·have hx:(l.take i).length<137438953472:=by rw[List.length_take];omega
   simp only[hlt,decide_true,cond_true,ZI,ZH,bg hlt,ah,hs _ (aD hlt),gu hx,dL hlt,bF (show i<9223372036854775807 by omega)];exact KH m self l hl hs x3 x4 x5 x6 x7 x9 M (i+1) (by omega) (by omega)
  ·have e:i=l.length:=by omega
   subst e;simp
theorem KI(m:Nat)(self:Dt->Option Dt)(l:List Dt)(hl:l.length<=137438953472)(hf:∀f∈l,∃s v,f= .agg [.str s,v]∧self v=some v)(x3:Dt)(x4 x5:Int)(x6:ByteArray)(x7:List Dt):∀(M i:Nat),i<=l.length->l.length-i<M->
  Ed m self M l (l.length:Int) (i:Int) x3 x4 x5 x6 x7 (l.take i)=some (.agg [.int x4,.int x5,.str x6,.lst x7,.lst l])
 |0,i,_,h=>by omega
 |M+1,i,hi,h=>by
  simp only[Ed,dlt];by_cases hlt:i<l.length
  ·have hx:(l.take i).length<137438953472:=by rw[List.length_take];omega
   obtain⟨s,v,e1,e2⟩:=hf _ (aD hlt);have e5:Dt.agg [.str (Dt.S l[i] 0),v]=l[i]:=by rw[e1];rfl
   have e4:Dt.fld l[i] 1=v:=by rw[e1];rfl
   simp only[hlt,decide_true,cond_true,ZK,ZJ,bg hlt,ah,e4,e2,e5,gu hx,dL hlt,bF (show i<9223372036854775807 by omega)];exact KI m self l hl hf x3 x4 x5 x6 x7 M (i+1) (by omega) (by omega)
  ·have e:i=l.length:=by omega
   subst e;simp[ZL]
theorem fI:∀(N:Nat)(d:Dt),d.bulk<=N->N<=137438953472->WV d->∀m,N<=m->qB (m+1) d=some d
 |0,d,h,_,_,_,_=>by have:=bV d;omega
 |N +   1,d,h,hN,hw,m,hm=>by
  cases hw with
  | @mk   k i t l ds hl hd=>
    rw[dS]at h;obtain⟨m,rfl⟩:∃q,m=q+1:=⟨m-1,by omega⟩;have hself:∀e∈l,qB (m+1) e=some e:=fun e he=>fI N e (by have:=dh he;omega) (by omega) (hl e he) m (by omega);have hfld:∀f∈ds,∃s v,f= .agg [.str s,v]∧qB (m+1) v=some v:=fun f hf=>by
        have hb:=dh hf;cases hd f hf with
        | @mk s v hv=>
          rw[gV]at hb;exact⟨s,v,rfl,fI N v (by omega) (by omega) hv m (by omega)⟩
    have hl1:=dx l;have hd1:=dx ds;have key:=fun(x3 x4:Dt)=>KH (m+1) (qB (m+1)) l (by omega) hself x3 x4 k i t [] (m+2) 0 (by omega) (by omega);have key6:=fun(x3:Dt)(x7:List Dt)=>KI (m+1) (qB (m+1)) ds (by omega) hfld x3 k i t x7 (m+2) 0 (by omega) (by omega);simp only[List.take_zero]at key key6;show yu (m+1) (qB (m+1)) (m+2) l ((l.length:Nat):Int) ((0:Nat):Int) _ _ k i t [] []=_;rw[key];exact key6 _ _
end Go.Proofs.YtmecfjhdnbgfeaaGreatDoor
namespace Go.Proofs.YtmecfjhdnbgfeaaGreatDoor
open Go.Am Dt
theorem aoQ(m:Nat)(self5:List Dt->List Dt->Option Bool)(self:Dt->Dt->Option Bool)(d:Dt)(hl:(L d 4).length<1000000000000)(hs:∀f∈L d 4,self (fld f 1) (fld f 1)=some true)(hL:self5 (L d 3) (L d 3)=some true):∀(M i:Nat),i<=(L d 4).length->(L d 4).length-i<M->Es m self self5 M ((L d 4).length:Int) (i:Int) d d=some true
 |0,i,_,h=>by omega
 |M+1,i,hi,h=>by
  simp only[Es,dlt];by_cases hlt:i<(L d 4).length
  ·simp only[hlt,decide_true,cond_true,aas,Sb,aar,bg hlt,ah,beq_self_eq_true,Bool.not_true,cond_false,hs _ (aD hlt),bF (show i<9223372036854775807 by omega)];exact aoQ m self5 self d hl hs hL M (i+1) (by omega) (by omega)
  ·simp only[hlt,decide_false,cond_false,aat,hL,ah]
theorem ab9(m:Nat)(self:Dt->Dt->Option Bool)(l:List Dt)(hl:l.length<1000000000000)(hs:∀e∈l,self e e=some true):∀(M i:Nat),i<=l.length->l.length-i<M->Eu m self M l l (l.length:Int) (i:Int)=some true
 |0,i,_,h=>by omega
 |M+1,i,hi,h=>by
  simp only[Eu,dlt];by_cases hlt:i<l.length
  ·simp only[hlt,decide_true,cond_true,aav,aau,bg hlt,ah,Bool.not_true,cond_false,hs _ (aD hlt),bF (show i<9223372036854775807 by omega)];exact ab9 m self l hl hs M (i+1) (by omega) (by omega)
  ·simp only[hlt,decide_false,cond_false,aaw]
theorem acd(m:Nat)(l:List Dt)(hl:l.length<=m)(hl2:l.length<1000000000000)(hs:∀e∈l,qU m e e=some true):qX (m+1) l l=some true:=by show (bif ((((l.length:Nat):Int) !=((l.length:Nat):Int)):Bool)then some false else aax m (qU m) l l)=_;rw[bne_self_eq_false];exact ab9 m (qU m) l hl2 hs (m+1) 0 (aN _) (by omega)
theorem BM:∀(N:Nat)(d:Dt),d.bulk<=N->N<1000000000000->∀m,2*N<=m->qU (m+1) d d=some true
 |0,d,h,_,_,_=>by have:=gq d;omega
 |N+1,d,h,hN,m,hm=>by obtain⟨m,rfl⟩:∃k,m=k+2:=⟨m-2,by omega⟩;have h3:=kE d 3;have h4:=kE d 4;have hL:=acd (m+1) (L d 3) (by omega) (by omega) fun e he=>BM N e (by have:=lg he;omega) (by omega) m (by omega);have key:=aoQ (m+2) (qX (m+2)) (qU (m+2)) d (by omega) (fun f hf=>BM N (fld f 1) (by have:=lg hf;have:=iQ f 1;omega) (by omega) (m+1) (by omega)) hL (m+3) 0 (aN _) (by omega);rw[qU];simp only[bne_self_eq_false,beq_self_eq_true,Bool.not_true,cond_false,Et];exact key
