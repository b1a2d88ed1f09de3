/- The text of values, in plain Lean.
String literals and hexadecimal digits:the program and the reference write the same.
Decimal numerals:the reference writes what the library writes. -/
import Derived.Test.YtmejbpmceflcjaaGreatDoorMC
import Derived.KernelRfl
set_option linter.unusedVariables false
set_option linter.unusedSimpArgs false
namespace Go.Proofs.YtmejbpmceflcjaaGreatDoor
open Go.Am
theorem nba_ext {a b:ByteArray} (h:a.data.toList=b.data.toList):a=b:=by
 cases a
 cases b
 congr
 exact Array.toList_inj.1 h
theorem bytesI_len (l:List UInt8):(bytesI l).length=l.length:=by simp[bytesI]
theorem bytesI_app (a b:List UInt8):bytesI (a++b)=bytesI a++bytesI b:=by simp[bytesI]
theorem bytesD_I (s:ByteArray):bytesD s=bytesI s.data.toList:=rfl
theorem strD_I (l:List UInt8):strD (bytesI l)=⟨l.toArray⟩:=by
 unfold strD strOfNums bytesI
 refine nba_ext ?_
 simp only[List.map_map]
 show List.map _ l=l
 refine(List.map_congr_left fun x _=>?_).trans (List.map_id l)
 show UInt8.ofNat ((x.toNat:Int).toNat)=x
 simp
def hdg (n:Nat):UInt8:=UInt8.ofNat (bif Nat.blt n 10 then 48+n else 87+n)
def hx2 (c:UInt8):List UInt8:=[hdg (c.toNat/16),hdg (c.toNat%16)]
def qb (c:UInt8):List UInt8:=
 bif ((c.toNat:Int)==34||(c.toNat:Int)==92) then[92,c] else bif (c.toNat:Int)==10 then[92,110] else bif (c.toNat:Int)==13 then[92,114] else bif (c.toNat:Int)==9 then[92,116] else
 bif (decide ((c.toNat:Int)<32)||(c.toNat:Int)==127) then[92,117,48,48]++hx2 c else[c]
def qL:List UInt8→List UInt8
 | []=>[]
 |c::r=>qb c++qL r
def qtL (l:List UInt8):List UInt8:=[34]++(qL l++[34])
def hxL:List UInt8→List UInt8
 | []=>[]
 |c::r=>hx2 c++hxL r
theorem qb_len (c:UInt8):(qb c).length≤6:=by
 unfold qb hx2
 cases ((c.toNat:Int)==34||(c.toNat:Int)==92)<;>cases ((c.toNat:Int)==10)<;>cases ((c.toNat:Int)==13)<;>cases ((c.toNat:Int)==9)<;>cases (decide ((c.toNat:Int)<32)||(c.toNat:Int)==127)<;>simp
theorem qL_len:∀l:List UInt8,(qL l).length≤6*l.length
 | []=>by simp[qL]
 |c::r=>by have:=qL_len r;have:=qb_len c;simp only[qL,List.length_append,List.length_cons];omega
theorem hxL_len:∀l:List UInt8,(hxL l).length=2*l.length
 | []=>rfl
 |c::r=>by have:=hxL_len r;simp only[hxL,hx2,List.length_append,List.length_cons,List.length_nil];omega
def lsF (g:Dt→List UInt8):Nat→List Dt→List UInt8
 |_,[]=>[]
 |i,e::r=>(bif decide (0<i) then[44] else[])++(g e++lsF g (i+1) r)
def erF (g:Dt→Int):List Dt→Int
 | []=>0
 |e::r=>bif g e==0 then erF g r else g e
def litMin:List UInt8:=[123,34,36,109,105,110,34,58,49,125]
def litMax:List UInt8:=[123,34,36,109,97,120,34,58,49,125]
def litNull:List UInt8:=[110,117,108,108]
def litTrue:List UInt8:=[116,114,117,101]
def litFalse:List UInt8:=[102,97,108,115,101]
def litTime:List UInt8:=[123,34,36,116,105,109,101,34,58]
def litId:List UInt8:=[123,34,36,105,100,34,58,34]
def litBytes:List UInt8:=[123,34,36,98,121,116,101,115,34,58,34]
def litEnd:List UInt8:=[34,125]
def txt:Nat→Dt→List UInt8
 |0,_=>[]
 |  n+1,d=>bif Dt.I d 0==1 then litMin else bif Dt.I d 0==11 then litMax else bif Dt.I d 0==2 then litNull else bif Dt.I d 0==9 then(bif Dt.I d 1==1 then litTrue else litFalse) else
    bif Dt.I d 0==3 then Lib.itoa (Dt.I d 1) else bif Dt.I d 0==10 then litTime++(Lib.itoa (Dt.I d 1)++[125]) else bif Dt.I d 0==4 then qtL (Dt.S d 2).data.toList else
    bif Dt.I d 0==8 then litId++(hxL (Dt.S d 2).data.toList++litEnd) else bif Dt.I d 0==7 then litBytes++(hxL (Dt.S d 2).data.toList++litEnd) else
    bif Dt.I d 0==6 then[91]++(lsF (txt n) 0 (Dt.L d 3)++[93]) else
    [123]++(lsF (fun f=>qtL (Dt.S f 0).data.toList++([58]++txt n (Dt.fld f 1))) 0 (Dt.L d 4)++[125])
def hxd (c:UInt8):Bool:=(decide ((48:Int)≤(c.toNat:Int))&&decide ((c.toNat:Int)≤57))||(decide ((97:Int)≤(c.toNat:Int))&&decide ((c.toNat:Int)≤102))
def hexS (s:ByteArray):Bool:=Nat.beq (s.size%2) 0&&s.data.toList.all hxd
def nmId:ByteArray:=⟨#[36,105,100]⟩
def nmBytes:ByteArray:=⟨#[36,98,121,116,101,115]⟩
def nmTime:ByteArray:=⟨#[36,116,105,109,101]⟩
def nmMin:ByteArray:=⟨#[36,109,105,110]⟩
def nmMax:ByteArray:=⟨#[36,109,97,120]⟩
def spF (f:Dt):Bool:=
 bif eqb (Dt.S f 0) nmId then Dt.I (Dt.fld f 1) 0==4&&hexS (Dt.S (Dt.fld f 1) 2)&&Nat.beq (Dt.S (Dt.fld f 1) 2).size 24 else
 bif eqb (Dt.S f 0) nmBytes then Dt.I (Dt.fld f 1) 0==4&&hexS (Dt.S (Dt.fld f 1) 2) else
 bif eqb (Dt.S f 0) nmTime then Dt.I (Dt.fld f 1) 0==3&&decide ((0:Int)≤Dt.I (Dt.fld f 1) 1) else
 bif eqb (Dt.S f 0) nmMin then Dt.I (Dt.fld f 1) 0==3&&Dt.I (Dt.fld f 1) 1==1 else
 bif eqb (Dt.S f 0) nmMax then Dt.I (Dt.fld f 1) 0==3&&Dt.I (Dt.fld f 1) 1==1 else false
def spc:List Dt→Bool
 | [f]=>spF f
 |_=>false
def perr:Nat→Dt→Int
 |0,_=>0
 |  n+1,d=>bif Dt.I d 0==7 then(bif decide ((2048:Int)<((Dt.S d 2).size:Int)) then 2 else 0) else bif Dt.I d 0==6 then erF (perr n) (Dt.L d 3) else
    bif Dt.I d 0==5 then(bif spc (Dt.L d 4) then 4 else erF (fun f=>perr n (Dt.fld f 1)) (Dt.L d 4)) else 0
theorem itoa_len (i:Int) (h1: -9223372036854775808≤i) (h2:i≤9223372036854775807):(Lib.itoa i).length≤21:=Lib.itoa_length_le i h1 h2
theorem lsF_len (g:Dt→List UInt8) (k:Dt→Nat):∀(L:List Dt) (i:Nat),(∀e∈L,(g e).length+1≤k e)→(lsF g i L).length≤(L.map k).sum
 | [],_,_=>by simp[lsF]
 |e::r,i,h=>by
  have h1:=h e (List.mem_cons_self ..)
  have h2:=lsF_len g k r (i+1) fun x hx=>h x (List.mem_cons_of_mem _ hx)
  have h3:(bif decide (0<i) then[(44:UInt8)] else[]).length≤1:=by cases decide (0<i)<;>simp
  simp only[lsF,List.length_append,List.map_cons,List.sum_cons]
  omega
end Go.Proofs.YtmejbpmceflcjaaGreatDoor
namespace Go.Proofs.YtmejbpmceflcjaaGreatDoor
open Go.Am
theorem apI (a l:List UInt8) (h:a.length+l.length≤137438953472):app (bytesI a) (bytesI l)=some (bytesI (a++l)):=by
 rw[app_le (by rw[bytesI_len,bytesI_len];exact h),bytesI_app]
theorem hexT_ok:((List.range 256).all fun n=>(idxS (ByteArray.mk (List.toArray [48,49,50,51,52,53,54,55,56,57,97,98,99,100,101,102])) (shrI .u8 (n:Int) 4)==some ((hdg (n/16)).toNat:Int))&&(idxS (ByteArray.mk (List.toArray [48,49,50,51,52,53,54,55,56,57,97,98,99,100,101,102])) (andI .u8 (n:Int) 15)==some ((hdg (n%16)).toNat:Int)))=true:=by kernel_rfl
theorem hex_hi (c:UInt8):idxS (ByteArray.mk (List.toArray [48,49,50,51,52,53,54,55,56,57,97,98,99,100,101,102])) (shrI .u8 (c.toNat:Int) 4)=some ((hdg (c.toNat/16)).toNat:Int):=by
 have h:=List.all_eq_true.1 hexT_ok c.toNat (List.mem_range.2 (UInt8.toNat_lt c))
 exact eq_of_beq ((Bool.and_eq_true_iff).1 h).1
theorem hex_lo (c:UInt8):idxS (ByteArray.mk (List.toArray [48,49,50,51,52,53,54,55,56,57,97,98,99,100,101,102])) (andI .u8 (c.toNat:Int) 15)=some ((hdg (c.toNat%16)).toNat:Int):=by
 have h:=List.all_eq_true.1 hexT_ok c.toNat (List.mem_range.2 (UInt8.toNat_lt c))
 exact eq_of_beq ((Bool.and_eq_true_iff).1 h).2
theorem strI_ok (l:List UInt8):strOfNums (List.map Dt.toInt (bytesI l))=⟨l.toArray⟩:=strD_I l
theorem mkB_app (a b:List UInt8):(ByteArray.mk (List.toArray a))++(ByteArray.mk (List.toArray b))=ByteArray.mk (List.toArray (a++b)):=by
 refine nba_ext ?_
 rw[ByteArray.data_append]
 simp
theorem mkB_size (a:List UInt8):(ByteArray.mk (List.toArray a)).size=a.length:=by
 show (List.toArray a).size=_
 simp
theorem mkB_self (s:ByteArray):ByteArray.mk (List.toArray s.data.toList)=s:=nba_ext (by simp)
theorem cut1 {s:ByteArray} {i:Nat} (h:i<s.size):cutS s (i:Int) ((i+1:Nat):Int)=some (ByteArray.mk (List.toArray [s[i]])):=by
 rw[cutS_nat (by omega) (by omega)]
 congr 1
 refine nba_ext ?_
 rw[ByteArray.data_extract,Array.toList_extract]
 have hl:i<s.data.toList.length:=by rw[lenB];exact h
 show (s.data.toList.drop i).take (i+1-i)=[s[i]]
 rw[List.drop_eq_getElem_cons hl,show i+1-i=1 by omega]
 rfl
theorem u8lt (c:UInt8):c.toNat<256:=UInt8.toNat_lt c
theorem ble_of {n k:Nat} (h:n≤k):Nat.ble n k=true:=by rw[Nat.ble_eq];exact h
end Go.Proofs.YtmejbpmceflcjaaGreatDoor
namespace Go.Proofs.YtmejbpmceflcjaaGreatDoor
open Go.Am
theorem wrapU {n:Int} (h1:0≤n) (h2:n≤18446744073709551615):IntKind.wrap IntKind.u64 n=n:=by
 unfold IntKind.wrap
 simp only[IntKind.bits,IntKind.signed,Bool.false_and,Bool.false_eq_true,if_false]
 omega
theorem wrapUneg {n:Int} (h1: -18446744073709551616≤n) (h2:n<0):IntKind.wrap IntKind.u64 n=n+18446744073709551616:=by
 unfold IntKind.wrap
 simp only[IntKind.bits,IntKind.signed,Bool.false_and,Bool.false_eq_true,if_false]
 omega
theorem ndig (k:Nat) (h:k<10):hdg k=UInt8.ofNat (48+k):=by
 unfold hdg
 have:Nat.blt k 10=true:=by rw[Nat.blt_eq];exact h
 rw[this];rfl
def hdD (u:Nat):List UInt8:=if u<10 then[] else Lib.decDigits (u/10)
theorem dec_hd (u:Nat):Lib.decDigits u=hdD u++[hdg (u%10)]:=by
 rw[Lib.decDigits,ndig _ (by omega)]
 unfold hdD
 split
 ·rename_i h
  rw[Nat.mod_eq_of_lt h];rfl
 ·rfl
theorem tdiv_nat (u:Nat):Int.tdiv (u:Int) 10=((u/10:Nat):Int):=by
 rw[Int.tdiv_eq_ediv_of_nonneg (by omega)];omega
theorem tmod_nat (u:Nat):Int.tmod (u:Int) 10=((u%10:Nat):Int):=by
 rw[Int.tmod_eq_emod_of_nonneg (by omega)];omega
def sgn (n:Int):List UInt8:=bif decide (n<0) then[45] else[]
theorem appInt_eq (i:Int) (h1: -9223372036854775808≤i) (h2:i≤9223372036854775807) (a:List UInt8) (ha:a.length≤137438953000):strconv_AppendInt i 10 (bytesI a)=some (bytesI (a++Lib.itoa i)):=by
 unfold strconv_AppendInt
 have e:(decide ((10:Int)=10)&&(decide (-9223372036854775808≤i)&&(decide (i≤9223372036854775807)&&Nat.ble ((bytesI a).length+21) 137438953472)))=true:=by
  rw[decide_eq_true h1,decide_eq_true h2,ble_of (by rw[bytesI_len];omega)];rfl
 rw[e,cond_true,bytesI_app]
end Go.Proofs.YtmejbpmceflcjaaGreatDoor
