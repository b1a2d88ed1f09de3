/- expr: each operator over valid kids: the program and the reference answer alike, and what they answer is well-formed and small. Printed by eop.py.
expr:what the nodes' results are:well-formed,small,missing only as the zero value.
expr:the program's and the reference's value of a valid expression is evS,by induction on its levels.
Copies of values,by layer 12's function.
expr:Eval of the program and of the reference.
Each value is the same as itself (layer 3's functions).
Buckets:which interval a value falls into,how many fall into each,and how many into none.
Tally in plain Lean:values with their counts,in order of first appearance;the sorted list of their places.
The library's stable sort,first part:insertion,exchanges of ranges,rotation,over lists taken apart.
The library's stable sort,second part:merging in place,over lists taken apart.
The library's stable sort,third part:it gives the stable insertion sort's list.
Tally:the loop over the documents.
Tally:the counts are written,the groups sorted.
Tally,Bucket:what is counted.
Groups:each value once,its number the number of the values like it.
The reference's Tally answers the same.
The law:Root and Tally.
What the row's condition says of the package's tables:the blocks hold the cells that the machine's table lists.
The package's tables:what the rows' condition says is what the machine's table lists;a world that holds them. -/
import Derived.Test.YtmecfjhdnbgfeaaGreatDoorPB
import Derived.Test.YtmecfjhdnbgfeaaGreatDoorPA
import Derived.Test.YtmecfjhdnbgfeaaGreatDoorSh
import Derived.Test.YtmecfjhdnbgfeaaGreatDoorEQ
import Derived.Test.YtmecfjhdnbgfeaaGreatDoorProg
import Derived.Test.YtmecfjhdnbgfeaaGreatDoorRows
import Derived.LaidLaws
import Derived.ChangeArms
import Derived.Lib.LaidTab
import Derived.PinnedBridge
import Derived.MakeChecks
import Derived.Lib.LaidIn
set_option linter.all false
namespace Go.Proofs.YtmecfjhdnbgfeaaGreatDoor
open Go.Am Dt
theorem sh1{ks:List Dt}(h:((ks.length:Int)==1)=true):∃a,ks=[a]:=by
 have h:(ks.length:Int)=1:=by simpa using h
 match ks,h with
 | [a],_=>exact⟨a,rfl⟩
 | [],h=>exact absurd h (by decide)
 |_::_::_,h=>simp only[List.length_cons]at h;omega
theorem sh2{ks:List Dt}(h:((ks.length:Int)==2)=true):∃a b,ks=[a,b]:=by
 have h:(ks.length:Int)=2:=by simpa using h
 match ks,h with
 | [a,b],_=>exact⟨a,b,rfl⟩
 | [],h=>exact absurd h (by decide)
 | [_],h=>simp only[List.length_cons,List.length_nil]at h;omega
 |_::_::_::_,h=>simp only[List.length_cons]at h;omega
theorem sh3{ks:List Dt}(h:((ks.length:Int)==3)=true):∃a b c,ks=[a,b,c]:=by
 have h:(ks.length:Int)=3:=by simpa using h
 match ks,h with
 | [a,b,c],_=>exact⟨a,b,c,rfl⟩
 | [],h=>exact absurd h (by decide)
 | [_],h=>simp only[List.length_cons,List.length_nil]at h;omega
 | [_,_],h=>simp only[List.length_cons,List.length_nil]at h;omega
 |_::_::_::_::_,h=>simp only[List.length_cons]at h;omega
theorem auy(x a:Dt)(m:Nat)(h:x.bulk<=m)(h2:x.bulk<1000000000000):jM (m+4) x a=some (cmpD x a==0):=by rw[jM,zR x a m h h2];rfl
theorem auz(x a:Dt)(m:Nat)(h:x.bulk<=m)(h2:m<900000000000):jN (m+4) x a=some (cmpD x a==0):=by rw[jN,Bw x a m h h2];rfl
section
variable(m:Nat)(e z:Dt)(ks:List Dt)(hk:∀k∈ks,Nd k)(hl:ks.length=(L e 6).length)(h256:ks.length<=256)(hb:e.bulk<=100000000)(hm:2000000000<=m)(hm2:m<899999999900)(hn:nodeS e=0)(h1:I e 0≠1)(h2:I e 0≠2)(h3:I e 0≠3)(h32:I e 0≠32)(h33:I e 0≠33)
include hk hl h256 hb hm hm2 hn h1 h2 h3 h32 h33
theorem opP(s3 s25:Dt->Dt->Dt->Option Dt):aJ (m+5) s3 s25 e z ks=some (opS (I e 0) e ks (mgS ks))∧Rs (opS (I e 0) e ks (mgS ks)) 1900000000:=by
 obtain⟨g1,g37,hek,hnm,_⟩:=Eh hn;rw[←hl]at hek hnm;have hB:=wK ks hk;rcases AY g1 g37 with he|he|he|he|he|he|he|he|he|he|he|he|he|he|he|he|he|he|he|he|he|he|he|he|he|he|he|he|he|he|he|he|he|he|he|he|he;all_goals rw[he]at hek
 ·exact absurd he h1
 ·exact absurd he h2
 ·exact absurd he h3
 ·rw[he];exact⟨awg m s3 s25 e z ks (by omega) (by omega) he,(zL 4 ks).le (by omega)⟩
 ·obtain⟨a,b,rfl⟩:=sh2 hek;have ha:Nd a:=hk a (by simp);have hb':Nd b:=hk b (by simp);have hab:=ha.bulk;have hbb:=hb'.bulk;rw[he];exact⟨awi m s3 s25 e z [a,b] (by simp) (by simp;omega) (.inr (.inr ⟨.inl rfl,a,b,rfl⟩)) he,(zL 5 [a,b]).le (by omega)⟩
 ·rw[he];exact⟨awh m s3 s25 e z ks (by omega) (by omega) he,(zL 6 ks).le (by omega)⟩
 ·obtain⟨a,b,rfl⟩:=sh2 hek;have ha:Nd a:=hk a (by simp);have hb':Nd b:=hk b (by simp);have hab:=ha.bulk;have hbb:=hb'.bulk;rw[he];exact⟨awj m s3 s25 e z [a,b] (by simp) (by simp;omega) (.inr (.inr ⟨.inr (.inl rfl),a,b,rfl⟩)) he,(zL 7 [a,b]).le (by omega)⟩
 ·obtain⟨a,b,rfl⟩:=sh2 hek;have ha:Nd a:=hk a (by simp);have hb':Nd b:=hk b (by simp);have hab:=ha.bulk;have hbb:=hb'.bulk;rw[he];exact⟨awk m s3 s25 e z [a,b] (by simp) (by simp;omega) (.inr (.inr ⟨.inr (.inr rfl),a,b,rfl⟩)) he,(zL 8 [a,b]).le (by omega)⟩
 ·obtain⟨a,b,rfl⟩:=sh2 hek;have ha:Nd a:=hk a (by simp);have hb':Nd b:=hk b (by simp);have hab:=ha.bulk;have hbb:=hb'.bulk;rw[he];exact⟨awl m s3 s25 e z a b _ (zR a b (m+2) (by omega) (by omega)) he,(tN 9 (cmpD a b)).le (by omega)⟩
 ·obtain⟨a,b,rfl⟩:=sh2 hek;have ha:Nd a:=hk a (by simp);have hb':Nd b:=hk b (by simp);have hab:=ha.bulk;have hbb:=hb'.bulk;rw[he];exact⟨ata m s3 s25 e z a b _ (zR a b (m+2) (by omega) (by omega)) he,(tN 10 (cmpD a b)).le (by omega)⟩
 ·obtain⟨a,b,rfl⟩:=sh2 hek;have ha:Nd a:=hk a (by simp);have hb':Nd b:=hk b (by simp);have hab:=ha.bulk;have hbb:=hb'.bulk;rw[he];exact⟨atb m s3 s25 e z a b _ (zR a b (m+2) (by omega) (by omega)) he,(tN 11 (cmpD a b)).le (by omega)⟩
 ·obtain⟨a,b,rfl⟩:=sh2 hek;have ha:Nd a:=hk a (by simp);have hb':Nd b:=hk b (by simp);have hab:=ha.bulk;have hbb:=hb'.bulk;rw[he];exact⟨atc m s3 s25 e z a b _ (zR a b (m+2) (by omega) (by omega)) he,(tN 12 (cmpD a b)).le (by omega)⟩
 ·obtain⟨a,b,rfl⟩:=sh2 hek;have ha:Nd a:=hk a (by simp);have hb':Nd b:=hk b (by simp);have hab:=ha.bulk;have hbb:=hb'.bulk;rw[he];exact⟨atd m s3 s25 e z a b _ (zR a b (m+2) (by omega) (by omega)) he,(tN 13 (cmpD a b)).le (by omega)⟩
 ·obtain⟨a,b,rfl⟩:=sh2 hek;have ha:Nd a:=hk a (by simp);have hb':Nd b:=hk b (by simp);have hab:=ha.bulk;have hbb:=hb'.bulk;rw[he];exact⟨ate m s3 s25 e z a b _ (zR a b (m+2) (by omega) (by omega)) he,(tN 14 (cmpD a b)).le (by omega)⟩
 ·obtain⟨a,b,rfl⟩:=sh2 hek;have ha:Nd a:=hk a (by simp);have hb':Nd b:=hk b (by simp);have hab:=ha.bulk;have hbb:=hb'.bulk;rw[he];exact⟨atf m s3 s25 e z a b _ (zR a b (m+2) (by omega) (by omega)) he,(tN 15 (cmpD a b)).le (by omega)⟩
 ·rw[he];exact⟨atg m s3 s25 e z ks (by omega) (by omega) he,(aem 16 ks).le (by omega)⟩
 ·rw[he];exact⟨ath m s3 s25 e z ks (by omega) (by omega) he,(aem 17 ks).le (by omega)⟩
 ·obtain⟨a,rfl⟩:=sh1 hek;have ha:Nd a:=hk a (aS ..);have hab:=ha.bulk;rw[he];exact⟨ati m s3 s25 e z a he,(CG (!trB a)).le (by omega)⟩
 ·obtain⟨a,b,c,rfl⟩:=sh3 hek;have ha:Nd a:=hk a (by simp);have hb':Nd b:=hk b (by simp);have hc:Nd c:=hk c (by simp);have hab:=ha.bulk;rw[he];exact⟨atj m s3 s25 e z a b c he,(apu a b c hb' hc).le (by omega)⟩
 ·obtain⟨a,b,rfl⟩:=sh2 hek;have ha:Nd a:=hk a (by simp);have hb':Nd b:=hk b (by simp);have hab:=ha.bulk;have hbb:=hb'.bulk;rw[he];exact⟨atl m s3 s25 e z a b he,(aij a b ha hb').le (by omega)⟩
 ·rw[he];exact⟨atm m s3 s25 e z ks (by have:=Jz ks;omega) he,(anm ks).le (by omega)⟩
 ·obtain⟨a,rfl⟩:=sh1 hek;have ha:Nd a:=hk a (aS ..);have hab:=ha.bulk;rw[he];exact⟨atn m s3 s25 e z a he,(Ee 22 a).le (by omega)⟩
 ·obtain⟨a,rfl⟩:=sh1 hek;have ha:Nd a:=hk a (aS ..);have hab:=ha.bulk;rw[he];exact⟨ato m s3 s25 e z a he,(Ee 23 a).le (by omega)⟩
 ·obtain⟨a,rfl⟩:=sh1 hek;have ha:Nd a:=hk a (aS ..);have hab:=ha.bulk;rw[he];exact⟨atp m s3 s25 e z a he,(Ee 24 a).le (by omega)⟩
 ·obtain⟨a,b,c,rfl⟩:=sh3 hek;have ha:Nd a:=hk a (by simp);have hb':Nd b:=hk b (by simp);have hc:Nd c:=hk c (by simp);have hab:=ha.bulk;rw[he];exact⟨atq m s3 s25 e z a b c he,(apt a b c).le (by omega)⟩
 ·obtain⟨a,rfl⟩:=sh1 hek;have ha:Nd a:=hk a (aS ..);have hab:=ha.bulk;rw[he];exact⟨atr m s3 s25 e z a (by have:=iB a 3;omega) he,(ah8 a).le (by omega)⟩
 ·obtain⟨a,b,rfl⟩:=sh2 hek;have ha:Nd a:=hk a (by simp);have hb':Nd b:=hk b (by simp);have hab:=ha.bulk;have hbb:=hb'.bulk;rw[he];exact⟨atw m s3 s25 e z a b (by have:=iB a 3;omega) he,(aic a b ha).le (by omega)⟩
 ·obtain⟨a,b,rfl⟩:=sh2 hek;have ha:Nd a:=hk a (by simp);have hb':Nd b:=hk b (by simp);have hab:=ha.bulk;have hbb:=hb'.bulk;rw[he];exact⟨atx m s3 s25 e z a b (fun x=>cmpD x a==0) (by have:=iB b 3;omega) (by have:=iB b 3;omega) (fun x hx=>auy x a m (by have:=p9 hx;omega) (by have:=p9 hx;omega)) he,(aib (fun x=>cmpD x a==0) b).le (by omega)⟩
 ·rw[he];exact⟨atv m s3 s25 e z ks (by omega) (by omega) (by have:=Ef ks;have:=sP (Bd ks);omega) he,(aie ks fun e he=>(hk e he).wv).le (by omega)⟩
 ·obtain⟨a,rfl⟩:=sh1 hek;have ha:Nd a:=hk a (aS ..);have hab:=ha.bulk;rw[he];exact⟨att m s3 s25 e z a (by have:=iB a 3;omega) (by have:=iB a 3;omega) he,(aia a ha.wv).le (by omega)⟩
 ·obtain⟨a,rfl⟩:=sh1 hek;have ha:Nd a:=hk a (aS ..);have hab:=ha.bulk;rw[he];exact⟨atu m s3 s25 e z a (by have:=iB a 3;omega) (by have:=iB a 3;omega) he,(ah9 a).le (by omega)⟩
 ·exact absurd he h32
 ·exact absurd he h33
 ·rw[he];exact⟨atB m s3 s25 e z ks (by omega) (by omega) (by have:=hnm he;omega) he,(aii (L e 3) ks fun e he=>(hk e he).wv).le (by have:=GV e 3;have:=iB e 3;omega)⟩
 ·rw[he];exact⟨atA m s3 s25 e z ks (by omega) (by omega) he,(Wp ks fun e he=>(hk e he).wv).le (by omega)⟩
 ·obtain⟨a,rfl⟩:=sh1 hek;have ha:Nd a:=hk a (aS ..);have hab:=ha.bulk;rw[he];exact⟨aty m s3 s25 e z a he,(zV 3 (I a 0) (by omega)).le (by omega)⟩
 ·rw[he];exact⟨atz m s3 s25 e z ks _ (anq ks hk (by omega) (m+3) (by omega) (by omega)) he,(ail ks anp hk).le (by have:(vE []).bulk=6:=rfl;omega)⟩
theorem opR:∃c,aV (m+6) e ks=some c∧Rs c 1900000000∧nm1 c=nm1 (opS (I e 0) e ks (mgS ks)):=by
 obtain⟨g1,g37,hek,hnm,_⟩:=Eh hn;rw[←hl]at hek hnm;have hB:=wK ks hk;rcases AY g1 g37 with he|he|he|he|he|he|he|he|he|he|he|he|he|he|he|he|he|he|he|he|he|he|he|he|he|he|he|he|he|he|he|he|he|he|he|he|he;all_goals rw[he]at hek
 ·exact absurd he h1
 ·exact absurd he h2
 ·exact absurd he h3
 ·rw[he];exact⟨_,awm m e ks (by omega) (by omega) he,(zL 4 ks).le (by omega),rfl⟩
 ·obtain⟨a,b,rfl⟩:=sh2 hek;have ha:Nd a:=hk a (by simp);have hb':Nd b:=hk b (by simp);have hab:=ha.bulk;have hbb:=hb'.bulk;rw[he];exact⟨_,awo m e a b he,(zL 5 [a,b]).le (by omega),rfl⟩
 ·rw[he];exact⟨_,awn m e ks (by omega) (by omega) he,(zL 6 ks).le (by omega),rfl⟩
 ·obtain⟨a,b,rfl⟩:=sh2 hek;have ha:Nd a:=hk a (by simp);have hb':Nd b:=hk b (by simp);have hab:=ha.bulk;have hbb:=hb'.bulk;rw[he];exact⟨_,awp m e a b he,(zL 7 [a,b]).le (by omega),rfl⟩
 ·obtain⟨a,b,rfl⟩:=sh2 hek;have ha:Nd a:=hk a (by simp);have hb':Nd b:=hk b (by simp);have hab:=ha.bulk;have hbb:=hb'.bulk;rw[he];exact⟨_,awq m e a b he,(zL 8 [a,b]).le (by omega),rfl⟩
 ·obtain⟨a,b,rfl⟩:=sh2 hek;have ha:Nd a:=hk a (by simp);have hb':Nd b:=hk b (by simp);have hab:=ha.bulk;have hbb:=hb'.bulk;rw[he];exact⟨_,awr m e a b _ (Bw a b (m+1) (by omega) (by omega)) he,(tN 9 (cmpD a b)).le (by omega),rfl⟩
 ·obtain⟨a,b,rfl⟩:=sh2 hek;have ha:Nd a:=hk a (by simp);have hb':Nd b:=hk b (by simp);have hab:=ha.bulk;have hbb:=hb'.bulk;rw[he];exact⟨_,atC m e a b _ (Bw a b (m+1) (by omega) (by omega)) he,(tN 10 (cmpD a b)).le (by omega),rfl⟩
 ·obtain⟨a,b,rfl⟩:=sh2 hek;have ha:Nd a:=hk a (by simp);have hb':Nd b:=hk b (by simp);have hab:=ha.bulk;have hbb:=hb'.bulk;rw[he];exact⟨_,atD m e a b _ (Bw a b (m+1) (by omega) (by omega)) he,(tN 11 (cmpD a b)).le (by omega),rfl⟩
 ·obtain⟨a,b,rfl⟩:=sh2 hek;have ha:Nd a:=hk a (by simp);have hb':Nd b:=hk b (by simp);have hab:=ha.bulk;have hbb:=hb'.bulk;rw[he];exact⟨_,atE m e a b _ (Bw a b (m+1) (by omega) (by omega)) he,(tN 12 (cmpD a b)).le (by omega),rfl⟩
 ·obtain⟨a,b,rfl⟩:=sh2 hek;have ha:Nd a:=hk a (by simp);have hb':Nd b:=hk b (by simp);have hab:=ha.bulk;have hbb:=hb'.bulk;rw[he];exact⟨_,atF m e a b _ (Bw a b (m+1) (by omega) (by omega)) he,(tN 13 (cmpD a b)).le (by omega),rfl⟩
 ·obtain⟨a,b,rfl⟩:=sh2 hek;have ha:Nd a:=hk a (by simp);have hb':Nd b:=hk b (by simp);have hab:=ha.bulk;have hbb:=hb'.bulk;rw[he];exact⟨_,atG m e a b _ (Bw a b (m+1) (by omega) (by omega)) he,(tN 14 (cmpD a b)).le (by omega),rfl⟩
 ·obtain⟨a,b,rfl⟩:=sh2 hek;have ha:Nd a:=hk a (by simp);have hb':Nd b:=hk b (by simp);have hab:=ha.bulk;have hbb:=hb'.bulk;rw[he];exact⟨_,atH m e a b _ (Bw a b (m+1) (by omega) (by omega)) he,(tN 15 (cmpD a b)).le (by omega),rfl⟩
 ·rw[he];exact⟨_,atI m e ks (by omega) (by omega) (fun d hd=>(hk d hd).rs.k0) he,(aem 16 ks).le (by omega),rfl⟩
 ·rw[he];exact⟨_,atJ m e ks (by omega) (by omega) (fun d hd=>(hk d hd).rs.k0) he,(aem 17 ks).le (by omega),rfl⟩
 ·obtain⟨a,rfl⟩:=sh1 hek;have ha:Nd a:=hk a (aS ..);have hab:=ha.bulk;rw[he];exact⟨_,atK m e a ha.rs.k0 he,(CG (!trB a)).le (by omega),rfl⟩
 ·obtain⟨a,b,c,rfl⟩:=sh3 hek;have ha:Nd a:=hk a (by simp);have hb':Nd b:=hk b (by simp);have hc:Nd c:=hk c (by simp);have hab:=ha.bulk;rw[he];exact⟨_,atL m e a b c ha.rs.k0 he,(apu a b c hb' hc).le (by omega),rfl⟩
 ·obtain⟨a,b,rfl⟩:=sh2 hek;have ha:Nd a:=hk a (by simp);have hb':Nd b:=hk b (by simp);have hab:=ha.bulk;have hbb:=hb'.bulk;rw[he];exact⟨_,atM m e a b he,(aij a b ha hb').le (by omega),rfl⟩
 ·rw[he];exact⟨abA ks,atO m e ks (by omega) (by omega) (fun d hd=>by have:=vX d 2;have:=(hk d hd).bulk;omega) he,(ano ks).le (by omega),(anl ks).symm⟩
 ·obtain⟨a,rfl⟩:=sh1 hek;have ha:Nd a:=hk a (aS ..);have hab:=ha.bulk;rw[he];exact⟨_,atP m e a (by have:=vX a 2;omega) (by have:=vX a 2;omega) he,(Ee 22 a).le (by omega),rfl⟩
 ·obtain⟨a,rfl⟩:=sh1 hek;have ha:Nd a:=hk a (aS ..);have hab:=ha.bulk;rw[he];exact⟨_,atQ m e a (by have:=vX a 2;omega) (by have:=vX a 2;omega) he,(Ee 23 a).le (by omega),rfl⟩
 ·obtain⟨a,rfl⟩:=sh1 hek;have ha:Nd a:=hk a (aS ..);have hab:=ha.bulk;rw[he];exact⟨_,atS m e a he,(Ee 24 a).le (by omega),rfl⟩
 ·obtain⟨a,b,c,rfl⟩:=sh3 hek;have ha:Nd a:=hk a (by simp);have hb':Nd b:=hk b (by simp);have hc:Nd c:=hk c (by simp);have hab:=ha.bulk;rw[he];exact⟨_,atT m e a b c (by have:=vX a 2;omega) he,(apt a b c).le (by omega),rfl⟩
 ·obtain⟨a,rfl⟩:=sh1 hek;have ha:Nd a:=hk a (aS ..);have hab:=ha.bulk;rw[he];exact⟨_,atU m e a (by have:=iB a 3;omega) (by have:=iB a 3;omega) he,(ah8 a).le (by omega),rfl⟩
 ·obtain⟨a,b,rfl⟩:=sh2 hek;have ha:Nd a:=hk a (by simp);have hb':Nd b:=hk b (by simp);have hab:=ha.bulk;have hbb:=hb'.bulk;rw[he];exact⟨_,atX m e a b he,(aic a b ha).le (by omega),rfl⟩
 ·obtain⟨a,b,rfl⟩:=sh2 hek;have ha:Nd a:=hk a (by simp);have hb':Nd b:=hk b (by simp);have hab:=ha.bulk;have hbb:=hb'.bulk;rw[he];exact⟨_,atY m e a b (fun x=>cmpD x a==0) (by have:=iB b 3;omega) (by have:=iB b 3;omega) (fun x hx=>auz x a m (by have:=p9 hx;omega) (by omega)) he,(aib (fun x=>cmpD x a==0) b).le (by omega),rfl⟩
 ·rw[he];exact⟨_,atZ m e ks (by omega) (by omega) (by have:=Ef ks;have:=sP (Bd ks);omega) he,(aie ks fun e he=>(hk e he).wv).le (by omega),rfl⟩
 ·obtain⟨a,rfl⟩:=sh1 hek;have ha:Nd a:=hk a (aS ..);have hab:=ha.bulk;rw[he];exact⟨_,atV m e a (by have:=iB a 3;omega) (by have:=iB a 3;omega) he,(aia a ha.wv).le (by omega),rfl⟩
 ·obtain⟨a,rfl⟩:=sh1 hek;have ha:Nd a:=hk a (aS ..);have hab:=ha.bulk;rw[he];exact⟨_,atW m e a (by have:=iB a 3;omega) (by have:=iB a 3;omega) he,(ah9 a).le (by omega),rfl⟩
 ·exact absurd he h32
 ·exact absurd he h33
 ·rw[he];exact⟨_,at6 m e ks (by omega) (by omega) (by have:=hnm he;omega) he,(aii (L e 3) ks fun e he=>(hk e he).wv).le (by have:=GV e 3;have:=iB e 3;omega),rfl⟩
 ·rw[he];exact⟨_,at5 m e ks (by omega) (by omega) he,(Wp ks fun e he=>(hk e he).wv).le (by omega),rfl⟩
 ·obtain⟨a,rfl⟩:=sh1 hek;have ha:Nd a:=hk a (aS ..);have hab:=ha.bulk;rw[he];exact⟨_,at0 m e a he,(zV 3 (I a 0) (by omega)).le (by omega),rfl⟩
 ·rw[he];exact⟨mgR (vE []) ks,at1 m e ks _ (anr ks hk (by omega) (m+3) (by omega) (by omega)) he,(aik ks anp hk).le (by have:(vE []).bulk=6:=rfl;omega),(aeu ks hk).symm⟩
end
structure Vv (v:Dt):Prop where
 wv:WV v
 bk:v.bulk<=4300800
 sn:v=aj∨∃k,sndF nm k v=true
theorem Nd.vv{v:Dt}(h:Nd v):Vv v:=by
 refine⟨h.wv,h.bulk,?_⟩;rcases h with h| ⟨_,h⟩;·exact .inl h
 ·rw[okV]at h;simp only[aK]at h;exact .inr ⟨_,h.2⟩
theorem Nd.elems{a:Dt}(h:Nd a):∀x∈L a 3,Vv x:=by
 intro x hx;have hb:=h.bulk;have hm:=p9 hx;rcases h.vv.sn with rfl| ⟨k,hk⟩;·exact absurd hx (by intro h;cases h)
 ·obtain⟨h1,h2⟩:=Y4 h.wv hk x hx;exact⟨h1,by omega,.inr h2⟩
theorem Nd.few{a:Dt}(h:Nd a)(h6:I a 0=6):(L a 3).length<=1024:=by
 rcases h with rfl| ⟨hw,ho⟩;·exact aC _
 ·have h1:=GX hw;have h2:=Wt nds at7 (sQ a);have h3:sQ a=L a 3:=by rw[sQ,h6];rfl
  rw[okV]at ho;simp only[aK,decide_eq_true_eq]at ho;rw[h3]at h1 h2;omega
theorem an0(n:Nat)(p:List Dt):atN n aj p=aj:=by
 cases n with
 |zero=>rfl
 |succ n=>cases p with
  |nil=>rfl
  |cons s r=>rfl
theorem apF{v:Dt}(h:Vv v)(n:Nat)(p:List Dt):Rs (atN n v p) 4300800:=by
 obtain⟨h1,h2⟩:=N8 n v p h.wv;refine⟨h1,Nat.le_trans h2 h.bk,?_⟩;rcases h.sn with rfl| ⟨k,hk⟩;·exact .inl (an0 n p)
 ·exact apr n v p k hk
theorem ajx(n:Nat)(p:List Dt)(s:ByteArray):∀(env:List (ByteArray×Dt)),(∀q∈env,Vv q.2)->Rs (NZ (fun v=>atN n v p) s env) 4300800
 | [],_=>Wn.le (by omega)
 |q::r,h=>by rw[NZ];exact fG (apF (h q (aS ..)) n p) (ajx n p s r fun x hx=>h x (bA _ hx))
theorem auA(op:Int)(g:Dt->Dt){v:Dt}(hv:Nd v)(h6:I v 0=6)(hg:∀x∈L v 3,Nd (g x)):Rs (wF (lpS op g (L v 3))) 4500000000:=by
 have hl:=hv.few h6;have hb:=hv.bulk;unfold lpS;cases (op==32)
 ·rw[cond_false];refine Wo (fun e he=>(hv.elems e (List.mem_filter.1 he).1).wv) ?_;have h1:=uL (g:=fun e=>e) (q:=fun x=>trB (g x)) (l:=L v 3) fun e _=>ak _;rw[List.map_id']at h1;have h2:=GV v 3;omega
 ·rw[cond_true,show (List.map (fun x=>orN (g x)) (L v 3))=((L v 3).map g).map orN by rw[List.map_map];rfl];have hn:∀k∈(L v 3).map g,Nd k:=fun k hk=>by obtain⟨x,hx,rfl⟩:=List.mem_map.1 hk;exact hg x hx
  have h1:=wK _ hn;rw[List.length_map]at h1;exact(Wp _ fun e he=>(hn e he).wv).le (by omega)
def cpS(r:Nat)(e doc:Dt)(env:List (ByteArray×Dt)):Dt:=
    bif I e 0==1 then fld e 4
    else bif I e 0==2 then atN 4300801 doc (L e 1)
    else bif I e 0==3 then NZ (fun v=>atN 4300801 v (L e 1)) (S e 2) env
    else bif I e 0==32||I e 0==33 then
     bif isK 6 (evS mgS r ((L e 6).getD 0 aj) doc env)then
      wF (lpS (I e 0) (fun x=>evS mgS r ((L e 6).getD 1 aj) doc ((S e 2,x)::env)) (L (evS mgS r ((L e 6).getD 0 aj) doc env) 3))
     else kV 2 0
    else opS (I e 0) e ((L e 6).map fun k=>evS mgS r k doc env) (mgS ((L e 6).map fun k=>evS mgS r k doc env))
theorem OV(r:Nat)(e doc:Dt)(env:List (ByteArray×Dt)):evS mgS (r+1) e doc env=nm1 (cpS r e doc env):=rfl
theorem ajy(s:ByteArray)(x:Dt)(env:List (ByteArray×Dt)):bnL ((s,x)::env)=bnL env++[.agg [.str s,x]]:=by rw[bnL,List.reverse_cons,List.map_append];rfl
theorem Xf(env:List (ByteArray×Dt)):(bnL env).length=env.length:=by rw[bnL,List.length_map,List.length_reverse]
theorem an1{b:Dt}{env:List (ByteArray×Dt)}(h:b∈bnL env):∃q∈env,fld b 1=q.2:=by obtain⟨q,hq,rfl⟩:=List.mem_map.1 h;exact⟨q,List.mem_reverse.1 hq,rfl⟩
structure EvI (r:Nat) (e doc:Dt) (env:List (ByteArray×Dt)):Prop where
 nd:Nd (evS mgS r e doc env)
 pr:∀q:Nat,14000000000+8*r<=q->q<899999990000->cZ q e doc (scD env)=some (evS mgS r e doc env)
 rf:∀q:Nat,14000000000+8*r<=q->q<899999990000->bM q e doc (bnL env)=some (evS mgS r e doc env)
theorem ajz{e:Dt}(hn:nodeS e=0)(h:I e 0=32∨I e 0=33):∃a b,L e 6=[a,b]:=by obtain⟨_,_,hek,_,_⟩:=Eh hn;rcases h with h|h<;>rw[h]at hek<;>exact sh2 hek
theorem ajA(r:Nat)(e doc:Dt)(env:List (ByteArray×Dt))(hn:nodeS e=0)(hnl:env.length<=16)(hk:∀k∈L e 6,EvI r k doc env)(hkl:(I e 0=32∨I e 0=33)->∀k∈L e 6,∀x,Vv x->EvI r k doc ((S e 2,x)::env))(m:Nat)(hm:14000000000+8*r<=m)(hm2:m<899999989999)(h:I e 0=32∨I e 0=33):Rs (cpS r e doc env) 4500000000∧eG (m+1) e doc (scD env)=some (cpS r e doc env)∧dK (m+1) e doc (bnL env)=some (cpS r e doc env):=by
 obtain⟨a,b,hab⟩:=ajz hn h;have ha:a∈L e 6:=by rw[hab];exact aS ..
 have hbm:b∈L e 6:=by rw[hab];exact bA _ (aS ..)
 have ka:=hk a ha;have kb:=hkl h b hbm;have i0:idx (L e 6) 0=some a:=by rw[hab];exact am7 a [b]
 have i1:idx (L e 6) 1=some b:=by rw[hab];exact bG (l:=[a,b]) (i:=1) (by simp)
 obtain⟨m,rfl⟩:∃q,m=q+2:=⟨m-2,by omega⟩;have e0:cpS r e doc env=bif isK 6 (evS mgS r a doc env)then wF (lpS (I e 0) (fun x=>evS mgS r b doc ((S e 2,x)::env)) (L (evS mgS r a doc env) 3))else kV 2 0:=by rw[cpS,hab];rcases h with h|h<;>rw[h]<;>rfl
 have hvb:=ka.nd.bulk;have hlb:=iB (evS mgS r a doc env) 3;have hel:=ka.nd.elems;have p1:=ka.pr (m+2) (by omega) (by omega);have q1:=ka.rf (m+2) (by omega) (by omega);rw[e0,eG,dK,i0,ah,ah,p1,q1,ah,ah,isK];cases h6:(I (evS mgS r a doc env) 0==6)
 ·rw[show (I (evS mgS r a doc env) 0 !=6)=true by rw[bne,h6];rfl];exact⟨lQ.le (by omega),rfl,rfl⟩
 ·rw[show (I (evS mgS r a doc env) 0 !=6)=false by rw[bne,h6];rfl,cond_true];have h6':I (evS mgS r a doc env) 0=6:=by simpa using h6
  have kg:=fun x hx=>kb x (hel x hx);refine⟨auA _ _ ka.nd h6' fun x hx=>(kg x hx).nd,?_,?_⟩
  ·have key:=aei m (cZ (m+2)) (scD env) e doc aj b (L (evS mgS r a doc env) 3) (fun x=>evS mgS r b doc ((S e 2,x)::env)) (by omega) i1 (fun x hx=>(kg x hx).pr (m+2) (by omega) (by omega)) (Nat.succ (m+2)) 0 [] (aC _) (ak _) (by omega);rw[aH,List.nil_append]at key;exact key
  ·have key:=Y1 m (bM (m+2)) (bnL env) e doc aj (evS mgS r a doc env) b (fun x=>evS mgS r b doc ((S e 2,x)::env)) (by omega) (by rw[Xf];omega) i1 (fun x hx=>by rw[←ajy];exact(kg x hx).rf (m+2) (by omega) (by omega)) (fun x hx=>(kg x hx).nd.rs.k0) (Nat.succ (m+2)) 0 [] (aC _) (ak _) (by omega);rw[aH,List.nil_append]at key;exact key
section
variable(r:Nat)(e doc:Dt)(env:List (ByteArray×Dt))(hn:nodeS e=0)(h256:(L e 6).length<=256)(hb:e.bulk<=100000000)(h4:WV (fld e 4))(hd:Vv doc)(hv:∀q∈env,Vv q.2)(hnl:env.length<=16)
 (hk:∀k∈L e 6,EvI r k doc env)(hkl:(I e 0=32∨I e 0=33)->∀k∈L e 6,∀x,Vv x->EvI r k doc ((S e 2,x)::env))
 (m:Nat)(hm:14000000000+8*r<=m)(hm2:m<899999989999)
include hn h256 hb h4 hd hv hnl hk hkl hm hm2
theorem ajB:Rs (cpS r e doc env) 4500000000∧fF (m+2) e doc (scD env)=some (cpS r e doc env):=by
 obtain⟨_,_,_,_,hv1⟩:=Eh hn;have hf4:=oU e 4;by_cases k1:I e 0=1
 ·have e0:cpS r e doc env=fld e 4:=by rw[cpS,k1];rfl
  rw[e0,fF,k1];exact⟨(show Nd (fld e 4)from .inr ⟨h4,hv1 k1⟩).rs.le (by omega),rfl⟩
 by_cases k2:I e 0=2
 ·have e0:cpS r e doc env=atN 4300801 doc (L e 1):=by rw[cpS,k2];rfl
  have hA:=V8 4300800 m doc (L e 1) hd.bk (by omega) (by have:=hd.bk;omega);rw[e0,fF,k2];refine⟨(apF hd _ _).le (by omega),?_⟩;show ((bZ (m+1) doc (L e 1)).bind _:Option Dt)=_;rw[hA];rfl
 by_cases k3:I e 0=3
 ·have e0:cpS r e doc env=NZ (fun v=>atN 4300801 v (L e 1)) (S e 2) env:=by rw[cpS,k3];rfl
  rw[e0,fF,k3];refine⟨(ajx _ _ _ env hv).le (by omega),?_⟩;exact YW (m+1) (cZ (m+1)) (eG (m+1)) e aj (fun v=>atN 4300801 v (L e 1)) env (Nat.succ (m+1)) (by omega) fun p hp=>V8 4300800 m p.2 (L e 1) (hv p hp).bk (by omega) (by have:=(hv p hp).bk;omega)
 by_cases kl:I e 0=32∨I e 0=33
 ·obtain⟨l1,l2,_⟩:=ajA r e doc env hn hnl hk hkl m hm hm2 kl;refine⟨l1,?_⟩;have:fF (m+2) e doc (scD env)=((eG (m+1) e doc (scD env)).bind fun x=>some x):=by rw[fF];rcases kl with h|h<;>rw[h]<;>rfl
  rw[this,l2];rfl
 ·have k32:I e 0≠32:=fun h=>kl (.inl h);have k33:I e 0≠33:=fun h=>kl (.inr h);have f1:(I e 0==1)=false:=by rw[beq_eq_false_iff_ne];exact k1
  have f2:(I e 0==2)=false:=by rw[beq_eq_false_iff_ne];exact k2
  have f3:(I e 0==3)=false:=by rw[beq_eq_false_iff_ne];exact k3
  have f32:(I e 0==32)=false:=by rw[beq_eq_false_iff_ne];exact k32
  have f33:(I e 0==33)=false:=by rw[beq_eq_false_iff_ne];exact k33
  have e0:cpS r e doc env=opS (I e 0) e ((L e 6).map fun k=>evS mgS r k doc env) (mgS ((L e 6).map fun k=>evS mgS r k doc env)):=by rw[cpS,f1,f2,f3,f32,f33];rfl
  obtain⟨q,rfl⟩:∃q,m=q+4:=⟨m-4,by omega⟩;have hks:∀k∈(L e 6).map fun k=>evS mgS r k doc env,Nd k:=fun k h=>by obtain⟨x,hx,rfl⟩:=List.mem_map.1 h;exact(hk x hx).nd
  obtain⟨o1,o2⟩:=opP q e aj ((L e 6).map fun k=>evS mgS r k doc env) hks (by rw[List.length_map]) (by rw[List.length_map];exact h256) hb (by omega) (by omega) hn k1 k2 k3 k32 k33 (cZ (q+5)) (eG (q+5));have key:=YZ (q+5) (cZ (q+5)) (eG (q+5)) (scD env) e doc aj (L e 6) (fun k=>evS mgS r k doc env) (by omega) (fun k hk'=>(hk k hk').pr (q+5) (by omega) (by omega)) (Nat.succ (q+5)) 0 (aC _) (by omega);rw[List.take_zero,List.map_nil,List.nil_append,Nat.sub_zero,o1]at key;rw[e0];refine⟨o2.le (by omega),?_⟩;rw[fF,f1,f2,f3,f32,f33];show ((mkL ((L e 6).length:Int) ((L e 6).length:Int) aj).bind _:Option Dt)=_;rw[Bv (by omega),ah];exact key
theorem aq8(hm3:m<899999989993):bM (m+7) e doc (bnL env)=some (nm1 (cpS r e doc env)):=by
 obtain⟨hR,_⟩:=ajB r e doc env hn h256 hb h4 hd hv hnl hk hkl m hm hm2;have hbk:=hR.bk;have rv:=fun(c:Dt)(h:Rs c 4500000000)=>ah6 (m+2) (bM (m+6)) (dK (m+6)) aj c h.wv (fun h0=>by rcases h.nz with h|h;exact h;omega) (by have:=h.bk;omega) (by omega) (by have:=h.bk;omega);by_cases k1:I e 0=1
 ·have e0:cpS r e doc env=fld e 4:=by rw[cpS,k1];rfl
  rw[←rv _ hR,e0,bM,k1];rfl
 by_cases k2:I e 0=2
 ·have e0:cpS r e doc env=atN 4300801 doc (L e 1):=by rw[cpS,k2];rfl
  have hA:=Wd 4300800 (m+5) doc (L e 1) hd.bk (by omega) (by have:=hd.bk;omega);rw[←rv _ hR,e0,bM,k2];show ((iA (m+6) doc (L e 1)).bind _:Option Dt)=_;rw[hA];rfl
 by_cases k3:I e 0=3
 ·have e0:cpS r e doc env=NZ (fun v=>atN 4300801 v (L e 1)) (S e 2) env:=by rw[cpS,k3];rfl
  have key:=Jy (m+6) (bM (m+6)) (dK (m+6)) e aj (fun v=>atN 4300801 v (L e 1)) (bnL env) (by rw[Xf];omega) (fun b hb=>by obtain⟨q,hq,hq2⟩:=an1 hb;rw[hq2];exact Wd 4300800 (m+5) q.2 (L e 1) (hv q hq).bk (by omega) (by have:=(hv q hq).bk;omega)) (Nat.succ (m+6)) 0 aj (aC _) (by rw[Xf];omega)
  rw[aH]at key;rw[←rv _ hR,e0,bM,k3];exact key.trans (congrArg (fO (m+6) (bM (m+6)) (dK (m+6)) aj) (YX (fun v=>atN 4300801 v (L e 1)) (S e 2) env))
 by_cases kl:I e 0=32∨I e 0=33
 ·obtain⟨l1,_,l2⟩:=ajA r e doc env hn hnl hk hkl (m+5) (by omega) (by omega) kl;have:bM (m+7) e doc (bnL env)=((dK (m+6) e doc (bnL env)).bind fun x=>fO (m+6) (bM (m+6)) (dK (m+6)) aj x):=by rw[bM];rcases kl with h|h<;>rw[h]<;>rfl
  rw[this,l2,←rv _ hR];rfl
 ·have k32:I e 0≠32:=fun h=>kl (.inl h);have k33:I e 0≠33:=fun h=>kl (.inr h);have f1:(I e 0==1)=false:=by rw[beq_eq_false_iff_ne];exact k1
  have f2:(I e 0==2)=false:=by rw[beq_eq_false_iff_ne];exact k2
  have f3:(I e 0==3)=false:=by rw[beq_eq_false_iff_ne];exact k3
  have f32:(I e 0==32)=false:=by rw[beq_eq_false_iff_ne];exact k32
  have f33:(I e 0==33)=false:=by rw[beq_eq_false_iff_ne];exact k33
  have e0:cpS r e doc env=opS (I e 0) e ((L e 6).map fun k=>evS mgS r k doc env) (mgS ((L e 6).map fun k=>evS mgS r k doc env)):=by rw[cpS,f1,f2,f3,f32,f33];rfl
  have hks:∀k∈(L e 6).map fun k=>evS mgS r k doc env,Nd k:=fun k h=>by obtain⟨x,hx,rfl⟩:=List.mem_map.1 h;exact(hk x hx).nd
  obtain⟨c,o1,o2,o3⟩:=opR m e ((L e 6).map fun k=>evS mgS r k doc env) hks (by rw[List.length_map]) (by rw[List.length_map];exact h256) hb (by omega) (by omega) hn k1 k2 k3 k32 k33;have key:=Ua (m+6) (bM (m+6)) (dK (m+6)) (bnL env) e doc aj aj (fun k=>evS mgS r k doc env) (by omega) (fun k hk'=>(hk k hk').rf (m+6) (by omega) (by omega)) (Nat.succ (m+6)) 0 [] (aC _) (ak _) (by omega);rw[aH,List.nil_append,wS,o1,ah,rv c (o2.le (by omega)),o3,←e0]at key;rw[bM,f1,f2,f3,f32,f33];exact key
end
theorem aeP:∀(r:Nat),r<=16->∀(e doc:Dt)(env:List (ByteArray×Dt)),VE r e->WE e->e.bulk<=100000000->Vv doc->(∀q∈env,Vv q.2)->env.length+r<=16->EvI r e doc env
 |0,_,_,_,_,h,_,_,_,_,_=>h.elim
 |r+    1,hr,e,doc,env,hve,hwe,hb,hd,hv,hl=>by
  obtain⟨hn,h256,hks⟩:=hve;cases hwe with
  |mk h4 h6=>
   have hk:∀k∈L e 6,∀env':List (ByteArray×Dt),(∀q∈env',Vv q.2)->env'.length+r<=16->EvI r k doc env':=fun k hk env' hv' hl'=>aeP r (by omega) k doc env' (hks k hk) (h6 k hk) (by have:=p9 hk;omega) hd hv' hl';have hk1:=fun k hm=>hk k hm env hv (by omega);have hkl:(I e 0=32∨I e 0=33)->∀k∈L e 6,∀x,Vv x->EvI r k doc ((S e 2,x)::env):=fun _ k hm x hx=>hk k hm _ (fun q hq=>by
        rcases List.mem_cons.1 hq with rfl|hq;·exact hx
        ·exact hv q hq) (by rw[List.length_cons];omega)
   have cP:=ajB r e doc env hn h256 hb h4 hd hv (by omega) hk1 hkl;have cR:=aq8 r e doc env hn h256 hb h4 hd hv (by omega) hk1 hkl;have hR:=(cP (14000000000+8*r) (ak _) (by omega)).1;refine⟨?_,fun q h1 h2=>?_,fun q h1 h2=>?_⟩
   ·    rw[OV];exact aqE hR.wv
   ·    obtain⟨m,rfl⟩:∃m,q=m+4:=⟨q-4,by omega⟩;have hc:=(cP (m+1) (by omega) (by omega)).2;rw[OV];exact ank m e doc (scD env) _ hc hR.wv (by have:=hR.bk;omega) (by have:=hR.bk;omega)
   ·    obtain⟨m,rfl⟩:∃m,q=m+7:=⟨q-7,by omega⟩;rw[OV];exact cR m (by omega) (by omega) (by omega)
theorem UA(m:Nat)(self:Dt->Option Dt)(l:List Dt)(hl:l.length<9223372036854775807)(hs:∀e∈l,self e=some e)(z x3 x4:Dt)(x5 x6:Int)(x7:ByteArray):∀(M i:Nat),i<=l.length->l.length-i<M->
  lY m self M l (l.length:Int) (i:Int) x3 x4 x5 x6 x7 (l.take i++List.replicate (l.length-i) z)=zq m self x3 x4 x5 x6 x7 l
 |0,i,_,h=>by omega
 |M+1,i,hi,h=>by
  simp only[lY,dlt];by_cases hlt:i<l.length
  ·have hx:i<(l.take i++List.replicate (l.length-i) z).length:=by rw[Jk l z i hi];exact hlt
   simp only[hlt,decide_true,cond_true,zk,zh,bG hlt,ah,hs _ (aI hlt),xV hx,Int.toNat_natCast,aF hx,DU l z i hlt,bQ (show i<9223372036854775807 by omega)];exact UA m self l hl hs z x3 x4 x5 x6 x7 M (i+1) (by omega) (by omega)
  ·have e:i=l.length:=by omega
   subst e;simp
theorem UC(m:Nat)(self:Dt->Option Dt)(l:List Dt)(hl:l.length<9223372036854775807)(hf:∀f∈l,∃s v,f= .agg [.str s,v]∧self v=some v)(z x3:Dt)(x4 x5:Int)(x6:ByteArray)(x7:List Dt):∀(M i:Nat),i<=l.length->l.length-i<M->
  oZ m self M l (l.length:Int) (i:Int) x3 x4 x5 x6 x7 (l.take i++List.replicate (l.length-i) z)=some (.agg [.int x4,.int x5,.str x6,.lst x7,.lst l])
 |0,i,_,h=>by omega
 |M+1,i,hi,h=>by
  simp only[oZ,dlt];by_cases hlt:i<l.length
  ·have hx:i<(l.take i++List.replicate (l.length-i) z).length:=by rw[Jk l z i hi];exact hlt
   obtain⟨s,v,e1,e2⟩:=hf _ (aI hlt);have e3:agg [.str (S l[i] 0),v]=l[i]:=by rw[e1];rfl
   have e4:fld l[i] 1=v:=by rw[e1];rfl
   simp only[hlt,decide_true,cond_true,zn,zl,bG hlt,ah,e4,e2,e3,xV hx,Int.toNat_natCast,aF hx,DU l z i hlt,bQ (show i<9223372036854775807 by omega)];exact UC m self l hl hf z x3 x4 x5 x6 x7 M (i+1) (by omega) (by omega)
  ·have e:i=l.length:=by omega
   subst e;simp[zo]
theorem OW(m:Nat)(self:Dt->Option Dt)(l:List Dt)(hl:l.length<9223372036854775807)(hf:∀f∈l,∃s v,f= .agg [.str s,v]∧self v=some v)(z x3:Dt)(x4 x5:Int)(x6:ByteArray)(x7:List Dt):∀(M i:Nat),i<=l.length->l.length-i<M->
  mD m self M l (l.length:Int) (i:Int) x3 x4 x5 x6 x7 (l.take i++List.replicate (l.length-i) z)=some (.agg [.int x4,.int x5,.str x6,.lst x7,.lst l])
 |0,i,_,h=>by omega
 |M+1,i,hi,h=>by
  simp only[mD,dlt];by_cases hlt:i<l.length
  ·have hx:i<(l.take i++List.replicate (l.length-i) z).length:=by rw[Jk l z i hi];exact hlt
   obtain⟨s,v,e1,e2⟩:=hf _ (aI hlt);have e3:agg [.str (S l[i] 0),v]=l[i]:=by rw[e1];rfl
   have e4:fld l[i] 1=v:=by rw[e1];rfl
   simp only[hlt,decide_true,cond_true,wN,wM,bG hlt,ah,e4,e2,e3,xV hx,Int.toNat_natCast,aF hx,DU l z i hlt,bQ (show i<9223372036854775807 by omega)];exact OW m self l hl hf z x3 x4 x5 x6 x7 M (i+1) (by omega) (by omega)
  ·have e:i=l.length:=by omega
   subst e;simp[wO]
theorem J4:∀(N:Nat)(d:Dt),d.bulk<=N->N<=137438953472->WV d->∀m,N<=m->bR (m+1) d=some d
 |0,d,h,_,_,_,_=>by have:=jc d;omega
 |N +   1,d,h,hN,hw,m,hm=>by
  cases hw with
  | @mk   k i t l ds hl hd=>
    rw[qH]at h;obtain⟨m,rfl⟩:∃q,m=q+1:=⟨m-1,by omega⟩;have hself:∀e∈l,bR (m+1) e=some e:=fun e he=>J4 N e (by have:=rT he;omega) (by omega) (hl e he) m (by omega);have hfld:∀f∈ds,∃s v,f= .agg [.str s,v]∧bR (m+1) v=some v:=fun f hf=>by
        have hb:=rT hf;cases hd f hf with
        | @mk s v hv=>
          rw[AU]at hb;exact⟨s,v,rfl,J4 N v (by omega) (by omega) hv m (by omega)⟩
    have hl1:=oV l;have hd1:=oV ds;show (bif (decide ((0:Int)<((l.length:Nat):Int)))then _ else _)=_;have key6:=fun(x3:Dt)(x7:List Dt)(z:Dt)=>UC (m+1) (bR (m+1)) ds (by omega) hfld z x3 k i t x7 (m+2) 0 (by omega) (by omega);have key13:=fun(x3:Dt)(x7:List Dt)(z:Dt)=>OW (m+1) (bR (m+1)) ds (by omega) hfld z x3 k i t x7 (m+2) 0 (by omega) (by omega);simp only[List.take_zero,List.nil_append,Nat.sub_zero]at key6 key13;by_cases h0:0<l.length
    ·   have e0:decide ((0:Int)<((l.length:Nat):Int))=true:=by simp;omega
        have key:=fun(x3 x4:Dt)(z:Dt)=>UA (m+1) (bR (m+1)) l (by omega) hself z x3 x4 k i t (m+2) 0 (by omega) (by omega);simp only[List.take_zero,List.nil_append,Nat.sub_zero]at key;rw[e0];simp only[cond_true];show Option.bind (mkL ((l.length:Nat):Int) ((l.length:Nat):Int) _) _=_;rw[Bv (by omega),ah];show lY (m+1) (bR (m+1)) (m+2) l ((l.length:Nat):Int) ((0:Nat):Int) _ _ k i t _=_;rw[key];show (bif (decide ((0:Int)<((ds.length:Nat):Int)))then _ else _)=_;by_cases h1:0<ds.length
        · have e1:decide ((0:Int)<((ds.length:Nat):Int))=true:=by simp;omega
          rw[e1];simp only[cond_true];show Option.bind (mkL ((ds.length:Nat):Int) ((ds.length:Nat):Int) _) _=_;rw[Bv (by omega),ah];exact key6 _ _ _
        · have e1:decide ((0:Int)<((ds.length:Nat):Int))=false:=by rw[decide_eq_false_iff_not];omega
          have e2:ds=[]:=List.length_eq_zero_iff.1 (by omega);subst e2;rfl
    ·   have e0:decide ((0:Int)<((l.length:Nat):Int))=false:=by rw[decide_eq_false_iff_not];omega
        have e3:l=[]:=List.length_eq_zero_iff.1 (by omega);subst e3;show (bif (decide ((0:Int)<((ds.length:Nat):Int)))then _ else _)=_;by_cases h1:0<ds.length
        · have e1:decide ((0:Int)<((ds.length:Nat):Int))=true:=by simp;omega
          rw[e1];simp only[cond_true];show Option.bind (mkL ((ds.length:Nat):Int) ((ds.length:Nat):Int) _) _=_;rw[Bv (by omega),ah];exact key13 _ _ _
        · have e2:ds=[]:=List.length_eq_zero_iff.1 (by omega);subst e2;rfl
end Go.Proofs.YtmecfjhdnbgfeaaGreatDoor
namespace Go.Proofs.YtmecfjhdnbgfeaaGreatDoor
open Go.Am
def evE(e doc:Dt):Dt:=evS mgS 16 e doc []
structure EvT (e doc:Dt):Prop where
 nd:Nd (evE e doc)
 pr:∀q:Nat,14000001000<=q->q<899999980000->kR q e doc=some (evE e doc)
 rf:∀q:Nat,14000001000<=q->q<899999980000->ko q e doc=some (evE e doc)
theorem aq9(e doc:Dt)(hw:WE e)(hb:e.bulk<=100000000)(hc:(ckE 16 e 0).2=0)(hd:Nd doc):EvT e doc:=by
 have hI:=aeP 16 (ak _) e doc [] (Wu 16 e 0 (by omega) hc).2 hw hb hd.vv (fun q h=>by cases h) (by simp);refine⟨hI.nd,fun q h1 h2=>?_,fun q h1 h2=>?_⟩
 ·obtain⟨m,rfl⟩:∃m,q=m+24:=⟨q-24,by omega⟩;have hv:=ahJ 100000000 (ak _) m (by omega) (by omega) e hw hb;have hE:=hI.pr (m+23) (by omega) (by omega);have hbk:=hI.nd.bulk;have hcl:=J4 4300800 (evS mgS 16 e doc []) hbk (by omega) hI.nd.wv (m+22) (by omega);rw[kR,hv,ah,hc];show ((cZ (m+23) e doc (scD [])).bind _:Option Dt)=_;rw[hE,ah,hcl];rfl
 ·obtain⟨m,rfl⟩:∃m,q=m+24:=⟨q-24,by omega⟩;have hv:=abh 100000000 (ak _) m (by omega) (by omega) e hw hb;have hE:=hI.rf (m+23) (by omega) (by omega);rw[ko,hv,ah,hc];show ((bM (m+23) e doc (bnL [])).bind _:Option Dt)=_;rw[hE,ah];show (bif Dt.I (evE e doc) 0==0 then some aj else some (evE e doc))=_;cases h0:(Dt.I (evE e doc) 0==0);·rfl
  ·have h0':Dt.I (evE e doc) 0=0:=by simpa using h0
   rcases hI.nd.rs.nz with h|h;·rw[show evE e doc=aj from h];rfl
   ·    have h:1<=Dt.I (evE e doc) 0:=h;omega
end Go.Proofs.YtmecfjhdnbgfeaaGreatDoor
namespace Go.Proofs.YtmecfjhdnbgfeaaGreatDoor
open Go.Am Dt
theorem apG(m:Nat)(self5:List Dt->List Dt->Option Bool)(self:Dt->Dt->Option Bool)(d:Dt)(hl:(L d 4).length<1000000000000)(hs:∀f∈L d 4,self (fld f 1) (fld f 1)=some true)(hL:self5 (L d 3) (L d 3)=some true):∀(M i:Nat),i<=(L d 4).length->(L d 4).length-i<M->lW m self5 self M ((L d 4).length:Int) (i:Int) d d=some true
 |0,i,_,h=>by omega
 |M+1,i,hi,h=>by
  simp only[lW,dlt];by_cases hlt:i<(L d 4).length
  ·simp only[hlt,decide_true,cond_true,uP,bG hlt,ah,beq_self_eq_true,Bool.not_true,cond_false,hs _ (aI hlt),bQ (show i<9223372036854775807 by omega)];exact apG m self5 self d hl hs hL M (i+1) (by omega) (by omega)
  ·simp only[hlt,decide_false,cond_false,hL,ah]
theorem ajC(m:Nat)(self:Dt->Dt->Option Bool)(l:List Dt)(hl:l.length<1000000000000)(hs:∀e∈l,self e e=some true):∀(M i:Nat),i<=l.length->l.length-i<M->kS m self M l l (l.length:Int) (i:Int)=some true
 |0,i,_,h=>by omega
 |M+1,i,hi,h=>by
  simp only[kS,dlt];by_cases hlt:i<l.length
  ·simp only[hlt,decide_true,cond_true,bG hlt,ah,Bool.not_true,cond_false,hs _ (aI hlt),bQ (show i<9223372036854775807 by omega)];exact ajC m self l hl hs M (i+1) (by omega) (by omega)
  ·simp only[hlt,decide_false,cond_false]
theorem OX(m:Nat)(l:List Dt)(hl:l.length<=m)(hl2:l.length<1000000000000)(hs:∀e∈l,dO m e e=some true):bY (m+1) l l=some true:=by show (bif ((((l.length:Nat):Int) !=((l.length:Nat):Int)):Bool)then some false else xY m (dO m) l l)=_;rw[bne_self_eq_false];exact ajC m (dO m) l hl2 hs (m+1) 0 (aC _) (by omega)
theorem Ik:∀(N:Nat)(d:Dt),d.bulk<=N->N<1000000000000->∀m,2*N<=m->dO (m+1) d d=some true
 |0,d,h,_,_,_=>by have:=pO d;omega
 |N+1,d,h,hN,m,hm=>by obtain⟨m,rfl⟩:∃k,m=k+2:=⟨m-2,by omega⟩;have h3:=iB d 3;have h4:=iB d 4;have hL:=OX (m+1) (L d 3) (by omega) (by omega) fun e he=>Ik N e (by have:=p9 he;omega) (by omega) m (by omega);have key:=apG (m+2) (bY (m+2)) (dO (m+2)) d (by omega) (fun f hf=>Ik N (fld f 1) (by have:=p9 hf;have:=oU f 1;omega) (by omega) (m+1) (by omega)) hL (m+3) 0 (aC _) (by omega);rw[dO];simp only[bne_self_eq_false,beq_self_eq_true,Bool.not_true,cond_false,oW];exact key
section
variable(bs:List Dt)
def bAt(i:Nat):Dt:=bs.getD i aj
def F3(b:Dt)(n:Int):Dt:=agg [(int 5),(int 0),(str (ByteArray.mk (List.toArray []))),(lst []),(lst [(agg [(str (ByteArray.mk (List.toArray [95,105,100]))),b]),(agg [(str (ByteArray.mk (List.toArray [99,111,117,110,116]))),agg [(int 3),(int n),(str (ByteArray.mk (List.toArray []))),(lst []),(lst [])]])])]
theorem acd{i:Nat}(h:i<bs.length):bAt bs i=bs[i]:=by unfold bAt;rw[List.getD,aF h];rfl
def ace:Prop:=∀i,i+1<bs.length->cmpD (bAt bs i) (bAt bs (i+1))<0
variable{bs}
theorem ace.lt(h:ace bs){i:Nat}:∀(d:Nat),i+d+1<bs.length->cmpD (bAt bs i) (bAt bs (i+d+1))<0
 |0,hj=>h i hj
 |d+1,hj=>Ce.ltl (h.lt d (by omega)) (Int.le_of_lt (h (i+d+1) (by omega)))
theorem ace.lt'(h:ace bs){i j:Nat}(hij:i<j)(hj:j<bs.length):cmpD (bAt bs i) (bAt bs j)<0:=by have:=h.lt (i:=i) (j-i-1) (by omega);rw[show i+(j-i-1)+1=j by omega]at this;exact this
structure Cut (bs:List Dt) (v:Dt) (p:Nat):Prop where
 le:p<=bs.length
 lo:∀k,k<p->cmpD (bAt bs k) v<0
 hi:∀k,p<=k->k<bs.length->0<=cmpD (bAt bs k) v
def fnB(bs:List Dt)(v:Dt)(p:Nat):Bool:=decide (p<bs.length)&&(cmpD (bAt bs p) v==0)
theorem Cut.gt{v:Dt}{p:Nat}(h:Cut bs v p)(ha:ace bs){k:Nat}(h1:p<k)(h2:k<bs.length):0<cmpD (bAt bs k) v:=by have a1:=h.hi p (ak _) (by omega);have a2:=ha.lt' h1 h2;have a3:=Ce.anti (bAt bs p) v;have a4:=Ce.anti (bAt bs k) v;have:=Ce.ltr (a:=v) (b:=bAt bs p) (d:=bAt bs k) (by omega) a2;omega
end
end Go.Proofs.YtmecfjhdnbgfeaaGreatDoor
namespace Go.Proofs.YtmecfjhdnbgfeaaGreatDoor
open Go.Am
abbrev GL:=List (Dt×Nat)
def xw:GL->Dt->GL
 | [],v=>[(v,1)]
 |(a,n)::r,v=>bif cmpD a v==0 then(a,n+1)::r else(a,n)::xw r v
def gAt(G:GL)(i:Nat):Dt:=(G.getD i (aj,0)).1
def gN(G:GL)(i:Nat):Nat:=(G.getD i (aj,0)).2
def oB(G:GL)(O:List Nat):List Dt:=O.map (gAt G)
structure OI (G:GL) (O:List Nat):Prop where
 rng:∀i∈O,i<G.length
 all:∀i,i<G.length->i∈O
 asc:(oB G O).Pairwise fun a b=>cmpD a b<0
theorem OI.nil:OI [] []:=⟨fun i h=>(by cases h),fun i h=>(by simp at h),.nil⟩
theorem qZ(G:GL)(O:List Nat):(oB G O).length=O.length:=by rw[oB,List.length_map]
theorem UD{G:GL}{O:List Nat}{p:Nat}(h:p<O.length):bAt (oB G O) p=gAt G O[p]:=by rw[acd _ (by rw[qZ];exact h)];simp only[oB,List.getElem_map]
theorem ara{bs:List Dt}(h:bs.Pairwise fun a b=>cmpD a b<0):ace bs:=fun i hi=>by rw[acd bs (by omega),acd bs hi];exact List.pairwise_iff_getElem.1 h i (i+1) (by omega) hi (by omega)
theorem OI.ascB{G:GL}{O:List Nat}(h:OI G O):ace (oB G O):=ara h.asc
theorem tT{a b c:Dt}(h1:cmpD a c=0)(h2:cmpD b c=0):cmpD a b=0:=by have a1:=Ce.anti b c;have a2:=Ce.anti a c;have a3:=Ce.anti a b;have t1:=Ce.tr a c b (by omega) (by omega);have t2:=Ce.tr b c a (by omega) (by omega);omega
theorem OI.ne{G:GL}{O:List Nat}(h:OI G O){i j:Nat}(hi:i<G.length)(hj:j<G.length)(hij:i≠j):cmpD (gAt G i) (gAt G j)≠0:=by
 obtain⟨p,hp,rfl⟩:=List.getElem_of_mem (h.all i hi);obtain⟨q,hq,rfl⟩:=List.getElem_of_mem (h.all j hj);have hpq:p≠q:=fun e=>hij (by subst e;rfl);have hb:=List.pairwise_iff_getElem.1 h.asc;have e:∀(k:Nat)(hk:k<O.length),(oB G O)[k]'(by rw[qZ];exact hk)=gAt G O[k]:=fun k hk=>by simp only[oB,List.getElem_map]
 rcases Nat.lt_or_gt_of_ne hpq with hl|hl
 ·have:=hb p q (by rw[qZ];exact hp) (by rw[qZ];exact hq) hl;rw[e p hp,e q hq]at this;omega
 ·have:=hb q p (by rw[qZ];exact hq) (by rw[qZ];exact hp) hl;rw[e p hp,e q hq]at this;have:=Ce.anti (gAt G O[p]) (gAt G O[q]);omega
theorem OY(x:Dt×Nat)(r:GL):gAt (x::r) 0=x.1:=rfl
theorem OZ:∀(G:GL)(v:Dt)(i:Nat),i<G.length->cmpD (gAt G i) v=0->(∀j,j<i->cmpD (gAt G j) v≠0)->xw G v=G.set i (gAt G i,gN G i+1)
 | [],_,_,h,_,_=>by simp at h
 |(a,n)::r,v,0,_,h,_=>by rw[OY]at h;rw[xw,show (cmpD a v==0)=true by simpa using h];rfl
 |(a,n)::r,v,i+1,hl,h,hn=>by have h0:=hn 0 (by omega);rw[OY]at h0;rw[xw,show (cmpD a v==0)=false by simpa using h0,cond_false,OZ r v i (by simpa using hl) h fun j hj=>hn (j+1) (by omega)];rfl
theorem Il:∀(G:GL)(v:Dt),(∀j,j<G.length->cmpD (gAt G j) v≠0)->xw G v=G++[(v,1)]
 | [],_,_=>rfl
 |(a,n)::r,v,hn=>by have h0:=hn 0 (by simp);rw[OY]at h0;rw[xw,show (cmpD a v==0)=false by simpa using h0,cond_false,Il r v fun j hj=>hn (j+1) (by simpa using hj)];rfl
theorem Bq{G:GL}{i:Nat}{n:Nat}(j:Nat):gAt (G.set i (gAt G i,n)) j=gAt G j:=by
 unfold gAt;simp only[List.getD_eq_getElem?_getD,List.getElem?_set];by_cases hij:i=j
 ·subst hij;by_cases hl:i<G.length;·rw[if_pos rfl,if_pos hl];rfl
  ·rw[if_pos rfl,if_neg hl,List.getElem?_eq_none (by omega)]
 ·rw[if_neg hij]
theorem OI.found{G:GL}{O:List Nat}(h:OI G O){v:Dt}{p:Nat}(hp:Cut (oB G O) v p)(hf:fnB (oB G O) v p=true):∃hp':p<O.length,xw G v=G.set O[p] (gAt G O[p],gN G O[p]+1)∧OI (xw G v) O:=by
 rw[fnB,aK,decide_eq_true_eq,qZ]at hf;obtain⟨h1,h2⟩:=hf;refine⟨h1,?_⟩;rw[UD h1]at h2;have h2:cmpD (gAt G O[p]) v=0:=by simpa using h2
 have hi:=h.rng _ (aI h1);have e:=OZ G v O[p] hi h2 fun j hj he=>h.ne (show j<G.length by omega) hi (by omega) (tT he h2);refine⟨e,?_⟩;rw[e];refine⟨fun i hi=>by rw[List.length_set];exact h.rng i hi,fun i hi=>h.all i (by rw[List.length_set]at hi;exact hi),?_⟩;have:oB (G.set O[p] (gAt G O[p],gN G O[p]+1)) O=oB G O:=List.map_congr_left fun j _=>Bq j;rw[this];exact h.asc
theorem lU{G:GL}{x:Dt×Nat}{i:Nat}(h:i<G.length):gAt (G++[x]) i=gAt G i:=by unfold gAt;rw[List.getD_eq_getElem?_getD,List.getD_eq_getElem?_getD,List.getElem?_append_left h]
theorem qG{G:GL}{x:Dt×Nat}:gAt (G++[x]) G.length=x.1:=by unfold gAt;rw[List.getD_eq_getElem?_getD,List.getElem?_append_right (ak _)];simp
theorem OI.fresh{G:GL}{O:List Nat}(h:OI G O){v:Dt}{p:Nat}(hp:Cut (oB G O) v p)(hf:fnB (oB G O) v p=false):xw G v=G++[(v,1)]∧p<=O.length∧OI (xw G v) (O.take p++G.length::O.drop p):=by
 have hpl:=hp.le;rw[qZ]at hpl;have hgt:∀k(hk:k<O.length),p<=k->0<cmpD (gAt G O[k]) v:=fun k hk hpk=>by
  rcases Nat.lt_or_ge p k with hl|hl
  ·have:=hp.gt h.ascB hl (by rw[qZ];exact hk);rw[UD hk]at this;exact this
  ·have e:k=p:=by omega
   subst e;have h1:=hp.hi k (ak _) (by rw[qZ];exact hk);rw[fnB,decide_eq_true (by rw[qZ];exact hk),Bool.true_and,UD hk]at hf;rw[UD hk]at h1;have:cmpD (gAt G O[k]) v≠0:=by simpa using hf
   omega
 have hlo:∀k(hk:k<O.length),k<p->cmpD (gAt G O[k]) v<0:=fun k hk hkp=>by have:=hp.lo k hkp;rw[UD hk]at this;exact this
 have hne:∀j,j<G.length->cmpD (gAt G j) v≠0:=fun j hj=>by
  obtain⟨q,hq,rfl⟩:=List.getElem_of_mem (h.all j hj);rcases Nat.lt_or_ge q p with hl|hl;·have:=hlo q hq hl;omega
  ·have:=hgt q hq hl;omega
 have e:=Il G v hne;refine⟨e,hpl,?_⟩;rw[e];have htd:O.take p++O.drop p=O:=List.take_append_drop p O;refine⟨fun i hi=>?_,fun i hi=>?_,?_⟩
 ·rw[aB,List.length_singleton];rcases List.mem_append.1 hi with hi|hi;·have:=h.rng i (List.mem_of_mem_take hi);omega
  ·rcases List.mem_cons.1 hi with rfl|hi;·omega
   ·have:=h.rng i (List.mem_of_mem_drop hi);omega
 ·rw[aB,List.length_singleton]at hi;by_cases hl:i<G.length
  ·have:=h.all i hl;rw[←htd]at this;rcases List.mem_append.1 this with h1|h1;·exact bB _ h1
   ·exact List.mem_append_right _ (bA _ h1)
  ·have:i=G.length:=by omega
   subst this;exact List.mem_append_right _ aS
 ·have e1:∀l:List Nat,(∀i∈l,i<G.length)->oB (G++[(v,1)]) l=oB G l:=fun l hl=>List.map_congr_left fun i hi=>lU (hl i hi);have eo:oB (G++[(v,1)]) (O.take p++G.length::O.drop p)=oB G (O.take p)++v::oB G (O.drop p):=by
   have k1:=e1 (O.take p) fun i hi=>h.rng i (List.mem_of_mem_take hi);have k2:=e1 (O.drop p) fun i hi=>h.rng i (List.mem_of_mem_drop hi);unfold oB at k1 k2 ⊢
   rw[List.map_append,List.map_cons,k1,k2,qG]
  have ho:oB G (O.take p)++oB G (O.drop p)=oB G O:=by rw[oB,oB,oB,←List.map_append,htd]
  have hasc:=h.asc;rw[←ho,List.pairwise_append]at hasc;obtain⟨a1,a2,a3⟩:=hasc;have m1:∀a∈oB G (O.take p),cmpD a v<0:=fun a ha=>by obtain⟨i,hi,rfl⟩:=List.mem_map.1 ha;obtain⟨k,hk,rfl⟩:=List.getElem_of_mem hi;rw[List.length_take]at hk;rw[List.getElem_take];exact hlo k (by omega) (by omega)
  have m2:∀b∈oB G (O.drop p),cmpD v b<0:=fun b hb=>by obtain⟨i,hi,rfl⟩:=List.mem_map.1 hb;obtain⟨k,hk,rfl⟩:=List.getElem_of_mem hi;rw[List.length_drop]at hk;rw[List.getElem_drop];have:=hgt (p+k) (by omega) (by omega);have:=Ce.anti (gAt G O[p+k]) v;omega
  rw[eo,List.pairwise_append];refine⟨a1,List.pairwise_cons.2 ⟨m2,a2⟩,fun a ha b hb=>?_⟩;rcases List.mem_cons.1 hb with rfl|hb;·exact m1 a ha
  ·exact a3 a ha b hb
def grp(vs:List Dt):GL:=vs.foldl xw []
theorem O0(vs:List Dt)(v:Dt):grp (vs++[v])=xw (grp vs) v:=by rw[grp,List.foldl_append];rfl
theorem ajD(G:GL)(v:Dt):(xw G v).length<=G.length+1:=by
 induction G with
 |nil=>exact ak _
 |cons x r ih=>
  obtain⟨a,n⟩:=x;rw[xw];cases cmpD a v==0;·simpa using ih
  ·simp
end Go.Proofs.YtmecfjhdnbgfeaaGreatDoor
namespace Go.Proofs.YtmecfjhdnbgfeaaGreatDoor
open IntKind (wrap)
open Go.Am Go.Am.Srt
theorem g1(A B:List Dt)(x:Dt):(A++x::B)[A.length]? =some x:=by simp
theorem s1(A B:List Dt)(x z:Dt):(A++x::B).set A.length z=A++z::B:=by simp
theorem i1(A B:List Dt)(x:Dt):inL (A++x::B) ((A.length:Nat):Int)=some ():=by unfold inL;rw[if_pos ⟨by omega,by rw[aB,List.length_cons];omega⟩]
theorem wrN{z:Int}{n:Nat}(h:z=(n:Int))(hn:n<9223372036854775807):wrap IntKind.i64 z=(n:Int):=by rw[h,wrap64 (by omega) (by omega)]
def ltc(c:Dt->Dt->Int)(x y:Dt):Bool:=decide (c x y<0)
theorem swo{c:Dt->Dt->Int}(h:TPO c):SWO (ltc c):=⟨fun x=>by simp[ltc,h.refl],fun x y z h1 h2=>by
 simp only[ltc,decide_eq_true_eq]at h1 h2 ⊢
 exact h.ltl h1 (by omega),fun x y z h1 h2=>by
 simp only[ltc,decide_eq_false_iff_not]at h1 h2 ⊢
 have a1:=h.anti x y;have a2:=h.anti y z;have a3:=h.anti x z;have:=h.tr z y x (by omega) (by omega);omega⟩
section
theorem ZM(m:Nat):∀(M:Nat)(X P Y Q Z:List Dt)(a b i n:Nat),X.length=a+i->P.length+i=n->Q.length=P.length->X.length+P.length+Y.length=b+i->P.length<M->b+n<4611686018427387904->
  Jm m M (a:Int) (b:Int) (n:Int) (i:Int) (X++(P++(Y++(Q++Z))))=some (X++(Q++(Y++(P++Z))))
 |0,_,_,_,_,_,_,_,_,_,_,_,_,_,h,_=>by omega
 |M+1,X,[],Y,Q,Z,a,b,i,n,hX,hP,hQ,hb,hM,hl=>by
  have hin:¬i<n:=by simp at hP;omega
  obtain rfl:Q=[]:=List.length_eq_zero_iff.1 (by simpa using hQ);simp only[Jm,dlt,hin,decide_false,cond_false,List.nil_append]
 |M+1,X,p::P,Y,[],Z,a,b,i,n,hX,hP,hQ,hb,hM,hl=>by simp at hQ
 |M+1,X,p::P,Y,q::Q,Z,a,b,i,n,hX,hP,hQ,hb,hM,hl=>by
  simp only[List.length_cons]at hP hQ hb hM;have hin:i<n:=by omega
  have ea:wrap IntKind.i64 ((a:Int)+(i:Int))=((X.length:Nat):Int):=wrN (by omega) (by omega);have eb:wrap IntKind.i64 ((b:Int)+(i:Int))=(((X++p::(P++Y)).length:Nat):Int):=wrN (by simp;omega) (by simp;omega);have eb':(X++q::(P++Y)).length=(X++p::(P++Y)).length:=by simp
  have d1:X++(p::P++(Y++(q::Q++Z)))=X++p::(P++(Y++(q::(Q++Z)))):=by simp
  have d2:X++p::(P++(Y++(q::(Q++Z))))=(X++p::(P++Y))++q::(Q++Z):=by simp
  have d3:X++q::(P++(Y++(q::(Q++Z))))=(X++q::(P++Y))++q::(Q++Z):=by simp
  have hgq:(X++p::(P++(Y++(q::(Q++Z)))))[(X++p::(P++Y)).length]? =some q:=by rw[d2];exact g1 _ _ _
  have hiq:inL (X++p::(P++(Y++(q::(Q++Z))))) (((X++p::(P++Y)).length:Nat):Int)=some ():=by rw[d2];exact i1 _ _ _
  have hgq2:(X++q::(P++(Y++(q::(Q++Z)))))[(X++p::(P++Y)).length]? =some q:=by rw[d3,←eb'];exact g1 _ _ _
  have hiq2:inL (X++q::(P++(Y++(q::(Q++Z))))) (((X++p::(P++Y)).length:Nat):Int)=some ():=by rw[d3,←eb'];exact i1 _ _ _
  have hs2:(X++q::(P++(Y++(q::(Q++Z))))).set (X++p::(P++Y)).length p=(X++q::(P++Y))++p::(Q++Z):=by rw[d3,←eb'];exact s1 _ _ _ _
  rw[d1];simp only[Jm,dlt,hin,decide_true,cond_true,ea,eb,hiq,hgq,hiq2,hgq2,hs2,i1,g1,s1,ah,Int.toNat_natCast,bQ (show i<9223372036854775807 by omega)];have ih:=ZM m M (X++[q]) P (Y++[p]) Q Z a b (i+1) n (by simp;omega) (by omega) (by omega) (by simp;omega) (by omega) hl;simp only[List.append_assoc,List.cons_append,List.nil_append]at ih ⊢
  exact ih
theorem acf(m:Nat)(X P Y Q Z:List Dt)(b n:Nat)(hP:P.length=n)(hQ:Q.length=n)(hb:X.length+P.length+Y.length=b)(hm:n<=m)(hl:b+n<4611686018427387904):
  i27 (m+1) (X.length:Int) (b:Int) (n:Int) (X++(P++(Y++(Q++Z))))=some (X++(Q++(Y++(P++Z)))):=
 ZM m (m+1) X P Y Q Z X.length b 0 n rfl (by omega) (by omega) (by omega) (by omega) hl
theorem vK{A:Type}(l:List A)(k:Nat)(h:k<=l.length):∃p q,l=p++q∧p.length=k:=⟨l.take k,l.drop k,(List.take_append_drop k l).symm,by simp;omega⟩
theorem O1(m:Nat):∀(M:Nat)(X U V Z:List Dt)(k i j:Nat),X.length+U.length=k->U.length=i->V.length=j->0<i->0<j->i+j<=M->i+j<=m->k+j<2305843009213693952->
  Cg (m+1) M (k:Int) (i:Int) (j:Int) (X++(U++(V++Z)))=some (X++(V++(U++Z)))
 |0,_,_,_,_,_,_,_,_,_,_,_,_,h,_,_=>by omega
 |M+    1,X,U,V,Z,k,i,j,hk,hU,hV,hi,hj,hM,hm,hl=>by
  have ewi:wrap IntKind.i64 ((k:Int)-(i:Int))=((X.length:Nat):Int):=wrN (by omega) (by omega);by_cases hij:i=j
  ·subst hij;have e:(((i:Int) !=(i:Int)):Bool)=false:=by simp
   have hs:=acf m X U [] V Z k i hU hV (by simp;omega) (by omega) (by omega);simp only[List.nil_append]at hs;simp only[Cg,e,cond_false,ewi,hs,ah]
  ·have e:(((i:Int) !=(j:Int)):Bool)=true:=by simp only[bne_iff_ne];omega
   by_cases hlt:j<i
   ·    obtain⟨U1,U2,rfl,h1⟩:=vK U j (by omega);rw[aB]at hU hk;have hs:=acf m X U1 U2 V Z k j h1 hV (by omega) (by omega) (by omega);have ewj:wrap IntKind.i64 ((i:Int)-(j:Int))=(((i-j:Nat):Nat):Int):=wrN (by omega) (by omega);have ih:=O1 m M (X++V) U2 U1 Z k (i-j) j (by simp;omega) (by omega) (by omega) (by omega) hj (by omega) (by omega) hl;simp only[List.append_assoc]at ih hs ⊢
        simp only[Cg,e,cond_true,dlt,hlt,decide_true,ewi,hs,ah,ewj,ih]
   ·    obtain⟨V1,V2,rfl,h1⟩:=vK V (j-i) (by omega);rw[aB]at hV;have hs:=acf m X U V1 V2 Z (k+(j-i)) i hU (by omega) (by omega) (by omega) (by omega);have ewb:wrap IntKind.i64 (wrap IntKind.i64 ((k:Int)+(j:Int))-(i:Int))=(((k+(j-i):Nat):Nat):Int):=by have e0:wrap IntKind.i64 ((k:Int)+(j:Int))=((k+j:Nat):Int):=wrN (by omega) (by omega);rw[e0];exact wrN (by omega) (by omega)
        have ewj:wrap IntKind.i64 ((j:Int)-(i:Int))=(((j-i:Nat):Nat):Int):=wrN (by omega) (by omega);have ih:=O1 m M X V2 V1 (U++Z) k i (j-i) (by omega) (by omega) (by omega) hi (by omega) (by omega) (by omega) (by omega);simp only[List.append_assoc]at ih hs ⊢
        simp only[Cg,e,cond_true,dlt,hlt,decide_false,cond_false,ewi,ewb,hs,ah,ewj,ih]
theorem arb(m:Nat)(X U V Z:List Dt)(a k b:Nat)(ha:X.length=a)(hk:a+U.length=k)(hb:k+V.length=b)(hU:0<U.length)(hV:0<V.length)(hm:b<=m)(hl:b<1152921504606846976):
  i26 (m+2) (a:Int) (k:Int) (b:Int) (X++(U++(V++Z)))=some (X++(V++(U++Z))):=by
 have e1:wrap IntKind.i64 ((k:Int)-(a:Int))=((U.length:Nat):Int):=wrN (by omega) (by omega);have e2:wrap IntKind.i64 ((b:Int)-(k:Int))=((V.length:Nat):Int):=wrN (by omega) (by omega);simp only[i26,e1,e2];exact O1 m (m+2) X U V Z k U.length V.length (by omega) rfl rfl hU hV (by omega) (by omega) (by omega)
end
section
variable{c:Dt->Dt->Int}(hc:TPO c){P:Dt->Prop}{m0:Nat}(hC:∀m,m0<=m->∀x y,P x->P y->dF m x y=some (c x y))
include hc hC
theorem ajE(m:Nat)(hm:m0<=m)(rec1:Int->Int->Int->List Dt->Option (List Dt))(a:Nat)(x1 x2:Int):∀(n M:Nat)(X S:List Dt)(x:Dt)(Z:List Dt)(j:Nat),S.length=n->X.length=a->a+S.length=j->n<M->(∀y∈S,P y)->P x->Asc (ltc c) S->j<4611686018427387904->
  Jo m rec1 M (a:Int) x1 x2 (j:Int) (X++(S++x::Z))=rec1 (a:Int) x1 (wrap IntKind.i64 (x2+1)) (X++(bO (ltc c) (S++[x])++Z))
 |_,0,_,_,_,_,_,_,_,_,h,_,_,_,_=>by omega
 |0,M+1,X,S,x,Z,j,hn,hX,hj,hM,hS,hx,hA,hl=>by
  obtain rfl:S=[]:=List.length_eq_zero_iff.1 hn;have:¬a<j:=by simp at hj;omega
  simp only[Jo,dlt,this,decide_false,cond_false,List.nil_append,bO,ins,List.singleton_append]
 |n+    1,M+1,X,S,x,Z,j,hn,hX,hj,hM,hS,hx,hA,hl=>by
  have h:=swo hc;have hne:S≠[]:=by rintro rfl;simp at hn
  obtain⟨S',y,rfl⟩:∃S' y,S=S'++[y]:=⟨S.dropLast,S.getLast hne,(List.dropLast_concat_getLast hne).symm⟩;simp only[aB,List.length_cons,List.length_nil]at hn hj;have haj:a<j:=by omega
  obtain⟨hA1,_,hA2⟩:=gP hA;have hy:P y:=hS y (by simp);have d0:X++(S'++[y]++x::Z)=(X++S')++y::x::Z:=by simp
  have d1:(X++S')++y::x::Z=(X++(S'++[y]))++x::Z:=by simp
  have d2:(X++S')++y::x::Z=(X++S')++y::(x::Z):=rfl;have lj:(X++(S'++[y])).length=j:=by simp;omega
  have lj1:(X++S').length=j-1:=by simp;omega
  have ej:wrap IntKind.i64 ((j:Int)-1)=((j-1:Nat):Int):=wrN (by omega) (by omega);have gx:((X++S')++y::x::Z)[j]? =some x:=by rw[d1,←lj];exact g1 _ _ _
  have ix:inL ((X++S')++y::x::Z) (j:Int)=some ():=by rw[d1,←lj];exact i1 _ _ _
  have gy:((X++S')++y::x::Z)[j-1]? =some y:=by rw[←lj1];exact g1 _ _ _
  have iy:inL ((X++S')++y::x::Z) ((j-1:Nat):Int)=some ():=by rw[←lj1];exact i1 _ _ _
  have sx:((X++S')++y::x::Z).set j y=(X++S')++y::y::Z:=by rw[d1,←lj,s1];simp
  have gy2:((X++S')++y::y::Z)[j-1]? =some y:=by rw[←lj1];exact g1 _ _ _
  have iy2:inL ((X++S')++y::y::Z) ((j-1:Nat):Int)=some ():=by rw[←lj1];exact i1 _ _ _
  have sy:((X++S')++y::y::Z).set (j-1) x=X++(S'++x::(y::Z)):=by rw[←lj1,s1];simp
  rw[d0];simp only[Jo,dlt,haj,decide_true,cond_true,ix,gx,ej,iy,gy,ah,Int.toNat_natCast,hC m hm x y hx hy];cases hlt:decide (c x y<0)
  ·have hxy:ltc c x y=false:=hlt;have hasc:Asc (ltc c) (S'++[y]++[x]):=uO hA ⟨by simp,trivial⟩ (fun s hs z hz=>by
        rw[List.mem_singleton]at hz;subst hz;rcases List.mem_append.1 hs with hs|hs;·exact h.ntr _ _ _ hxy (hA2 s hs y (by simp))
        ·rw[List.mem_singleton]at hs;subst hs;exact hxy)
   simp only[cond_false];rw[nJ hasc];simp
  ·have hxy:ltc c x y=true:=hlt;simp only[cond_true,ix,gx,ej,iy,gy,sx,iy2,gy2,sy,ah,Int.toNat_natCast];have ih:=ajE m hm rec1 a x1 x2 n M X S' x (y::Z) (j-1) (by omega) hX (by omega) (by omega) (fun z hz=>hS z (by simp[hz])) hx hA1 (by omega);rw[ih];have e1:bO (ltc c) (S'++[y]++[x])=bO (ltc c) (S'++[x])++[y]:=by
        have hsw:=GZ h hxy S' [];have hsp:=Mg h (X:=S'++[x]) (Y:=[y]) (fun s hs z hz=>by
         rw[List.mem_singleton]at hz;subst hz;rcases List.mem_append.1 hs with hs|hs;·exact hA2 s hs z (by simp)
         ·rw[List.mem_singleton]at hs;subst hs;exact h.asy hxy)
        simp only[List.append_assoc,List.singleton_append]at hsp hsw ⊢
        rw[hsw,hsp];rfl
   rw[e1];simp
theorem aeQ(m:Nat)(hm:m0<=m)(a b:Nat)(hl:b<4611686018427387904)(X Z:List Dt)(hX:X.length=a):∀(n M:Nat)(S Y:List Dt)(i:Nat),Y.length=n->n<M->b<=m->a+S.length=i->i+Y.length=b->(∀y∈S,P y)->(∀y∈Y,P y)->
  AZ m M (a:Int) (b:Int) (i:Int) (X++(bO (ltc c) S++(Y++Z)))=some (X++(bO (ltc c) (S++Y)++Z))
 |_,0,_,_,_,_,h,_,_,_,_,_=>by omega
 |0,M+1,S,Y,i,hn,hM,hm2,hi,hb,hS,hY=>by
  obtain rfl:Y=[]:=List.length_eq_zero_iff.1 hn;have:¬i<b:=by simp at hb;omega
  simp only[AZ,dlt,this,decide_false,cond_false,List.nil_append,List.append_nil]
 |n+1,M+1,S,[],i,hn,hM,hm2,hi,hb,hS,hY=>by simp at hn
 |n+1,M+1,S,y::Y,i,hn,hM,hm2,hi,hb,hS,hY=>by
  have h:=swo hc;simp only[List.length_cons]at hn hb;have hib:i<b:=by omega
  have hin:=ajE hc hC m hm (AZ m M) a (b:Int) (i:Int) S.length (m+1) X (bO (ltc c) S) y (Y++Z) i (isort_len S) hX (by rw[isort_len];omega) (by omega) (fun z hz=>hS z (mem_isort.1 hz)) (hY y (by simp)) (pQ h S) (by omega);have ih:=aeQ m hm a b hl X Z hX n M (S++[y]) Y (i+1) (by omega) (by omega) hm2 (by simp;omega) (by omega) (fun z hz=>by
   rcases List.mem_append.1 hz with hz|hz;·exact hS z hz
   ·rw[List.mem_singleton]at hz;subst hz;exact hY z (by simp)) (fun z hz=>hY z (by simp[hz]))
  simp only[AZ,dlt,hib,decide_true,cond_true,List.cons_append];rw[show Nat.succ m=m+1 from rfl,hin,bQ (by omega),jd h];simp only[List.append_assoc,List.singleton_append]at ih ⊢
  exact ih
theorem ajF(m:Nat)(hm:m0<=m)(X Y Z:List Dt)(a b:Nat)(ha:X.length=a)(hb:a+Y.length=b)(hm2:b<=m)(hl:b<4611686018427387904)(hY:∀y∈Y,P y):
  i23 (m+1) (a:Int) (b:Int) (X++(Y++Z))=some (X++(bO (ltc c) Y++Z)):=by
 simp only[i23,bQ (show a<9223372036854775807 by omega)];cases Y with
 |nil=>
  have:¬a+1<b:=by simp at hb;omega
  simp only[AZ,dlt,this,decide_false,cond_false,bO]
 |cons y Y=>
  have:=aeQ hc hC m hm a b hl X Z ha Y.length (m+1) [y] Y (a+1) rfl (by simp at hb;omega) hm2 rfl (by simp at hb;omega) (fun z hz=>by rw[List.mem_singleton]at hz;subst hz;exact hY z (by simp)) (fun z hz=>hY z (by simp[hz]));simp only[bO,ins,List.singleton_append]at this;exact this
end
theorem auB{n:Int}(h0:0<=n)(h1:n<9223372036854775807):wrap IntKind.u64 n=n:=by unfold wrap;simp only[IntKind.bits,IntKind.signed,Bool.false_and,Bool.false_eq_true,if_false];omega
theorem half{i j:Nat}(h:i+j<4611686018427387904):wrap IntKind.i64 (shrI IntKind.u64 (wrap IntKind.u64 (wrap IntKind.i64 ((i:Int)+(j:Int)))) 1)=(((i+j)/2:Nat):Int):=by
 have e1:wrap IntKind.i64 ((i:Int)+(j:Int))=((i+j:Nat):Int):=wrN (by omega) (by omega);have e2:wrap IntKind.u64 ((i+j:Nat):Int)=((i+j:Nat):Int):=auB (by omega) (by omega);have e3:shrI IntKind.u64 ((i+j:Nat):Int) 1=(((i+j)/2:Nat):Int):=by show Int.fdiv ((i+j:Nat):Int) 2=_;rw[Int.fdiv_eq_ediv_of_nonneg _ (by omega)];omega
 rw[e1,e2,e3];exact wrN rfl (by omega)
theorem Eo{A:Type}(l:List A)(k:Nat)(h:k<l.length):∃p x q,l=p++x::q∧p.length=k:=by
 obtain⟨p,q,rfl,hp⟩:=vK l k (by omega);cases q with
 |nil=>simp at h;omega
 |cons x q=>exact⟨p,x,q,rfl,hp⟩
section
theorem aeR(m:Nat)(self:Int->Int->Int->List Dt->Option (List Dt)):∀(S:List Dt)(M:Nat)(X:List Dt)(x:Dt)(Z:List Dt)(k i:Nat),X.length=k->k+S.length+1=i->S.length<M->i<4611686018427387904->
   Fx m self M (i:Int) (k:Int) (X++x::(S++Z))=some (X++(S++x::Z))
 |_,0,_,_,_,_,_,_,_,h,_=>by omega
 | [],M+1,X,x,Z,k,i,hX,hi,hM,hl=>by
   have e:wrap IntKind.i64 ((i:Int)-1)=((i-1:Nat):Int):=wrN (by simp at hi;omega) (by omega);have:¬k<i-1:=by simp at hi;omega
   simp only[Fx,e,dlt,this,decide_false,cond_false,List.nil_append]
 | y::S,M+1,X,x,Z,k,i,hX,hi,hM,hl=>by
   simp only[List.length_cons]at hi hM;have e:wrap IntKind.i64 ((i:Int)-1)=((i-1:Nat):Int):=wrN (by omega) (by omega);have hk:k<i-1:=by omega
   have lX:(X++[x]).length=k+1:=by simp;omega
   have lX2:(X++[y]).length=k+1:=by simp;omega
   have d1:X++x::(y::S++Z)=(X++[x])++y::(S++Z):=by simp
   have d2:X++y::(y::S++Z)=(X++[y])++y::(S++Z):=by simp
   have gy:(X++x::(y::S++Z))[k+1]? =some y:=by rw[d1,←lX];exact g1 _ _ _
   have iy:inL (X++x::(y::S++Z)) ((k+1:Nat):Int)=some ():=by rw[d1,←lX];exact i1 _ _ _
   have gx:(X++x::(y::S++Z))[k]? =some x:=by rw[←hX];exact g1 _ _ _
   have ix:inL (X++x::(y::S++Z)) (k:Int)=some ():=by rw[←hX];exact i1 _ _ _
   have sx:(X++x::(y::S++Z)).set k y=X++y::(y::S++Z):=by rw[←hX];exact s1 _ _ _ _
   have gy2:(X++y::(y::S++Z))[k+1]? =some y:=by rw[d2,←lX2];exact g1 _ _ _
   have iy2:inL (X++y::(y::S++Z)) ((k+1:Nat):Int)=some ():=by rw[d2,←lX2];exact i1 _ _ _
   have sy:(X++y::(y::S++Z)).set (k+1) x=(X++[y])++x::(S++Z):=by rw[d2,←lX2,s1]
   have ih:=aeR m self S M (X++[y]) x Z (k+1) i lX2 (by omega) (by omega) hl;simp only[Fx,e,dlt,hk,decide_true,cond_true,bQ (show k<9223372036854775807 by omega),gy,iy,gx,ix,sx,gy2,iy2,sy,ah,Int.toNat_natCast,ih];simp
theorem UE(m:Nat)(self:Int->Int->Int->List Dt->Option (List Dt)):∀(n M:Nat)(X S:List Dt)(y:Dt)(Z:List Dt)(i k:Nat),S.length=n->X.length=i->i+S.length=k->n<M->k<4611686018427387904->
  A8 m self M (i:Int) (k:Int) (X++(S++y::Z))=some (X++y::(S++Z))
 |_,0,_,_,_,_,_,_,_,_,_,h,_=>by omega
 |0,M+1,X,S,y,Z,i,k,hn,hX,hk,hM,hl=>by
  obtain rfl:S=[]:=List.length_eq_zero_iff.1 hn;have:¬i<k:=by simp at hk;omega
  simp only[A8,dlt,this,decide_false,cond_false,List.nil_append]
 |n+1,M+1,X,S,y,Z,i,k,hn,hX,hk,hM,hl=>by
  have hne:S≠[]:=by rintro rfl;simp at hn
  obtain⟨S',x,rfl⟩:∃S' x,S=S'++[x]:=⟨S.dropLast,S.getLast hne,(List.dropLast_concat_getLast hne).symm⟩;simp only[aB,List.length_cons,List.length_nil]at hn hk;have hik:i<k:=by omega
  have ek:wrap IntKind.i64 ((k:Int)-1)=((k-1:Nat):Int):=wrN (by omega) (by omega);have d0:X++(S'++[x]++y::Z)=(X++S')++x::(y::Z):=by simp
  have d1:(X++S')++x::(y::Z)=(X++(S'++[x]))++y::Z:=by simp
  have lk0:(X++S').length=k-1:=by simp;omega
  have lk1:(X++(S'++[x])).length=k:=by simp;omega
  have gy:((X++S')++x::(y::Z))[k]? =some y:=by rw[d1,←lk1];exact g1 _ _ _
  have iy:inL ((X++S')++x::(y::Z)) (k:Int)=some ():=by rw[d1,←lk1];exact i1 _ _ _
  have gx:((X++S')++x::(y::Z))[k-1]? =some x:=by rw[←lk0];exact g1 _ _ _
  have ix:inL ((X++S')++x::(y::Z)) ((k-1:Nat):Int)=some ():=by rw[←lk0];exact i1 _ _ _
  have sk:((X++S')++x::(y::Z)).set k x=(X++S')++x::(x::Z):=by rw[d1,←lk1,s1];simp
  have gx2:((X++S')++x::(x::Z))[k-1]? =some x:=by rw[←lk0];exact g1 _ _ _
  have ix2:inL ((X++S')++x::(x::Z)) ((k-1:Nat):Int)=some ():=by rw[←lk0];exact i1 _ _ _
  have sk2:((X++S')++x::(x::Z)).set (k-1) y=X++(S'++y::(x::Z)):=by rw[←lk0,s1];simp
  have ih:=UE m self n M X S' y (x::Z) i (k-1) (by omega) hX (by omega) (by omega) (by omega);rw[d0];simp only[A8,dlt,hik,decide_true,cond_true,ek,gy,iy,gx,ix,sk,gx2,ix2,sk2,ah,Int.toNat_natCast,ih];simp
end
section
variable{c:Dt->Dt->Int}(hc:TPO c){P:Dt->Prop}{m0:Nat}(hC:∀m,m0<=m->∀x y,P x->P y->dF m x y=some (c x y))
include hc hC
theorem an2(m:Nat)(hm:m0<=m)(self:Int->Int->Int->List Dt->Option (List Dt))(X Z:List Dt)(x:Dt)(a:Nat)(hX:X.length=a)(hx:P x):∀(n M:Nat)(R1 T R2:List Dt)(i j:Nat),T.length=n->n<M->a+1+R1.length=i->i+T.length=j->j<1152921504606846976->
  (∀y∈R1,ltc c y x=true)->(∀y∈R2,ltc c y x=false)->Asc (ltc c) T->(∀y∈T,P y)->
  ∃Ra Rb,R1++(T++R2)=Ra++Rb∧(∀y∈Ra,ltc c y x=true)∧(∀y∈Rb,ltc c y x=false)∧Ck m self M (a:Int) (i:Int) (j:Int) (X++x::(R1++(T++R2)++Z))=VN m self (a:Int) ((a+1+Ra.length:Nat):Int) (X++x::(R1++(T++R2)++Z)):=by
 have h:=swo hc;intro n;induction n using Nat.strongRecOn with
 |_ n   ihn=>
  intro M R1 T R2 i j hn hM hi hj hl h1 h2 hA hP;obtain⟨M,rfl⟩:∃k,M=k+1:=⟨M-1,by omega⟩;by_cases h0:n=0
  · subst h0;obtain rfl:T=[]:=List.length_eq_zero_iff.1 hn;have:¬i<j:=by simp at hj;omega
    refine⟨R1,R2,by simp,h1,h2,?_⟩;simp only[Ck,dlt,this,decide_false,cond_false,hi]
  · have hij:i<j:=by omega
    obtain⟨T1,t,T2,rfl,hT1⟩:=Eo T (n/2) (by omega);simp only[aB,List.length_cons]at hn hj;have eh:=half (i:=i) (j:=j) (by omega);have ehh:(i+j)/2=i+n/2:=by omega
    rw[ehh]at eh;have d1:X++x::(R1++(T1++t::T2++R2)++Z)=(X++x::(R1++T1))++t::(T2++(R2++Z)):=by simp
    have ll:(X++x::(R1++T1)).length=i+n/2:=by simp;omega
    have gt:(X++x::(R1++(T1++t::T2++R2)++Z))[i+n/2]? =some t:=by rw[d1,←ll];exact g1 _ _ _
    have it:inL (X++x::(R1++(T1++t::T2++R2)++Z)) ((i+n/2:Nat):Int)=some ():=by rw[d1,←ll];exact i1 _ _ _
    have gx:(X++x::(R1++(T1++t::T2++R2)++Z))[a]? =some x:=by rw[←hX];exact g1 _ _ _
    have ix:inL (X++x::(R1++(T1++t::T2++R2)++Z)) (a:Int)=some ():=by rw[←hX];exact i1 _ _ _
    obtain⟨hA1,hA2,hA3⟩:=gP hA;have hw:wrap IntKind.i64 (((i+n/2:Nat):Int)+1)=((i+n/2+1:Nat):Int):=bQ (by omega);simp only[Ck,dlt,hij,decide_true,cond_true,eh,gt,it,gx,ix,ah,Int.toNat_natCast,hC m hm t x (hP t (by simp)) hx];cases hlt:decide (c t x<0)
    ·   have ht:ltc c t x=false:=hlt;obtain⟨Ra,Rb,e1,e2,e3,e4⟩:=ihn (n/2) (by omega) M R1 T1 (t::T2++R2) i (i+n/2) hT1 (by omega) hi (by omega) (by omega) h1 (fun y hy=>by
         rcases List.mem_append.1 hy with hy|hy
         · rcases List.mem_cons.1 hy with rfl|hy;·exact ht
           ·exact h.ntr _ _ _ (hA2.1 y hy) ht
         ·exact h2 y hy) hA1 (fun y hy=>hP y (by simp[hy]))
        refine⟨Ra,Rb,by rw[←e1];simp,e2,e3,?_⟩;simp only[cond_false];have e5:R1++(T1++(t::T2++R2))=R1++(T1++t::T2++R2):=by simp
        rw[e5]at e4;exact e4
    ·   have ht:ltc c t x=true:=hlt;obtain⟨Ra,Rb,e1,e2,e3,e4⟩:=ihn (n-1-n/2) (by omega) M (R1++(T1++[t])) T2 R2 (i+n/2+1) j (by omega) (by omega) (by simp;omega) (by omega) hl (fun y hy=>by
         rcases List.mem_append.1 hy with hy|hy;·exact h1 y hy
         · rcases List.mem_append.1 hy with hy|hy
           ·cases e:ltc c y x with
            |true=>rfl
            |false=>have:=h.ntr _ _ _ (hA3 y hy t (by simp)) e;rw[ht]at this;cases this
           ·rw[List.mem_singleton]at hy;subst hy;exact ht) h2 hA2.2 (fun y hy=>hP y (by simp[hy]))
        refine⟨Ra,Rb,by rw[←e1];simp,e2,e3,?_⟩;simp only[cond_true,hw];have e5:R1++(T1++[t])++(T2++R2)=R1++(T1++t::T2++R2):=by simp
        rw[e5]at e4;exact e4
theorem ahg(m:Nat)(hm:m0<=m)(self:Int->Int->Int->List Dt->Option (List Dt))(X Z:List Dt)(y:Dt)(a k:Nat)(hX:X.length=a)(hy:P y):∀(n M:Nat)(L1 T L2:List Dt)(i j:Nat),T.length=n->n<M->a+L1.length=i->i+T.length=j->j+L2.length=k->k<1152921504606846976->
  (∀x∈L1,ltc c y x=false)->(∀x∈L2,ltc c y x=true)->Asc (ltc c) T->(∀x∈T,P x)->
  ∃La Lb,L1++(T++L2)=La++Lb∧(∀x∈La,ltc c y x=false)∧(∀x∈Lb,ltc c y x=true)∧yg m self M (k:Int) (i:Int) (j:Int) (X++(L1++(T++L2)++y::Z))=Na m self (k:Int) ((a+La.length:Nat):Int) (X++(L1++(T++L2)++y::Z)):=by
 have h:=swo hc;intro n;induction n using Nat.strongRecOn with
 |_ n   ihn=>
  intro M L1 T L2 i j hn hM hi hj hk hl h1 h2 hA hP;obtain⟨M,rfl⟩:∃k,M=k+1:=⟨M-1,by omega⟩;by_cases h0:n=0
  · subst h0;obtain rfl:T=[]:=List.length_eq_zero_iff.1 hn;have:¬i<j:=by simp at hj;omega
    refine⟨L1,L2,by simp,h1,h2,?_⟩;simp only[yg,dlt,this,decide_false,cond_false,hi]
  · have hij:i<j:=by omega
    obtain⟨T1,t,T2,rfl,hT1⟩:=Eo T (n/2) (by omega);simp only[aB,List.length_cons]at hn hj;have eh:=half (i:=i) (j:=j) (by omega);have ehh:(i+j)/2=i+n/2:=by omega
    rw[ehh]at eh;have d1:X++(L1++(T1++t::T2++L2)++y::Z)=(X++(L1++T1))++t::(T2++(L2++y::Z)):=by simp
    have d2:X++(L1++(T1++t::T2++L2)++y::Z)=(X++(L1++(T1++t::T2++L2)))++y::Z:=by simp
    have ll:(X++(L1++T1)).length=i+n/2:=by simp;omega
    have ly:(X++(L1++(T1++t::T2++L2))).length=k:=by simp;omega
    have gt:(X++(L1++(T1++t::T2++L2)++y::Z))[i+n/2]? =some t:=by rw[d1,←ll];exact g1 _ _ _
    have it:inL (X++(L1++(T1++t::T2++L2)++y::Z)) ((i+n/2:Nat):Int)=some ():=by rw[d1,←ll];exact i1 _ _ _
    have gy:(X++(L1++(T1++t::T2++L2)++y::Z))[k]? =some y:=by rw[d2,←ly];exact g1 _ _ _
    have iy:inL (X++(L1++(T1++t::T2++L2)++y::Z)) (k:Int)=some ():=by rw[d2,←ly];exact i1 _ _ _
    obtain⟨hA1,hA2,hA3⟩:=gP hA;have hw:wrap IntKind.i64 (((i+n/2:Nat):Int)+1)=((i+n/2+1:Nat):Int):=bQ (by omega);simp only[yg,dlt,hij,decide_true,cond_true,eh,gt,it,gy,iy,ah,Int.toNat_natCast,hC m hm y t hy (hP t (by simp))];cases hlt:decide (c y t<0)
    ·   have ht:ltc c y t=false:=hlt;obtain⟨La,Lb,e1,e2,e3,e4⟩:=ihn (n-1-n/2) (by omega) M (L1++(T1++[t])) T2 L2 (i+n/2+1) j (by omega) (by omega) (by simp;omega) (by omega) hk hl (fun x hx=>by
         rcases List.mem_append.1 hx with hx|hx;·exact h1 x hx
         · rcases List.mem_append.1 hx with hx|hx;·exact h.ntr _ _ _ ht (hA3 x hx t (by simp))
           ·rw[List.mem_singleton]at hx;subst hx;exact ht) h2 hA2.2 (fun x hx=>hP x (by simp[hx]))
        refine⟨La,Lb,by rw[←e1];simp,e2,e3,?_⟩;simp only[Bool.not_false,cond_true,hw];have e5:L1++(T1++[t])++(T2++L2)=L1++(T1++t::T2++L2):=by simp
        rw[e5]at e4;exact e4
    ·   have ht:ltc c y t=true:=hlt;obtain⟨La,Lb,e1,e2,e3,e4⟩:=ihn (n/2) (by omega) M L1 T1 (t::T2++L2) i (i+n/2) hT1 (by omega) hi (by omega) (by simp;omega) hl h1 (fun x hx=>by
         rcases List.mem_append.1 hx with hx|hx
         · rcases List.mem_cons.1 hx with rfl|hx;·exact ht
           ·cases e:ltc c y x with
            |true=>rfl
            |false=>have:=h.ntr _ _ _ e (hA2.1 x hx);rw[ht]at this;cases this
         ·exact h2 x hx) hA1 (fun x hx=>hP x (by simp[hx]))
        refine⟨La,Lb,by rw[←e1];simp,e2,e3,?_⟩;simp only[Bool.not_true,cond_false];have e5:L1++(T1++(t::T2++L2))=L1++(T1++t::T2++L2):=by simp
        rw[e5]at e4;exact e4
set_option maxHeartbeats 4000000 in
theorem ZN(m:Nat)(hm:m0<=m)(self:Int->Int->Int->List Dt->Option (List Dt))(X Z:List Dt)(a k b mid n:Nat)(hX:X.length=a):∀(q M:Nat)(L1 T L2 R1 U R2:List Dt)(s r p:Nat),T.length=q->U.length=q->q<M->a+L1.length=s->s+T.length=r->r+L2.length=k->p+1=s+k+R1.length+U.length->k+R1.length+U.length<1152921504606846976->
  (∀x∈L1,∀y∈R2,ltc c y x=false)->(∀x∈L2,∀y∈R1,ltc c y x=true)->Asc (ltc c) (L1++(T++L2))->Asc (ltc c) (R1++(U++R2))->(∀x∈T,P x)->(∀y∈U,P y)->
  ∃ La Lb Ra Rb,L1++(T++L2)=La++Lb∧R1++(U++R2)=Ra++Rb∧(∀x∈La,∀y∈Rb,ltc c y x=false)∧(∀x∈Lb,∀y∈Ra,ltc c y x=true)∧p+1=a+La.length+k+Ra.length∧
    yh m self M (a:Int) (k:Int) (b:Int) (mid:Int) (n:Int) (s:Int) (r:Int) (p:Int) (X++(L1++(T++L2)++(R1++(U++R2)++Z)))=
    Hf m self (a:Int) (k:Int) (b:Int) (mid:Int) (n:Int) ((a+La.length:Nat):Int) (X++(L1++(T++L2)++(R1++(U++R2)++Z))):=by
 have h:=swo hc;intro q;induction q using Nat.strongRecOn with
 |_ q   ihq=>
  intro M L1 T L2 R1 U R2 s r p hT hU hM hs hr hk hp hl h1 h2 hA hB hPT hPU;obtain⟨M,rfl⟩:∃k,M=k+1:=⟨M-1,by omega⟩;by_cases h0:q=0
  · subst h0;obtain rfl:T=[]:=List.length_eq_zero_iff.1 hT;obtain rfl:U=[]:=List.length_eq_zero_iff.1 hU;have:¬s<r:=by simp at hr;omega
    refine⟨L1,L2,R1,R2,by simp,by simp,h1,h2,by simp at hp;omega,?_⟩;simp only[yh,dlt,this,decide_false,cond_false,hs]
  · have hsr:s<r:=by omega
    obtain⟨T1,t,T2,rfl,hT1⟩:=Eo T (q/2) (by omega);obtain⟨U1,u,U2,rfl,hU1⟩:=Eo U (q-1-q/2) (by omega);simp only[aB,List.length_cons]at hT hU hr hp hl;have eh:=half (i:=s) (j:=r) (by omega);have ehh:(s+r)/2=s+q/2:=by omega
    rw[ehh]at eh;obtain⟨D,hD⟩:∃D,D=X++(L1++(T1++t::T2++L2)++(R1++(U1++u::U2++R2)++Z)):=⟨_,rfl⟩;have d1:D=(X++(L1++T1))++t::(T2++(L2++(R1++(U1++u::U2++R2)++Z))):=by rw[hD];simp
    have d2:D=(X++(L1++(T1++t::T2++L2)++(R1++U1)))++u::(U2++(R2++Z)):=by rw[hD];simp
    have ll:(X++(L1++T1)).length=s+q/2:=by simp;omega
    have lu:(X++(L1++(T1++t::T2++L2)++(R1++U1))).length=k+R1.length+U1.length:=by simp;omega
    have gt:D[s+q/2]? =some t:=by rw[d1,←ll];exact g1 _ _ _
    have it:inL D ((s+q/2:Nat):Int)=some ():=by rw[d1,←ll];exact i1 _ _ _
    have gu:D[k+R1.length+U1.length]? =some u:=by rw[d2,←lu];exact g1 _ _ _
    have iu:inL D ((k+R1.length+U1.length:Nat):Int)=some ():=by rw[d2,←lu];exact i1 _ _ _
    have ep:wrap IntKind.i64 ((p:Int)-((s+q/2:Nat):Int))=((k+R1.length+U1.length:Nat):Int):=wrN (by omega) (by omega);have hw:wrap IntKind.i64 (((s+q/2:Nat):Int)+1)=((s+q/2+1:Nat):Int):=bQ (by omega);have a1:L1++(T1++t::T2++L2)=(L1++T1)++t::(T2++L2):=by simp
    have b1:R1++(U1++u::U2++R2)=(R1++U1)++u::(U2++R2):=by simp
    have hA':=hA;have hB':=hB;rw[a1]at hA';rw[b1]at hB';obtain⟨_,hA2,hA3⟩:=gP hA';obtain⟨_,hB2,hB3⟩:=gP hB';rw[←hD];simp only[yh,dlt,hsr,decide_true,cond_true,eh,ep,gt,it,gu,iu,ah,Int.toNat_natCast,hC m hm u t (hPU u (by simp)) (hPT t (by simp))];cases hlt:decide (c u t<0)
    ·   have ht:ltc c u t=false:=hlt;obtain⟨La,Lb,Ra,Rb,e1,e2,e3,e4,e5,e6⟩:=ihq (q-1-q/2) (by omega) M (L1++(T1++[t])) T2 L2 R1 U1 (u::U2++R2) (s+q/2+1) r p (by omega) hU1 (by omega) (by simp;omega) (by omega) hk (by omega) (by omega) (fun x hx y hy=>by
         have hx':ltc c t x=false:=by
           rcases List.mem_append.1 hx with hx|hx;·exact hA3 x (by simp[hx]) t (by simp)
           ·rcases List.mem_append.1 hx with hx|hx;·exact hA3 x (by simp[hx]) t (by simp)
            ·rw[List.mem_singleton]at hx;subst hx;exact h.irr _
         have hy':ltc c y u=false:=by
           rcases List.mem_append.1 hy with hy|hy
           ·rcases List.mem_cons.1 hy with rfl|hy;·exact h.irr _
            ·exact hB2.1 y (by simp[hy])
           ·exact hB2.1 y (by simp[hy])
         exact h.ntr _ _ _ hy' (h.ntr _ _ _ ht hx')) h2 (by simpa using hA) (by simpa using hB) (fun x hx=>hPT x (by simp[hx])) (fun y hy=>hPU y (by simp[hy]))
        refine⟨La,Lb,Ra,Rb,by rw[←e1];simp,by rw[←e2];simp,e3,e4,e5,?_⟩;simp only[Bool.not_false,cond_true,hw];have e7:X++(L1++(T1++[t])++(T2++L2)++(R1++(U1++(u::U2++R2))++Z))=D:=by rw[hD];simp
        rw[e7]at e6;exact e6
    ·   have ht:ltc c u t=true:=hlt;obtain⟨La,Lb,Ra,Rb,e1,e2,e3,e4,e5,e6⟩:=ihq (q/2) (by omega) M L1 T1 (t::T2++L2) (R1++(U1++[u])) U2 R2 s (s+q/2) p hT1 (by omega) (by omega) hs (by omega) (by simp;omega) (by simp;omega) (by simp;omega) h1 (fun x hx y hy=>by
         have hx':ltc c x t=false:=by
           rcases List.mem_append.1 hx with hx|hx
           ·rcases List.mem_cons.1 hx with rfl|hx;·exact h.irr _
            ·exact hA2.1 x (by simp[hx])
           ·exact hA2.1 x (by simp[hx])
         have hy':ltc c u y=false:=by
           rcases List.mem_append.1 hy with hy|hy;·exact hB3 y (by simp[hy]) u (by simp)
           ·rcases List.mem_append.1 hy with hy|hy;·exact hB3 y (by simp[hy]) u (by simp)
            ·rw[List.mem_singleton]at hy;subst hy;exact h.irr _
         cases e:ltc c y x with
         |true=>rfl
         |false=>have:=h.ntr _ _ _ (h.ntr _ _ _ hy' e) hx';rw[ht]at this;cases this) (by simpa using hA) (by simpa using hB) (fun x hx=>hPT x (by simp[hx])) (fun y hy=>hPU y (by simp[hy]))
        refine⟨La,Lb,Ra,Rb,by rw[←e1];simp,by rw[←e2];simp,e3,e4,e5,?_⟩;simp only[Bool.not_true,cond_false];have e7:X++(L1++(T1++(t::T2++L2))++(R1++(U1++[u])++(U2++R2)++Z))=D:=by rw[hD];simp
        have e8:X++(L1++(T1++(t::T2++L2))++(R1++(U1++[u])++(U2++R2)++Z))=X++(L1++(T1++(t::T2++L2))++((R1++(U1++[u]))++(U2++R2)++Z)):=by simp
        rw[e7]at e6;exact e6
end
section
variable{c:Dt->Dt->Int}(hc:TPO c){P:Dt->Prop}
include hc
theorem an3(m:Nat)(B:Nat)(hB:B<288230376151711744)(hmB:B+3<=m)(X La Lb Ra Rb Z:List Dt)(a k b mid n:Nat)(ha:X.length=a)(hk:a+(La.length+Lb.length)=k)(hb:k+(Ra.length+Rb.length)=b)(hbB:b<=B)(hmid:mid=a+La.length+Ra.length)(hn:n=mid+k)
  (hA:Asc (ltc c) (La++Lb))(hR:Asc (ltc c) (Ra++Rb))(h1:∀x∈La,∀y∈Rb,ltc c y x=false)(h2:∀x∈Lb,∀y∈Ra,ltc c y x=true)(hP:∀x∈La++Lb,P x)(hQ:∀x∈Ra++Rb,P x)
  (self:Int->Int->Int->List Dt->Option (List Dt))
  (hs:∀(X L R Z:List Dt)(a' k' b':Nat),X.length=a'->a'+L.length=k'->k'+R.length=b'->0<L.length->0<R.length->b'<=b->L.length+R.length<b-a->Asc (ltc c) L->Asc (ltc c) R->(∀x∈L,P x)->(∀x∈R,P x)->self (a':Int) (k':Int) (b':Int) (X++(L++(R++Z)))=some (X++(bO (ltc c) (L++R)++Z)))
  (hlt:0<La.length+Ra.length)(hlt2:0<Lb.length+Rb.length):
  Hf m self (a:Int) (k:Int) (b:Int) (mid:Int) (n:Int) ((a+La.length:Nat):Int) (X++(La++Lb++(Ra++Rb++Z)))=some (X++(bO (ltc c) (La++Lb++(Ra++Rb))++Z)):=by
 have h:=swo hc;have een:wrap IntKind.i64 ((n:Int)-((a+La.length:Nat):Int))=((k+Ra.length:Nat):Int):=wrN (by omega) (by omega);obtain⟨aL,aLb,aX⟩:=gP hA;obtain⟨aR,aRb,aY⟩:=gP hR;have hfin:bO (ltc c) (La++Lb++(Ra++Rb))=bO (ltc c) (La++Ra)++bO (ltc c) (Lb++Rb):=by
  have e1:=Et h Lb Ra La Rb h2;have e2:=Mg h (X:=La++Ra) (Y:=Lb++Rb) (fun x hx y hy=>by
   rcases List.mem_append.1 hx with hx|hx<;>rcases List.mem_append.1 hy with hy|hy;·exact aX x hx y hy
   ·exact h1 x hx y hy
   ·exact h.asy (h2 y hy x hx)
   ·exact aY x hx y hy)
  rw[←e2,List.append_assoc,List.append_assoc];rw[e1]
 have s2:∀X':List Dt,X'.length=mid->DY m self (b:Int) (mid:Int) ((k+Ra.length:Nat):Int) (X'++(Lb++(Rb++Z)))=some (X'++(bO (ltc c) (Lb++Rb)++Z)):=by
  intro X' hX';simp only[DY,Nb,dlt];by_cases e1:mid<k+Ra.length
  ·by_cases e2:k+Ra.length<b;·simp only[e1,e2,decide_true,cond_true,hs X' Lb Rb Z mid (k+Ra.length) b hX' (by omega) (by omega) (by omega) (by omega) (ak _) (by omega) aLb aRb (fun x hx=>hP x (by simp[hx])) (fun x hx=>hQ x (by simp[hx])),ah]
   ·    have:Rb=[]:=List.length_eq_zero_iff.1 (by omega);subst this;simp only[e1,e2,decide_true,decide_false,cond_true,cond_false,List.append_nil,List.nil_append,nJ aLb]
  ·have:Lb=[]:=List.length_eq_zero_iff.1 (by omega);subst this;simp only[e1,decide_false,cond_false,List.nil_append,nJ aRb]
 have s1:He m self (a:Int) (b:Int) (mid:Int) ((a+La.length:Nat):Int) ((k+Ra.length:Nat):Int) (X++(La++(Ra++(Lb++(Rb++Z)))))=some (X++(bO (ltc c) (La++Lb++(Ra++Rb))++Z)):=by
  have fin:DY m self (b:Int) (mid:Int) ((k+Ra.length:Nat):Int) (X++(bO (ltc c) (La++Ra)++(Lb++(Rb++Z))))=some (X++(bO (ltc c) (La++Lb++(Ra++Rb))++Z)):=by have:=s2 (X++bO (ltc c) (La++Ra)) (by rw[aB,isort_len,aB];omega);rw[hfin];simpa using this
  simp only[He,Nc,dlt];by_cases e1:a<a+La.length
  ·by_cases e2:a+La.length<mid;·simp only[e1,e2,decide_true,cond_true,hs X La Ra (Lb++(Rb++Z)) a (a+La.length) mid ha rfl (by omega) (by omega) (by omega) (by omega) (by omega) aL aR (fun x hx=>hP x (by simp[hx])) (fun x hx=>hQ x (by simp[hx])),ah,fin]
   ·    have:Ra=[]:=List.length_eq_zero_iff.1 (by omega);subst this;simp only[e1,e2,decide_true,decide_false,cond_true,cond_false];simp only[List.append_nil,List.nil_append,nJ aL]at fin ⊢
        exact fin
  ·have:La=[]:=List.length_eq_zero_iff.1 (by omega);subst this;simp only[e1,decide_false,cond_false];simp only[List.nil_append,nJ aR]at fin ⊢
   exact fin
 simp only[Hf,Nf,een,dlt];obtain⟨m,rfl⟩:∃q,m=q+2:=⟨m-2,by omega⟩;by_cases e1:a+La.length<k
 ·by_cases e2:k<k+Ra.length
  ·have hr:=arb m (X++La) Lb Ra (Rb++Z) (a+La.length) k (k+Ra.length) (by simp;omega) (by omega) rfl (by omega) (by omega) (by omega) (by omega);have hr':i26 (m+2) ((a+La.length:Nat):Int) (k:Int) ((k+Ra.length:Nat):Int) (X++(La++Lb++(Ra++Rb++Z)))=some (X++(La++(Ra++(Lb++(Rb++Z))))):=by simpa using hr
   simp only[e1,e2,decide_true,cond_true,hr',ah,s1]
  ·have:Ra=[]:=List.length_eq_zero_iff.1 (by omega);subst this;simp only[e1,e2,decide_true,decide_false,cond_true,cond_false];simp only[List.nil_append,List.append_assoc]at s1 ⊢
   exact s1
 ·have:Lb=[]:=List.length_eq_zero_iff.1 (by omega);subst this;simp only[e1,decide_false,cond_false];simp only[List.nil_append,List.append_nil,List.append_assoc]at s1 ⊢
  exact s1
end
section
variable{c:Dt->Dt->Int}(hc:TPO c){P:Dt->Prop}{m0:Nat}(hC:∀m,m0<=m->∀x y,P x->P y->dF m x y=some (c x y))
include hc hC
theorem acg(B:Nat)(hB:B<288230376151711744)(hB0:m0<=B):∀(N m:Nat)(X L R Z:List Dt)(a k b:Nat),L.length+R.length<=N->N+B+4<=m->X.length=a->a+L.length=k->k+R.length=b->0<L.length->0<R.length->b<=B->Asc (ltc c) L->Asc (ltc c) R->(∀x∈L,P x)->(∀x∈R,P x)->
  i25 m (a:Int) (k:Int) (b:Int) (X++(L++(R++Z)))=some (X++(bO (ltc c) (L++R)++Z))
 |0,_,_,L,R,_,_,_,_,h,_,_,_,_,hL,_,_,_,_,_,_=>by omega
 |N+    1,m,X,L,R,Z,a,k,b,hN,hm,ha,hk,hb,hL,hR,hbB,hA,hRa,hP,hQ=>by
  have h:=swo hc;obtain⟨m,rfl⟩:∃q,m=q+1:=⟨m-1,by omega⟩;have eka:wrap IntKind.i64 ((k:Int)-(a:Int))=((L.length:Nat):Int):=wrN (by omega) (by omega);have ebk:wrap IntKind.i64 ((b:Int)-(k:Int))=((R.length:Nat):Int):=wrN (by omega) (by omega);show (bif (wrap IntKind.i64 ((k:Int)-(a:Int))==1)then abj m (i25 m) (a:Int) (k:Int) (b:Int) (X++(L++(R++Z)))else abk m (i25 m) (a:Int) (k:Int) (b:Int) (X++(L++(R++Z))))=_;rw[eka];by_cases h1:L.length=1
  ·obtain⟨x,rfl⟩:=List.length_eq_one_iff.1 h1;have e:((([x].length:Nat):Int)==1)=true:=rfl;rw[e];simp only[cond_true,abj];simp only[List.length_cons,List.length_nil]at hk;obtain⟨Ra,Rb,q1,q2,q3,q4⟩:=an2 hc hC m (by omega) (i25 m) X Z x a ha (hP x (by simp)) R.length (m+1) [] R [] k b rfl (by omega) (by simp;omega) hb (by omega) (by simp) (by simp) hRa hQ;simp only[List.nil_append,List.append_nil]at q1 q4;subst q1;have q4':Ck m (i25 m) (Nat.succ m) (a:Int) (k:Int) (b:Int) (X++([x]++(Ra++Rb++Z)))=VN m (i25 m) (a:Int) ((a+1+Ra.length:Nat):Int) (X++x::(Ra++Rb++Z)):=q4;rw[q4'];simp only[VN];have hu:=aeR m (i25 m) Ra (m+1) X x (Rb++Z) a (a+1+Ra.length) ha (by omega) (by simp at hN hb;omega) (by simp at hb;omega);have hu':Fx m (i25 m) (Nat.succ m) ((a+1+Ra.length:Nat):Int) (a:Int) (X++x::(Ra++Rb++Z))=some (X++(Ra++x::(Rb++Z))):=by simpa using hu
   rw[hu'];have hasc:Asc (ltc c) (Ra++x::Rb):=by
        obtain⟨r1,r2,r3⟩:=gP hRa;refine uO r1 ⟨q3,r2⟩ fun y hy z hz=>?_;rcases List.mem_cons.1 hz with rfl|hz;·exact h.asy (q2 y hy)
        ·exact r3 y hy z hz
   have hj:=G7 h x Ra [] Rb q2;simp only[List.nil_append]at hj;have:bO (ltc c) ([x]++(Ra++Rb))=Ra++x::Rb:=by
        have e2:[x]++(Ra++Rb)=x::Ra++Rb:=by simp
        rw[e2,hj,nJ hasc]
   rw[this];simp
  ·have e:(((L.length:Nat):Int)==1)=false:=by rw[beq_eq_false_iff_ne];omega
   rw[e];simp only[cond_false,abk,ebk];by_cases h2:R.length=1
   ·    obtain⟨y,rfl⟩:=List.length_eq_one_iff.1 h2;have e:((([y].length:Nat):Int)==1)=true:=rfl;rw[e];simp only[cond_true];simp only[List.length_cons,List.length_nil]at hb;obtain⟨La,Lb,q1,q2,q3,q4⟩:=ahg hc hC m (by omega) (i25 m) X Z y a k ha (hQ y (by simp)) L.length (m+1) [] L [] a k rfl (by omega) (by simp) hk (by simp) (by omega) (by simp) (by simp) hA hP;simp only[List.nil_append,List.append_nil]at q1 q4;subst q1;have q4':yg m (i25 m) (Nat.succ m) (k:Int) (a:Int) (k:Int) (X++(La++Lb++([y]++Z)))=Na m (i25 m) (k:Int) ((a+La.length:Nat):Int) (X++(La++Lb++y::Z)):=q4;rw[q4'];rw[aB]at hk hN;simp only[Na];have hd:=UE m (i25 m) Lb.length (m+1) (X++La) Lb y Z (a+La.length) k rfl (by simp;omega) (by omega) (by omega) (by omega);have hd':A8 m (i25 m) (Nat.succ m) ((a+La.length:Nat):Int) (k:Int) (X++(La++Lb++y::Z))=some (X++(La++(y::(Lb++Z)))):=by simpa using hd
        rw[hd'];have hasc:Asc (ltc c) (La++y::Lb):=by
         obtain⟨r1,r2,r3⟩:=gP hA;refine uO r1 ⟨fun z hz=>h.asy (q3 z hz),r2⟩ fun z hz w hw=>?_;rcases List.mem_cons.1 hw with rfl|hw;·exact q2 z hz
         ·exact r3 z hz w hw
        have hr:=Et h Lb [y] La [] (fun u hu v hv=>by rw[List.mem_singleton]at hv;subst hv;exact q3 u hu);simp only[List.append_nil,List.singleton_append]at hr;have:bO (ltc c) (La++Lb++[y])=La++y::Lb:=by rw[List.append_assoc,hr,nJ hasc]
        rw[this];simp
   ·    have e:(((R.length:Nat):Int)==1)=false:=by rw[beq_eq_false_iff_ne];omega
        rw[e];obtain⟨mid,hmid⟩:∃mid,mid=(a+b)/2:=⟨_,rfl⟩;have emid:=half (i:=a) (j:=b) (by omega);rw[←hmid]at emid;have en:wrap IntKind.i64 ((mid:Int)+(k:Int))=((mid+k:Nat):Int):=wrN (by omega) (by omega);have ep:wrap IntKind.i64 (((mid+k:Nat):Int)-1)=((mid+k-1:Nat):Int):=wrN (by omega) (by omega);simp only[cond_false,emid,en,dlt,ep];have hself:∀(X' L' R' Z':List Dt)(a' k' b':Nat),X'.length=a'->a'+L'.length=k'->k'+R'.length=b'->0<L'.length->0<R'.length->b'<=b->L'.length+R'.length<b-a->Asc (ltc c) L'->Asc (ltc c) R'->(∀x∈L',P x)->(∀x∈R',P x)->i25 m (a':Int) (k':Int) (b':Int) (X'++(L'++(R'++Z')))=some (X'++(bO (ltc c) (L'++R')++Z')):=
         fun X' L' R' Z' a' k' b' g1 g2 g3 g4 g5 g6 g7 g8 g9 g10 g11=>acg B hB hB0 N m X' L' R' Z' a' k' b' (by omega) (by omega) g1 g2 g3 g4 g5 (by omega) g8 g9 g10 g11
        have done:∀(La Lb Ra Rb:List Dt),L=La++Lb->R=Ra++Rb->(∀x∈La,∀y∈Rb,ltc c y x=false)->(∀x∈Lb,∀y∈Ra,ltc c y x=true)->mid+k-1+1=a+La.length+k+Ra.length->
          Hf m (i25 m) (a:Int) (k:Int) (b:Int) (mid:Int) ((mid+k:Nat):Int) ((a+La.length:Nat):Int) (X++(La++Lb++(Ra++Rb++Z)))=some (X++(bO (ltc c) (La++Lb++(Ra++Rb))++Z)):=by
         intro La Lb Ra Rb eL eR g1 g2 g3;subst eL eR;rw[aB]at hk hb hN h1 h2 hL hR;exact an3 hc m B hB (by omega) X La Lb Ra Rb Z a k b mid (mid+k) ha hk hb hbB (by omega) rfl hA hRa g1 g2 hP hQ _ hself (by omega) (by omega)
        by_cases hmk:mid<k
        ·have enb:wrap IntKind.i64 (((mid+k:Nat):Int)-(b:Int))=((mid+k-b:Nat):Int):=wrN (by omega) (by omega);simp only[hmk,decide_true,cond_true,enb];obtain⟨L1,L0,e1,e2⟩:=vK L (mid+k-b-a) (by omega);obtain⟨T,L2,e3,e4⟩:=vK L0 (mid-(mid+k-b)) (by rw[e1,aB]at hk;omega);subst e3;have hLl:L.length=L1.length+(T.length+L2.length):=by rw[e1];simp
         obtain⟨La,Lb,Ra,Rb,q1,q2,q3,q4,q5,q6⟩:=ZN hc hC m (by omega) (i25 m) X Z a k b mid (mid+k) ha T.length (m+1) L1 T L2 [] R [] (mid+k-b) mid (mid+k-1) rfl (by omega) (by omega) (by omega) (by omega) (by omega) (by simp;omega) (by simp;omega) (by simp) (by simp) (by rw[←e1];exact hA) (by simpa using hRa) (fun x hx=>hP x (by rw[e1];simp[hx])) hQ;simp only[List.nil_append,List.append_nil]at q2 q6;rw[←e1]at q1 q6;refine q6.trans ?_;have:=done La Lb Ra Rb q1 q2 q3 q4 q5;rw[←q1,←q2]at this;exact this
        ·simp only[hmk,decide_false,cond_false];obtain⟨R1,R0,e1,e2⟩:=vK R (mid-k) (by omega);obtain⟨U,R2,e3,e4⟩:=vK R0 L.length (by rw[e1,aB]at hb;omega);subst e3;have hRl:R.length=R1.length+(U.length+R2.length):=by rw[e1];simp
         obtain⟨La,Lb,Ra,Rb,q1,q2,q3,q4,q5,q6⟩:=ZN hc hC m (by omega) (i25 m) X Z a k b mid (mid+k) ha L.length (m+1) [] L [] R1 U R2 a k (mid+k-1) rfl e4 (by omega) (by simp) hk (by simp) (by omega) (by omega) (by simp) (by simp) (by simpa using hA) (by rw[←e1];exact hRa) hP (fun x hx=>hQ x (by rw[e1];simp[hx]));simp only[List.nil_append,List.append_nil]at q1 q6;rw[←e1]at q2 q6;refine q6.trans ?_;have:=done La Lb Ra Rb q1 q2 q3 q4 q5;rw[←q1,←q2]at this;exact this
inductive AB (lt:Dt->Dt->Bool) (s:Nat):List Dt->Prop where
 |last {l:List Dt} (h:l.length<=s) (a:Asc lt l):AB lt s l
 |cons {x l:List Dt} (h:x.length=s) (a:Asc lt x) (r:AB lt s l):AB lt s (x++l)
omit hc hC in
theorem AB.asc{lt:Dt->Dt->Bool}{s:Nat}{l:List Dt}(h:AB lt s l)(hs:0<s)(hl:l.length<=s):Asc lt l:=by
 cases h with
 |last _ a=>exact a
 | @cons x l h a r=>
   rw[aB]at hl;have:l=[]:=List.length_eq_zero_iff.1 (by omega);subst this;simpa using a
theorem auC(m B:Nat)(hB:B<288230376151711744)(hmB:B+4<=m)(hB0:m0+1<=m)(n:Nat)(hnB:n<=B):∀(q M:Nat)(X R:List Dt)(a:Nat),R.length<=q->q<M->X.length=a->a+R.length=n->(∀x∈R,P x)->
  ∃R',AB (ltc c) 20 R'∧R'.length=R.length∧bO (ltc c) R'=bO (ltc c) R∧(∀x∈R',P x)∧Jq m M (n:Int) 20 (a:Int) ((a+20:Nat):Int) (X++R)=VO m (n:Int) 20 (X++R'):=by
 have h:=swo hc;obtain⟨m,rfl⟩:∃k,m=k+1:=⟨m-1,by omega⟩;intro q;induction q using Nat.strongRecOn with
 |_ q   ih=>
  intro M X R a hR hM ha hn hP;obtain⟨M,rfl⟩:∃k,M=k+1:=⟨M-1,by omega⟩;simp only[Jq,dle];by_cases hle:a+20<=n
  · obtain⟨x,R2,rfl,hx⟩:=vK R 20 (by omega);rw[aB]at hn hR;have hi:=ajF hc hC m (by omega) X x R2 a (a+20) ha (by omega) (by omega) (by omega) (fun y hy=>hP y (by simp[hy]));obtain⟨R',g1,g2,g3,g4,g5⟩:=ih (q-20) (by omega) M (X++bO (ltc c) x) R2 (a+20) (by omega) (by omega) (by rw[aB,isort_len];omega) (by omega) (fun y hy=>hP y (by simp[hy]));refine⟨bO (ltc c) x++R',.cons (by rw[isort_len];exact hx) (pQ h x) g1,by rw[aB,aB,isort_len,g2],?_,fun y hy=>?_,?_⟩;·exact(G5 h (by have:=jd h x [];simpa using this) g3)
    ·   rcases List.mem_append.1 hy with hy|hy;·exact hP y (by simp[mem_isort.1 hy])
        ·exact g4 y hy
    ·   have ew:wrap IntKind.i64 (((a+20:Nat):Int)+20)=((a+20+20:Nat):Int):=wrN (by omega) (by omega);simp only[hle,decide_true,cond_true,hi,ah,ew];simp only[List.append_assoc]at g5 ⊢
        exact g5
  · have hi:=ajF hc hC m (by omega) X R [] a n ha hn (by omega) (by omega) hP;simp only[List.append_nil]at hi;refine⟨bO (ltc c) R,.last (by rw[isort_len];omega) (pQ h R),isort_len R,by have:=jd h R [];simpa using this,fun y hy=>hP y (mem_isort.1 hy),?_⟩;simp only[hle,decide_false,cond_false,hi,ah]
theorem auD(m B:Nat)(hB:B<288230376151711744)(hmB:2*B+6<=m)(hB0:m0<=B)(n s:Nat)(hnB:n<=B)(hs:0<s)(hsB:s<=B)(rec5:Int->Int->List Dt->Option (List Dt)):∀(q M:Nat)(X R:List Dt)(a:Nat),R.length<=q->q<M->X.length=a->a+R.length=n->AB (ltc c) s R->(∀x∈R,P x)->
  ∃R',AB (ltc c) (2*s) R'∧R'.length=R.length∧bO (ltc c) R'=bO (ltc c) R∧(∀x∈R',P x)∧Jp m rec5 M (n:Int) (s:Int) (a:Int) ((a+2*s:Nat):Int) (X++R)=Hg m rec5 (n:Int) (s:Int) (X++R'):=by
 have h:=swo hc;intro q;induction q using Nat.strongRecOn with
 |_ q   ih=>
  intro M X R a hR hM ha hn hAB hP;obtain⟨M,rfl⟩:∃k,M=k+1:=⟨M-1,by omega⟩;have eas:wrap IntKind.i64 ((a:Int)+(s:Int))=((a+s:Nat):Int):=wrN (by omega) (by omega);have e2s:wrap IntKind.i64 ((2:Int)*(s:Int))=((2*s:Nat):Int):=wrN (by omega) (by omega);simp only[Jp,dle];by_cases hle:a+2*s<=n
  · cases hAB with
    |last hl _=>omega
    |   @cons x R1 hx ax r1=>
        rw[aB]at hn hR;have hy:∃y R2,R1=y++R2∧y.length=s∧Asc (ltc c) y∧AB (ltc c) s R2:=by
         cases r1 with
         |last hl al=>exact⟨R1,[],by simp,by omega,al,.last (by simp) trivial⟩
         | @cons y R2 hy ay r2=>exact⟨y,R2,rfl,hy,ay,r2⟩
        obtain⟨y,R2,rfl,hy,ay,r2⟩:=hy;rw[aB]at hn hR;have hsy:=acg hc hC B hB hB0 (2*s) m X x y R2 a (a+s) (a+2*s) (by omega) (by omega) ha (by omega) (by omega) (by omega) (by omega) (by omega) ax ay (fun z hz=>hP z (by simp[hz])) (fun z hz=>hP z (by simp[hz]));obtain⟨R',g1,g2,g3,g4,g5⟩:=ih (q-2*s) (by omega) M (X++bO (ltc c) (x++y)) R2 (a+2*s) (by omega) (by omega) (by rw[aB,isort_len,aB];omega) (by omega) r2 (fun z hz=>hP z (by simp[hz]));have exy:bO (ltc c) (bO (ltc c) (x++y))=bO (ltc c) (x++y):=by have:=jd h (x++y) [];simpa using this
        refine⟨bO (ltc c) (x++y)++R',.cons (by rw[isort_len,aB];omega) (pQ h _) g1,by simp only[aB,isort_len,g2];omega,?_,fun z hz=>?_,?_⟩
        ·rw[←List.append_assoc];exact G5 h exy g3
        ·rcases List.mem_append.1 hz with hz|hz;·exact hP z (by have:=mem_isort.1 hz;simp only[List.mem_append]at this ⊢;rcases this with q|q<;>simp[q])
         ·exact g4 z hz
        ·have ew:wrap IntKind.i64 (((a+2*s:Nat):Int)+((2*s:Nat):Int))=((a+2*s+2*s:Nat):Int):=wrN (by omega) (by omega);have hsy':i25 m (a:Int) ((a+s:Nat):Int) ((a+2*s:Nat):Int) (X++(x++(y++R2)))=some (X++(bO (ltc c) (x++y)++R2)):=hsy;simp only[hle,decide_true,cond_true,eas,e2s,hsy',ah,ew];simp only[List.append_assoc]at g5 ⊢
         exact g5
  · simp only[hle,decide_false,cond_false,eas,dlt];by_cases hlt:a+s<n
    ·   have hsp:∃x y,R=x++y∧x.length=s∧Asc (ltc c) x∧Asc (ltc c) y:=by
         cases hAB with
         |last hl al=>omega
         | @cons x y hx ax r1=>
           rw[aB]at hn;exact⟨x,y,rfl,hx,ax,r1.asc hs (by omega)⟩
        obtain⟨x,y,rfl,hx,ax,ay⟩:=hsp;rw[aB]at hn hR;have hsy:=acg hc hC B hB hB0 B m X x y [] a (a+s) n (by omega) (by omega) ha (by omega) (by omega) (by omega) (by omega) (by omega) ax ay (fun z hz=>hP z (by simp[hz])) (fun z hz=>hP z (by simp[hz]));simp only[List.append_nil]at hsy;have exy:bO (ltc c) (bO (ltc c) (x++y))=bO (ltc c) (x++y):=by have:=jd h (x++y) [];simpa using this
        refine⟨bO (ltc c) (x++y),.last (by rw[isort_len,aB];omega) (pQ h _),isort_len _,exy,fun z hz=>hP z (mem_isort.1 hz),?_⟩;simp only[hlt,decide_true,cond_true,hsy,ah]
    ·   refine⟨R,.last (by omega) (hAB.asc hs (by omega)),rfl,rfl,hP,?_⟩;simp only[hlt,decide_false,cond_false]
theorem auE(m B:Nat)(hB:B<144115188075855872)(hmB:2*B+6<=m)(hB0:m0<=B)(n:Nat)(hnB:2*n+40<=B):∀(q M s:Nat)(R:List Dt),n-s<=q->q<M->20<=s->s<=2*n+20->R.length=n->AB (ltc c) s R->(∀x∈R,P x)->
  zu m M (n:Int) (s:Int) R=some (bO (ltc c) R):=by
 have h:=swo hc;intro q;induction q using Nat.strongRecOn with
 |_ q ih=>
  intro M s R hq hM hs hs2 hR hAB hP;obtain⟨M,rfl⟩:∃k,M=k+1:=⟨M-1,by omega⟩;simp only[zu,dlt];by_cases hlt:s<n
  · obtain⟨R',g1,g2,g3,g4,g5⟩:=auD hc hC m B (by omega) hmB hB0 n s (by omega) (by omega) (by omega) (zu m M) n (m+1) [] R 0 (by omega) (by omega) rfl (by omega) hAB hP;have e2s:wrap IntKind.i64 ((2:Int)*(s:Int))=((0+2*s:Nat):Int):=wrN (by omega) (by omega);have es2:wrap IntKind.i64 ((s:Int)*2)=((2*s:Nat):Int):=wrN (by omega) (by omega);have g5':Jp m (zu m M) (Nat.succ m) (n:Int) (s:Int) 0 ((0+2*s:Nat):Int) R=Hg m (zu m M) (n:Int) (s:Int) R':=g5;simp only[hlt,decide_true,cond_true,e2s,g5',Hg,es2];rw[ih (n-2*s) (by omega) M (2*s) R' (by omega) (by omega) (by omega) (by omega) (by omega) g1 g4,g3]
  · simp only[hlt,decide_false,cond_false];rw[nJ (hAB.asc (by omega) (by omega))]
theorem ahh(m B:Nat)(hB:B<144115188075855872)(hmB:2*B+6<=m)(hB0:m0<=B)(R:List Dt)(hnB:2*R.length+40<=B)(hP:∀x∈R,P x):i21 (m+2) R=some (bO (ltc c) R):=by obtain⟨R',g1,g2,g3,g4,g5⟩:=auC hc hC m B (by omega) (by omega) (by omega) R.length (by omega) R.length (m+1) [] R 0 (ak _) (by omega) rfl (by omega) hP;have g5':Jq m (Nat.succ m) ((R.length:Nat):Int) 20 0 20 R=VO m ((R.length:Nat):Int) 20 R':=g5;have h5:=auE hc hC m B hB hmB hB0 R.length hnB R.length (m+1) 20 R' (by omega) (by omega) (by omega) (by omega) g2 g1 g4;have h5':zu m (Nat.succ m) ((R.length:Nat):Int) 20 R'=some (bO (ltc c) R'):=h5;simp only[i21,i22,g5',VO,h5',ah,g3]
end
end Go.Proofs.YtmecfjhdnbgfeaaGreatDoor
namespace Go.Proofs.YtmecfjhdnbgfeaaGreatDoor
open Go.Am Dt
theorem aeS{l:List Dt}{i:Nat}(h:i<l.length):inL l (i:Int)=some ():=by unfold inL;rw[if_pos ⟨by omega,by omega⟩]
theorem wrT{z:Int}{n:Nat}(h:z=(n:Int))(hn:n<9223372036854775807):IntKind.wrap IntKind.i64 z=(n:Int):=by rw[h,wrap64 (by omega) (by omega)]
theorem auF{i j:Nat}(h:i+j<4611686018427387904):IntKind.wrap IntKind.i64 (shrI IntKind.u64 (IntKind.wrap IntKind.u64 (IntKind.wrap IntKind.i64 ((i:Int)+(j:Int)))) 1)=(((i+j)/2:Nat):Int):=by
 have e1:IntKind.wrap IntKind.i64 ((i:Int)+(j:Int))=((i+j:Nat):Int):=wrT (by omega) (by omega);have e2:IntKind.wrap IntKind.u64 ((i+j:Nat):Int)=((i+j:Nat):Int):=by unfold IntKind.wrap;simp only[IntKind.bits,IntKind.signed,Bool.false_and,Bool.false_eq_true,if_false];omega
 have e3:shrI IntKind.u64 ((i+j:Nat):Int) 1=(((i+j)/2:Nat):Int):=by show Int.fdiv ((i+j:Nat):Int) 2=_;rw[Int.fdiv_eq_ediv_of_nonneg _ (by omega)];omega
 rw[e1,e2,e3];exact wrT rfl (by omega)
def nmV(n:Int):Dt:=agg [(int 3),(int n),(str (ByteArray.mk (List.toArray []))),(lst []),(lst [])]
def fsV(v:Dt)(n:Int):List Dt:=[(agg [(str (ByteArray.mk (List.toArray [95,105,100]))),v]),(agg [(str (ByteArray.mk (List.toArray [99,111,117,110,116]))),nmV n])]
def eDV:Dt:=agg [(int 5),(int 0),(str (ByteArray.mk (List.toArray []))),(lst []),(bool true)]
def esG(G:GL):List Dt:=G.map fun _=>eDV
def lsG(G:GL):List Dt:=G.map fun x=>lst (fsV x.1 0)
def cnG(G:GL):List Dt:=G.map fun x=>int (x.2:Int)
def odO(O:List Nat):List Dt:=O.map fun(i:Nat)=>int (i:Int)
def cvG(G:GL):List Dt:=G.map fun x=>F3 x.1 0
theorem apH:∀G:GL,frzD (some 4) (esG G) (lsG G)=cvG G
 | []=>rfl
 |x::r=>by show (_::frzD (some 4) (esG r) (lsG r))=_;rw[apH r];rfl
theorem F4{G:GL}{i:Nat}(h:i<G.length):gAt G i=G[i].1:=by unfold gAt;rw[List.getD_eq_getElem?_getD,aF h];rfl
theorem UF{G:GL}{i:Nat}(h:i<G.length):gN G i=G[i].2:=by unfold gN;rw[List.getD_eq_getElem?_getD,aF h];rfl
theorem auG{m i:Nat}{G:GL}{v:Dt}(hi:i<G.length)(hc:bD m (gAt G i) v=some (cmpD (gAt G i) v)):i16 (m+1) (i:Int) v (lst (cvG G))=some (cmpD (gAt G i) v):=by
 have hi':i<(cvG G).length:=by rw[cvG,List.length_map];exact hi
 have e:(cvG G)[i]=F3 (gAt G i) 0:=by rw[F4 hi];simp only[cvG,List.getElem_map]
 rw[i16,show toLst (lst (cvG G))=cvG G from rfl,bG hi',ah,e];show ((bD m (gAt G i) v).bind _:Option Int)=_;rw[hc];rfl
theorem O3(m:Nat)(G:GL)(O:List Nat)(v:Dt)(hO:OI G O)(hl:O.length<1000000000)(hc:∀i,i<G.length->bD m (gAt G i) v=some (cmpD (gAt G i) v)):∀(M i j:Nat),i<=j->j<=O.length->j-i<M->(∀k,k<i->cmpD (bAt (oB G O) k) v<0)->(∀k,j<=k->k<O.length->0<=cmpD (bAt (oB G O) k) v)->
  ∃p,Cut (oB G O) v p∧NH (m+1) M (odO O) (lst (cvG G)) (O.length:Int) (i:Int) (j:Int) v=some ((p:Int),fnB (oB G O) v p)
 |0,i,j,_,_,h,_,_=>by omega
 |M+    1,i,j,hij,hj,h,h1,h2=>by
  have hol:(odO O).length=O.length:=by rw[odO,List.length_map]
  have hstep:∀(k:Nat)(hk:k<O.length),(idx (odO O) (k:Int)).bind (fun v0=>i16 (m+1) (toInt v0) v (lst (cvG G)))=some (cmpD (bAt (oB G O) k) v):=fun k hk=>by rw[bG (show k<(odO O).length by rw[hol];exact hk),ah,UD hk];simp only[odO,List.getElem_map];exact auG (hO.rng _ (aI hk)) (hc _ (hO.rng _ (aI hk)))
  simp only[NH,dlt];by_cases hlt:i<j
  ·have hm:(i+j)/2<O.length:=by omega
   have hs0:=hstep _ hm;rw[bG (show (i+j)/2<(odO O).length by rw[hol];exact hm),ah]at hs0;simp only[hlt,decide_true,cond_true,ahL,auF (show i+j<4611686018427387904 by omega),bG (show (i+j)/2<(odO O).length by rw[hol];exact hm),ah,hs0];by_cases hs:cmpD (bAt (oB G O) ((i+j)/2)) v<0
   ·    rw[decide_eq_true hs,cond_true,wrT (n:=(i+j)/2+1) (by omega) (by omega)];refine O3 m G O v hO hl hc M _ j (by omega) hj (by omega) (fun k hk=>?_) h2;by_cases hk2:k=(i+j)/2;·rw[hk2];exact hs
        ·exact Ce.ltl (hO.ascB.lt' (show k<(i+j)/2 by omega) (by rw[qZ];exact hm)) (Int.le_of_lt hs)
   ·    rw[decide_eq_false hs,cond_false];refine O3 m G O v hO hl hc M i _ (by omega) (by omega) (by omega) h1 (fun k hk hk3=>?_);by_cases hk2:k=(i+j)/2;·rw[hk2];omega
        ·refine Int.not_lt.1 fun hn=>hs ?_;exact Ce.ltl (hO.ascB.lt' (show (i+j)/2<k by omega) (by rw[qZ];exact hk3)) (Int.le_of_lt hn)
  ·have hij2:i=j:=by omega
   subst hij2;refine⟨i,⟨by rw[qZ];exact hj,h1,fun k a b=>h2 k a (by rw[qZ]at b;exact b)⟩,?_⟩;simp only[hlt,decide_false,cond_false,ahM,fnB,qZ];by_cases hn:i<O.length
   ·    have hs0:=hstep _ hn;rw[bG (show i<(odO O).length by rw[hol];exact hn),ah]at hs0;rw[decide_eq_true (show ((i:Nat):Int)<((O.length:Nat):Int) by omega),cond_true,bG (show i<(odO O).length by rw[hol];exact hn),ah,hs0,ah,decide_eq_true hn,Bool.true_and]
   ·rw[decide_eq_false (show ¬((i:Nat):Int)<((O.length:Nat):Int) by omega),cond_false,decide_eq_false hn,Bool.false_and]
theorem ard(m:Nat)(G:GL)(O:List Nat)(v:Dt)(hO:OI G O)(hl:O.length<1000000000)(hm:O.length<=m)(hc:∀i,i<G.length->bD m (gAt G i) v=some (cmpD (gAt G i) v)):∃p,Cut (oB G O) v p∧i15 (m+2) (odO O) v (lst (cvG G))=some ((p:Int),fnB (oB G O) v p):=by
 have hol:(odO O).length=O.length:=by rw[odO,List.length_map]
 obtain⟨p,h1,h2⟩:=O3 m G O v hO hl hc (Nat.succ (m+1)) 0 O.length (aC _) (ak _) (by omega) (fun k h=>by omega) (fun k h1 h2=>by omega);refine⟨p,h1,?_⟩;rw[←h2,i15,ahN,hol];rfl
theorem ZO(m:Nat)(b:Dt):kK (m+2) b 0=some ((5:Int),(0:Int),(ByteArray.mk (List.toArray [])),[],fsV b 0):=rfl
theorem ZP(m:Nat)(rec1:List Dt->Int->Int->Dt->List Dt->List Dt->List Dt->List Dt->Option (List Dt))(docs:List Dt)(n:Int)(j:Nat)(e:Dt)(es ls:List Dt)(G:GL)(O:List Nat)(p:Nat)(hp:p<O.length)(hi:O[p]<G.length)(hj:j<9223372036854775807)(hn:gN G O[p]+1<9223372036854775807):
  jV m rec1 (p:Int) docs n (j:Int) e es ls (cnG G) (odO O)=rec1 docs n ((j+1:Nat):Int) e es ls (cnG (G.set O[p] (gAt G O[p],gN G O[p]+1))) (odO O):=by
 have hol:(odO O).length=O.length:=by rw[odO,List.length_map]
 have hgl:(cnG G).length=G.length:=by rw[cnG,List.length_map]
 have e1:(odO O)[p]'(by rw[hol];exact hp)=int ((O[p]:Nat):Int):=by simp only[odO,List.getElem_map]
 have e2:(cnG G)[O[p]]'(by rw[hgl];exact hi)=int ((gN G O[p]:Nat):Int):=by rw[UF hi];simp only[cnG,List.getElem_map]
 have e3:(cnG G).set O[p] (int ((gN G O[p]+1:Nat):Int))=cnG (G.set O[p] (gAt G O[p],gN G O[p]+1)):=by rw[cnG,cnG,List.map_set]
 have h1:∀k:Nat,toInt (int (k:Int))=(k:Int):=fun _=>rfl;simp only[jV,uI,aeS (show p<(odO O).length by rw[hol];exact hp),ah,Int.toNat_natCast,aF (show p<(odO O).length by rw[hol];exact hp),e1,h1,aeS (show O[p]<(cnG G).length by rw[hgl];exact hi),aF (show O[p]<(cnG G).length by rw[hgl];exact hi),e2,bQ (show gN G O[p]<9223372036854775807 by omega),e3,bQ hj]
theorem Nu(G:GL)(x:Dt×Nat):esG (G++[x])=esG G++[eDV]:=by rw[esG,List.map_append];rfl
theorem Nv(G:GL)(x:Dt×Nat):lsG (G++[x])=lsG G++[lst (fsV x.1 0)]:=by rw[lsG,List.map_append];rfl
theorem an4(G:GL)(x:Dt×Nat):cnG (G++[x])=cnG G++[int (x.2:Int)]:=by rw[cnG,List.map_append];rfl
theorem O4{A:Type}(l:List A)(x y:A):(l++[x]).set l.length y=l++[y]:=by simp
theorem an5(G:GL)(i:Nat)(v:Dt)(n:Nat):esG (G.set i (v,n))=esG G:=by rw[esG,esG,List.map_const',List.map_const',List.length_set]
theorem an6{G:GL}{i:Nat}(h:i<G.length)(n:Nat):lsG (G.set i (gAt G i,n))=lsG G:=by
 rw[lsG,lsG,List.map_set];refine List.ext_getElem? fun k=>?_;rw[List.getElem?_set];by_cases hik:i=k
 ·subst hik;rw[if_pos rfl,if_pos (by rw[List.length_map];exact h),List.getElem?_map,aF h,F4 h];rfl
 ·rw[if_neg hik]
def nzV(v:Dt):Dt:=bif I v 0==0 then pR else v
theorem insert_eq{O:List Nat}{p:Nat}(n:Nat)(hp:p<=O.length)(hl:O.length<=1000000):lV (p:Int) (odO O) [int (n:Int)]=some (odO (O.take p++n::O.drop p)):=by
 have hol:(odO O).length=O.length:=by rw[odO,List.length_map]
 rw[lV,decide_eq_true (show (0:Int)<=(p:Int) by omega),hol,decide_eq_true (show (p:Int)<=(O.length:Int) by omega),show Nat.ble O.length 1000000=true from Nat.ble_eq_true_of_le hl];show some ((odO O).take p++[int (n:Int)]++(odO O).drop p)=_;simp only[odO,List.map_append,List.map_cons,List.map_take,List.map_drop,List.append_assoc,List.singleton_append]
theorem Xg(m:Nat)(docs:List Dt)(e:Dt)(g:Dt->Dt)(hd:docs.length<=1000000)(hm:1000000<=m)(hE:∀d∈docs,kR (m+2) e d=some (g d))(hC:∀d∈docs,∀d'∈docs,bD m (nzV (g d)) (nzV (g d'))=some (cmpD (nzV (g d)) (nzV (g d')))):∀(M j:Nat)(G:GL)(O:List Nat),j<=docs.length->docs.length-j<M->OI G O->G=grp ((docs.take j).map fun d=>nzV (g d))->O.length<=j->G.length<=j->(∀x∈G,x.2<=j∧∃d∈docs,x.1=nzV (g d))->
  ∃G',G'=grp (docs.map fun d=>nzV (g d))∧G'.length<=docs.length∧(∀x∈G',x.2<=docs.length∧∃d∈docs,x.1=nzV (g d))∧iK (m+2) M docs (docs.length:Int) (j:Int) e (esG G) (lsG G) (cnG G) (odO O)=nE (m+2) (esG G') (lsG G') (cnG G')
 |0,j,_,_,_,h,_,_,_,_,_=>by omega
 |M+    1,j,G,O,hj,h,hO,hG,hOl,hGl,hB=>by
  simp only[iK,dlt];by_cases hlt:j<docs.length
  ·have hv:∀x,iJ (m+2) x docs (docs.length:Int) (j:Int) e (esG G) (lsG G) (cnG G) (odO O) (nzV (g docs[j]))=(bif (I (g docs[j]) 0==0)then iJ (m+2) x docs (docs.length:Int) (j:Int) e (esG G) (lsG G) (cnG G) (odO O) pR else iJ (m+2) x docs (docs.length:Int) (j:Int) e (esG G) (lsG G) (cnG G) (odO O) (g docs[j])):=fun x=>by rw[nzV];cases (I (g docs[j]) 0==0)<;>rfl
   simp only[hlt,decide_true,cond_true,uJ,bG hlt,hE _ (aI hlt),ah];rw[←hv,iJ,apH];generalize hvv:nzV (g docs[j])=v;have hcv:∀i,i<G.length->bD m (gAt G i) v=some (cmpD (gAt G i) v):=fun i hi=>by obtain⟨_,d,hd1,hd2⟩:=hB _ (aI hi);rw[F4 hi,hd2,←hvv];exact hC d hd1 _ (aI hlt)
   obtain⟨p,hp,hs⟩:=ard m G O v hO (by omega) (by omega) hcv;rw[hs,ah];have hG':xw G v=grp ((docs.take (j+1)).map fun d=>nzV (g d)):=by rw[List.take_succ_eq_append_getElem hlt,List.map_append,List.map_cons,List.map_nil,O0,←hG,hvv]
   have hB':∀(G2:GL),(∀x∈G2,x∈G∨(x.2<=j+1∧∃d∈docs,x.1=nzV (g d)))->∀x∈G2,x.2<=j+1∧∃d∈docs,x.1=nzV (g d):=fun G2 h2 x hx=>by
        rcases h2 x hx with h|h;·exact⟨by have:=(hB x h).1;omega,(hB x h).2⟩
        ·exact h
   cases hf:fnB (oB G O) v p with
   |    true=>
        obtain⟨hpo,e1,hO'⟩:=hO.found hp hf;have hi:=hO.rng _ (aI hpo);have hb:=hB _ (aI hi);rw[Bool.not_true,cond_false,ZP (m+2) _ docs _ j e _ _ G O p hpo hi (by omega) (by rw[UF hi];omega)];have ih:=Xg m docs e g hd hm hE hC M (j+1) (xw G v) O (by omega) (by omega) hO' hG' (by omega) (by rw[e1,List.length_set];omega) (hB' _ fun x hx=>by
         rw[e1]at hx;rcases List.mem_or_eq_of_mem_set hx with h|rfl;·exact .inl h
         ·refine .inr ⟨by show gN G O[p]+1<=_;rw[UF hi];omega,?_⟩;show ∃d∈docs,gAt G O[p]=_;rw[F4 hi];exact hb.2)
        rw[e1,an5,an6 hi]at ih;rw[e1]at hG';exact ih
   |    false=>
        obtain⟨e1,hpl,hO'⟩:=hO.fresh hp hf;have hes:(esG G).length=G.length:=by rw[esG,List.length_map]
        have hls:(lsG G).length=G.length:=by rw[lsG,List.length_map]
        have hcs:(cnG G).length=G.length:=by rw[cnG,List.length_map]
        have ap:∀(l:List Dt)(y:Dt),l.length<=1000000->app l [y]=some (l++[y]):=fun l y hl=>kH (by simp;omega);have hlast:(esG G).length<(esG G++[aj]).length:=by simp
        have s1:List.set (esG G++[aj]) (esG G).length eDV=esG (G++[(v,0)]):=by rw[O4,Nu]
        have s2:List.set (lsG G++[lst []]) (esG G).length (lst (fsV v 0))=lsG (G++[(v,0)]):=by rw[hes,←hls,O4,Nv]
        have s3:cnG G++[int 0]=cnG (G++[(v,0)]):=by rw[an4];rfl
        have hpo:p<(O.take p++G.length::O.drop p).length:=by simp;omega
        have hpe:(O.take p++G.length::O.drop p)[p]=G.length:=by rw[List.getElem_append_right (by simp;omega)];simp[Nat.min_eq_left hpl]
        have hgl:G.length<(G++[(v,0)]).length:=by simp
        rw[Bool.not_false,cond_true,hes,insert_eq G.length hpl (by omega),ah,ZO,ah,ap _ _ (by omega),ah];have hgo:G.length<(esG G++[aj]).length:=by rw[aB,hes];simp
        rw[aeS hgo,ah,Int.toNat_natCast,aF hgo,ah,ap _ _ (by omega),ah,s3];have s1':List.set (esG G++[aj]) G.length (agg [int 5,int 0,str (ByteArray.mk (List.toArray [])),lst [],bool true])=esG (G++[(v,0)]):=by rw[←s1,hes];rfl
        have s2':List.set (lsG G++[lst []]) G.length (lst (fsV v 0))=lsG (G++[(v,0)]):=by rw[←s2,hes]
        have hst:=ZP (m+2) (iK (m+2) M) docs (docs.length:Int) j e (esG (G++[(v,0)])) (lsG (G++[(v,0)])) (G++[(v,0)]) (O.take p++G.length::O.drop p) p hpo (by rw[hpe];exact hgl) (by omega) (by rw[hpe,UF hgl];simp);have e2:(G++[(v,0)]).set G.length (gAt (G++[(v,0)]) G.length,gN (G++[(v,0)]) G.length+1)=G++[(v,1)]:=by rw[O4,qG,UF hgl];simp
        rw[hpe,e2]at hst;have ih:=Xg m docs e g hd hm hE hC M (j+1) (xw G v) (O.take p++G.length::O.drop p) (by omega) (by omega) hO' hG' (by simp;omega) (by rw[e1];simp;omega) (hB' _ fun x hx=>by
         rw[e1]at hx;rcases List.mem_append.1 hx with h|h;·exact .inl h
         ·rw[List.mem_singleton.1 h];exact .inr ⟨by simp,docs[j],aI hlt,hvv.symm⟩)
        rw[e1,Nu,Nv]at ih;rw[e1]at hG';rw[Nu,Nv]at hst;refine⟨_,rfl,?_⟩;obtain⟨G',k1,k2,k3,k4⟩:=ih;rw[←k1];refine⟨k2,k3,?_⟩;rw[←k4];refine Eq.trans ?_ hst;show jV (m+2) _ (p:Int) docs _ (j:Int) e (List.set (esG G++[aj]) G.length (agg [int 5,int 0,str (ByteArray.mk (List.toArray [])),lst [],bool true])) (List.set (lsG G++[lst []]) G.length (lst (fsV v 0))) _ _=_;rw[s1',s2',Nu,Nv]
  ·have e1:j=docs.length:=by omega
   rw[e1,List.take_length]at hG;simp only[hlt,decide_false,cond_false];exact⟨G,hG,by omega,fun x hx=>⟨by have:=(hB x hx).1;omega,(hB x hx).2⟩,rfl⟩
end Go.Proofs.YtmecfjhdnbgfeaaGreatDoor
namespace Go.Proofs.YtmecfjhdnbgfeaaGreatDoor
open Go.Am Go.Am.Srt Dt
def lsP(G:GL)(j:Nat):List Dt:=((G.take j).map fun x=>lst (fsV x.1 (x.2:Int)))++(G.drop j).map fun x=>lst (fsV x.1 0)
def cvN(G:GL):List Dt:=G.map fun x=>F3 x.1 (x.2:Int)
theorem apI:∀G:GL,frzD (some 4) (esG G) (G.map fun x=>lst (fsV x.1 (x.2:Int)))=cvN G
 | []=>rfl
 |x::r=>by show (_::frzD (some 4) (esG r) (r.map fun x=>lst (fsV x.1 (x.2:Int))))=_;rw[apI r];rfl
theorem ZQ(m:Nat)(G:GL)(hl:G.length<=1000000):∀(M j:Nat),j<=G.length->G.length-j<M->
  jW (m+1) M (cnG G) (G.length:Int) (j:Int) (esG G) (lsP G j)=lM (m+1) (cvN G)
 |0,j,_,h=>by omega
 |M+    1,j,hj,h=>by
  have hes:(esG G).length=G.length:=by rw[esG,List.length_map]
  have hcs:(cnG G).length=G.length:=by rw[cnG,List.length_map]
  simp only[jW,dlt];by_cases hlt:j<G.length
  ·have e1:(cnG G)[j]'(by rw[hcs];exact hlt)=int ((G[j].2:Nat):Int):=by simp only[cnG,List.getElem_map]
   have e2:(esG G)[j]'(by rw[hes];exact hlt)=eDV:=by simp only[esG,List.getElem_map]
   have ed:lsP G j=((G.take j).map fun x=>lst (fsV x.1 (x.2:Int)))++lst (fsV G[j].1 0)::(G.drop (j+1)).map fun x=>lst (fsV x.1 0):=by rw[lsP,aD hlt];rfl
   have en:lsP G (j+1)=((G.take j).map fun x=>lst (fsV x.1 (x.2:Int)))++lst (fsV G[j].1 (G[j].2:Int))::(G.drop (j+1)).map fun x=>lst (fsV x.1 0):=by rw[lsP,List.take_succ_eq_append_getElem hlt,List.map_append,List.append_assoc];rfl
   have hA:((G.take j).map fun x=>lst (fsV x.1 (x.2:Int))).length=j:=by rw[List.length_map,List.length_take];omega
   generalize ((G.take j).map fun x=>lst (fsV x.1 (x.2:Int)))=A at ed en hA;generalize ((G.drop (j+1)).map fun x=>lst (fsV x.1 0))=B at ed en;have ih:=ZQ m G hl M (j+1) (by omega) (by omega);rw[en]at ih;have g1':∀x,(A++x::B)[j]? =some x:=fun x=>by rw[←hA];exact g1 A B x
   have s1':∀x z,(A++x::B).set j z=A++z::B:=fun x z=>by rw[←hA];exact s1 A B x z
   have hlk:lkd (some 4) eDV=true:=rfl;have hint:∀z:Int,ig (m+1) z=some (nmV z):=fun _=>rfl;rw[ed];simp only[hlt,decide_true,cond_true,uK,bG (show j<(cnG G).length by rw[hcs];exact hlt),ah,e1,aeS (show j<(esG G).length by rw[hes];exact hlt),Int.toNat_natCast,aF (show j<(esG G).length by rw[hes];exact hlt),e2,hlk,g1',hint,s1'];rw[show inL (toLst (lst (fsV G[j].1 0))) 1=some ()from rfl,ah,show (toLst (lst (fsV G[j].1 0)))[1]? =some (agg [(str (ByteArray.mk (List.toArray [99,111,117,110,116]))),nmV 0])from rfl,ah,tL,bQ (by omega)];exact ih
  ·have e1:j=G.length:=by omega
   have e2:lsP G j=G.map fun x=>lst (fsV x.1 (x.2:Int)):=by rw[lsP,e1,List.take_length,List.drop_length];simp
   simp only[hlt,decide_false,cond_false,e2,apI]
def arf(x:Dt):Dt:=fld ((L x 4).getD 1 aj) 1
def cmT(x y:Dt):Int:=cmpD (arf y) (arf x)
theorem ach:TPO cmT:=⟨fun a b=>Ce.rng _ _,fun a b=>Ce.anti _ _,fun a b d h1 h2=>Ce.tr _ _ _ h2 h1⟩
def IsC(x:Dt):Prop:=∃(v:Dt)(n:Nat),x=F3 v (n:Int)
theorem Nw(v:Dt)(n:Int):arf (F3 v n)=nmV n:=rfl
theorem auH(m:Nat)(hm:1000<=m)(x y:Dt)(hx:IsC x)(hy:IsC y):dF m x y=some (cmT x y):=by
 obtain⟨v,n,rfl⟩:=hx;obtain⟨w,k,rfl⟩:=hy;obtain⟨q,rfl⟩:∃q,m=q+4:=⟨m-4,by omega⟩;have hb:(nmV (k:Int)).bulk<=100:=by show (agg [int 3,int (k:Int),str (ByteArray.mk (List.toArray [])),lst [],lst []]).bulk<=100;simp only[Dt.bulk,bulkL];have:(ByteArray.mk (List.toArray [])).size=0:=rfl;omega
 have h1:=zR (nmV (k:Int)) (nmV (n:Int)) q (by omega) (by omega);show ((bD (q+3) (nmV (k:Int)) (nmV (n:Int))).bind _:Option Int)=some (cmpD (nmV (k:Int)) (nmV (n:Int)));rw[h1];rfl
def RU(vs:List Dt):List Dt:=bO (ltc cmT) (cvN (grp vs))
theorem ajG(m:Nat)(docs:List Dt)(e:Dt)(g:Dt->Dt)(hd:docs.length<=1000000)(hm:20000000<=m)(hE:∀d∈docs,kR (m+2) e d=some (g d))(hC:∀d∈docs,∀d'∈docs,bD m (nzV (g d)) (nzV (g d'))=some (cmpD (nzV (g d)) (nzV (g d')))):mq (m+3) e docs=some (RU (docs.map fun d=>nzV (g d))):=by
 obtain⟨G,h1,h2,h3,h4⟩:=Xg m docs e g hd (by omega) hE hC (Nat.succ (m+2)) 0 [] [] (aC _) (by omega) OI.nil (by rw[List.take_zero];rfl) (ak _) (ak _) (fun x hx=>by cases hx);have hcs:(cnG G).length=G.length:=by rw[cnG,List.length_map]
 have e0:lsP G 0=lsG G:=by rw[lsP,List.take_zero,aH,List.map_nil,List.nil_append,lsG]
 have k1:=ZQ (m+1) G (by omega) (Nat.succ (m+2)) 0 (aC _) (by omega);rw[e0]at k1;have hP:∀x∈cvN G,IsC x:=fun x hx=>by obtain⟨y,_,rfl⟩:=List.mem_map.1 hx;exact⟨y.1,y.2,rfl⟩
 have hl:(cvN G).length=G.length:=by rw[cvN,List.length_map]
 have k2:=ahh ach (m0:=1000) (fun q hq x y hx hy=>auH q hq x y hx hy) m 3000000 (by omega) (by omega) (by omega) (cvN G) (by omega) hP;refine Eq.trans (b:=nE (m+2) (esG G) (lsG G) (cnG G)) h4 ?_;rw[nE,hcs];refine Eq.trans (b:=lM (m+2) (cvN G)) k1 ?_;rw[lM,k2,ah,RU,h1]
end Go.Proofs.YtmecfjhdnbgfeaaGreatDoor
namespace Go.Proofs.YtmecfjhdnbgfeaaGreatDoor
open Go.Am Go.Am.Srt
theorem O5{A B:Type}{lt:A->A->Bool}{lt':B->B->Bool}(f:A->B)(h:∀a b,lt' (f a) (f b)=lt a b):∀D:List A,bO lt' (D.map f)=(bO lt D).map f
 | []=>rfl
 |a::D=>by
  have hi:∀(x:A)(s:List A),ins lt' (f x) (s.map f)=(ins lt x s).map f:=by
   intro x s;induction s with
   |nil=>rfl
   |    cons y s ih=>
        simp only[List.map_cons,ins,h];cases lt y x;·rfl
        ·simp only[cond_true,List.map_cons,ih]
  show ins lt' (f a) (bO lt' (D.map f))=(ins lt a (bO lt D)).map f;rw[O5 f h D,hi]
def ltG(x y:Dt×Nat):Bool:=ltc cmT (F3 x.1 (x.2:Int)) (F3 y.1 (y.2:Int))
def zO(G:GL):GL:=bO ltG G
theorem Xh(vs:List Dt):RU vs=cvN (zO (grp vs)):=O5 (lt:=ltG) (fun x:Dt×Nat=>F3 x.1 (x.2:Int)) (fun _ _=>rfl) _
theorem ajH(a b:Int):cmpD (nmV a) (nmV b)=zQ a b:=by
 have h:∃k,(nmV a).bulk+(nmV b).bulk=k+1:=⟨(nmV a).bulk+(nmV b).bulk-1,by
  have:1<=(nmV a).bulk:=by unfold nmV;simp only[Dt.bulk];omega
  omega⟩
 obtain⟨k,hk⟩:=h;rw[cmpD,hk];rfl
theorem an7:SWO ltG:=⟨fun x=>(swo ach).irr _,fun x y z=>(swo ach).tr _ _ _,fun x y z=>(swo ach).ntr _ _ _⟩
theorem aeT{A:Type}{lt:A->A->Bool}:∀{l:List A},Asc lt l->∀(i:Nat)(h:i+1<l.length),lt l[i+1] (l[i]'(by omega))=false
 |a::b::r,h,0,_=>h.1 b aS
 |a::r,h,i+1,hi=>by have:=aeT (l:=r) h.2 i (by simpa using hi);simpa using this
theorem an8(G:GL)(i:Nat)(h:i+1<(zO G).length):(zO G)[i+1].2<=((zO G)[i]'(by omega)).2:=by have h1:=aeT (pQ an7 G) i h;have h1:ltG (zO G)[i+1] ((zO G)[i]'(by omega))=false:=h1;unfold ltG ltc at h1;rw[cmT,Nw,Nw,ajH]at h1;have h2:=of_decide_eq_false h1;rcases fD ((((zO G)[i]'(by omega)).2:Nat):Int) ((((zO G)[i+1]).2:Nat):Int)with⟨h3,e⟩| ⟨h3,e⟩| ⟨h3,e⟩<;>omega
section
variable(bs:List Dt)
end
def likB(v:Dt)(w:Dt):Bool:=cmpD w v==0
structure GI (vs:List Dt) (G:GL):Prop where
 dist:∀i j,i<G.length->j<G.length->i≠j->cmpD (gAt G i) (gAt G j)≠0
 cov:∀w∈vs,∃i,i<G.length∧cmpD (gAt G i) w=0
 cnt:∀i,i<G.length->gN G i=vs.countP (likB (gAt G i))
 mem:∀i,i<G.length->gAt G i∈vs
theorem GI.nil:GI [] []:=⟨fun i _ h=>(by simp at h),fun w h=>(by cases h),fun i h=>(by simp at h),fun i h=>(by simp at h)⟩
theorem arh{G:GL}{i:Nat}{v:Dt}{n:Nat}(j:Nat)(hi:i<G.length):gN (G.set i (v,n)) j=if i=j then n else gN G j:=by
 unfold gN;simp only[List.getD_eq_getElem?_getD,List.getElem?_set];by_cases hij:i=j
 ·subst hij;rw[if_pos rfl,if_pos hi,if_pos rfl];rfl
 ·rw[if_neg hij,if_neg hij]
theorem ZR{G:GL}{x:Dt×Nat}{i:Nat}(h:i<G.length):gN (G++[x]) i=gN G i:=by unfold gN;rw[List.getD_eq_getElem?_getD,List.getD_eq_getElem?_getD,List.getElem?_append_left h]
theorem aci{G:GL}{x:Dt×Nat}:gN (G++[x]) G.length=x.2:=by unfold gN;rw[List.getD_eq_getElem?_getD,List.getElem?_append_right (ak _)];simp
theorem Ep{a b:Dt}(h:cmpD a b=0):cmpD b a=0:=by have:=Ce.anti a b;omega
theorem aeU(a:Dt):cmpD a a=0:=Ce.refl a
theorem GI.old{vs:List Dt}{G:GL}(h:GI vs G){v:Dt}{i:Nat}(hi:i<G.length)(hv:cmpD (gAt G i) v=0):xw G v=G.set i (gAt G i,gN G i+1):=OZ G v i hi hv fun j hj he=>h.dist j i (by omega) hi (by omega) (tT he hv)
theorem GI.step{vs:List Dt}{G:GL}(h:GI vs G)(v:Dt):GI (vs++[v]) (xw G v):=by
 have hone:∀a:Dt,[v].countP (likB a)=if cmpD v a=0 then 1 else 0:=fun a=>by rw[List.countP_cons,List.countP_nil,likB];by_cases hc:cmpD v a=0<;>simp[hc]
 by_cases he:∃i,i<G.length∧cmpD (gAt G i) v=0
 ·obtain⟨i,hi,hv⟩:=he;rw[h.old hi hv];have hl:(G.set i (gAt G i,gN G i+1)).length=G.length:=List.length_set;refine⟨fun a b ha hb hab=>?_,fun w hw=>?_,fun j hj=>?_,fun j hj=>?_⟩;·rw[Bq,Bq];exact h.dist a b (by omega) (by omega) hab
  ·rcases List.mem_append.1 hw with hw|hw
   ·    obtain⟨k,hk,hc⟩:=h.cov w hw;exact⟨k,by omega,by rw[Bq];exact hc⟩
   ·    rw[List.mem_singleton.1 hw];exact⟨i,by omega,by rw[Bq];exact hv⟩
  ·rw[hl]at hj;rw[Bq,arh j hi,List.countP_append,hone,←h.cnt j hj];by_cases hij:i=j
   ·    subst hij;rw[if_pos rfl,if_pos (Ep hv)]
   ·    rw[if_neg hij,if_neg fun hc=>h.dist i j hi hj hij (tT hv (Ep hc))];rfl
  ·rw[hl]at hj;rw[Bq];exact bB _ (h.mem j hj)
 ·have hn:∀j,j<G.length->cmpD (gAt G j) v≠0:=fun j hj hc=>he ⟨j,hj,hc⟩;rw[Il G v hn];have hl:(G++[(v,1)]).length=G.length+1:=by simp
  have hz:vs.countP (likB v)=0:=by
   rw[List.countP_eq_zero];intro w hw hc;obtain⟨k,hk,hc2⟩:=h.cov w hw;have hc:cmpD w v=0:=by simpa [likB]using hc
   exact hn k hk (tT hc2 (Ep hc))
  refine⟨fun a b ha hb hab=>?_,fun w hw=>?_,fun j hj=>?_,fun j hj=>?_⟩
  ·by_cases h1:a<G.length
   ·    by_cases h2:b<G.length;·rw[lU h1,lU h2];exact h.dist a b h1 h2 hab
        ·have e:b=G.length:=by omega
         rw[e,lU h1,qG];exact hn a h1
   ·    have e:a=G.length:=by omega
        have h2:b<G.length:=by omega
        rw[e,lU h2,qG];exact fun hc=>hn b h2 (Ep hc)
  ·rcases List.mem_append.1 hw with hw|hw
   ·    obtain⟨k,hk,hc⟩:=h.cov w hw;exact⟨k,by omega,by rw[lU hk];exact hc⟩
   ·    rw[List.mem_singleton.1 hw];exact⟨G.length,by omega,by rw[qG];exact aeU v⟩
  ·by_cases h1:j<G.length
   ·    rw[lU h1,ZR h1,List.countP_append,hone,if_neg fun hc=>hn j h1 (Ep hc),h.cnt j h1];rfl
   ·    have e:j=G.length:=by omega
        rw[e,qG,aci,List.countP_append,hone,if_pos (aeU v),hz]
  ·by_cases h1:j<G.length;·rw[lU h1];exact bB _ (h.mem j h1)
   ·    have e:j=G.length:=by omega
        rw[e,qG];exact List.mem_append_right _ (by simp)
theorem ajI:∀(ws vs:List Dt)(G:GL),GI vs G->GI (vs++ws) (ws.foldl xw G)
 | [],vs,G,h=>by rw[List.append_nil];exact h
 |w::r,vs,G,h=>by have:=ajI r (vs++[w]) (xw G w) (h.step w);rw[List.append_assoc]at this;exact this
theorem Xi(vs:List Dt):GI vs (grp vs):=by have:=ajI vs [] [] GI.nil;rw[List.nil_append]at this;exact this
def Im(us:List Dt)(G:GL):GL:=G.map fun x=>(x.1,us.countP (likB x.1))
theorem an9(vs:List Dt):Im vs (grp vs)=grp vs:=by have h:=Xi vs;refine List.ext_getElem (by rw[Im,List.length_map]) fun i h1 h2=>?_;simp only[Im,List.getElem_map];have:=h.cnt i h2;rw[UF h2,F4 h2]at this;rw[←this]
theorem aoa{us vs:List Dt}{v:Dt}{w:Dt}(hw:w∈vs)(hc:cmpD w v=0):Im us (grp (vs++[v]))=Im us (grp vs):=by
 have h:=Xi vs;obtain⟨i,hi,hci⟩:=h.cov w hw;have hv:cmpD (gAt (grp vs) i) v=0:=tT hci (Ep hc);rw[O0,h.old hi hv,Im,Im,List.map_set];refine List.ext_getElem? fun k=>?_;rw[List.getElem?_set];by_cases hik:i=k
 ·subst hik;rw[if_pos rfl,if_pos (by rw[List.length_map];exact hi),List.getElem?_map,aF hi,F4 hi];rfl
 ·rw[if_neg hik]
theorem aob{us vs:List Dt}{v:Dt}(hn:∀w∈vs,cmpD w v≠0):Im us (grp (vs++[v]))=Im us (grp vs)++[(v,us.countP (likB v))]:=by have h:=Xi vs;rw[O0,Il _ v fun j hj=>hn _ (h.mem j hj),Im,List.map_append];rfl
theorem aeV{A:Type}{lt:A->A->Bool}:∀{X Y:List A},Asc lt (X++Y)->Asc lt X∧Asc lt Y∧∀x∈X,∀y∈Y,lt y x=false
 | [],_,h=>⟨trivial,h,fun x hx=>by cases hx⟩
 |x::r,Y,h=>by
  obtain⟨h1,h2⟩:=h;obtain⟨i1,i2,i3⟩:=aeV (X:=r) h2;refine⟨⟨fun z hz=>h1 z (bB _ hz),i1⟩,i2,fun a ha y hy=>?_⟩;rcases List.mem_cons.1 ha with rfl|ha;·exact h1 y (List.mem_append_right _ hy)
  ·exact i3 a ha y hy
theorem ajJ{G A B:GL}{x:Dt×Nat}(hG:zO G=A++B)(hA:∀a∈A,x.2<=a.2)(hB:∀b∈B,b.2<x.2):zO (G++[x])=A++x::B:=by
 have hlt:∀a b:Dt×Nat,ltG a b=decide (b.2<a.2):=fun a b=>by unfold ltG ltc;rw[cmT,Nw,Nw,ajH];rcases fD ((b.2:Nat):Int) ((a.2:Nat):Int)with⟨h3,e⟩| ⟨h3,e⟩| ⟨h3,e⟩<;>rw[e]<;>by_cases h:b.2<a.2<;>simp[h]<;>omega
 have hasc:=pQ an7 G;have hasc:Asc ltG (zO G):=hasc;rw[hG]at hasc;obtain⟨i1,i2,i3⟩:=aeV hasc;have e1:bO ltG (G++[x])=bO ltG (bO ltG G++[x]):=(jd an7 G [x]).symm;have e2:=Et an7 B [x] A [] (fun u hu v hv=>by rw[List.mem_singleton.1 hv,hlt];exact decide_eq_true (hB u hu));rw[List.append_nil,List.append_nil]at e2;have hG':bO ltG G=A++B:=hG;rw[zO,e1,hG',List.append_assoc,e2];refine nJ (uO i1 (Y:=x::B) ⟨fun z hz=>?_,i2⟩ fun a ha y hy=>?_);·rw[hlt];have:=hB z hz;exact decide_eq_false (by omega)
 ·rcases List.mem_cons.1 hy with rfl|hy;·rw[hlt];have:=hA a ha;exact decide_eq_false (by omega)
  ·exact i3 a ha y hy
def fbB(us:List Dt)(i:Nat)(v:Dt)(k:Nat):Bool:=((us.take i).drop k).all fun w=>!(likB v w)
theorem apJ{us:List Dt}{i k:Nat}{v:Dt}(h:k<i)(hk:k<us.length):fbB us i v k=(!(likB v us[k])&&fbB us i v (k+1)):=by
 have hl:k<(us.take i).length:=by rw[List.length_take];omega
 rw[fbB,aD hl,List.all_cons,List.getElem_take];rfl
theorem aeW{us:List Dt}{i k:Nat}{v:Dt}(h:i<=k):fbB us i v k=true:=by rw[fbB,List.drop_eq_nil_of_le (by rw[List.length_take];omega)];rfl
theorem key_eq(m:Nat)(e d:Dt)(x:Dt)(h:ko m e d=some x):pJ (m+1) e d=some (nzV x):=by rw[pJ,h,ah,nzV];cases (Dt.I x 0==0)<;>rfl
theorem ZT(G:GL)(i:Nat):∀(k:Nat)(h:i+k<(zO G).length),(zO G)[i+k].2<=((zO G)[i]'(by omega)).2
 |0,_=>ak _
 |k+1,h=>Nat.le_trans (an8 G (i+k) h) (ZT G i k (by omega))
theorem ari(G:GL)(i j:Nat)(h:i<=j)(hj:j<(zO G).length):(zO G)[j].2<=((zO G)[i]'(by omega)).2:=by obtain⟨k,rfl⟩:=Nat.exists_eq_add_of_le h;exact ZT G i k hj
section
variable(m:Nat)(docs:List Dt)(e:Dt)(us:List Dt)(hul:us.length=docs.length)(hd:docs.length<=1000000)
 (hK:∀(i:Nat)(h:i<docs.length),pJ m e docs[i]=some (us[i]'(by omega)))
 (hC:∀d∈us,∀d'∈us,bF m d d'=some (cmpD d d'))
include hul hd hK hC
theorem apK(rec1:List Dt->List Dt->Int->Dt->Option (List Dt))(out:List Dt)(i:Nat)(v:Dt)(hv:v∈us):∀(M k n:Nat)(b:Bool),k<=docs.length->docs.length-k<M->n<=k->
  gT m rec1 M docs out (i:Int) (n:Int) b (k:Int) e v=qA m rec1 docs out (i:Int) ((n+(us.drop k).countP (likB v):Nat):Int) (b&&fbB us i v k) e v
 |0,k,_,_,_,h,_=>by omega
 |M+    1,k,n,b,hk,h,hn=>by
  simp only[gT,dlt];by_cases hlt:k<docs.length
  ·have hku:k<us.length:=by omega
   have ih:=fun n b hn=>apK rec1 out i v hv M (k+1) n b (by omega) (by omega) hn;have hc:=hC _ (aI hku) _ hv;simp only[hlt,decide_true,cond_true,bG hlt,ah,hK k hlt,hc];have e6:∀(n2:Int)(b2:Bool),qz m rec1 (gT m rec1 M) docs out (i:Int) n2 b2 (k:Int) e v=gT m rec1 M docs out (i:Int) n2 b2 ((k+1:Nat):Int) e v:=fun n2 b2=>by rw[qz,bQ (by omega)]
   have ec:(us.drop k).countP (likB v)=(if likB v us[k]then 1 else 0)+(us.drop (k+1)).countP (likB v):=by rw[aD hku,List.countP_cons];omega
   rw[e6,e6,e6,ec,bQ (show n<9223372036854775807 by omega)];have hlk:(cmpD us[k] v==0)=likB v us[k]:=rfl;rw[hlk];cases hl:likB v us[k]with
   |    true=>
        rw[cond_true,ih _ _ (by omega),ih _ _ (by omega),if_pos rfl,show n+1+(us.drop (k+1)).countP (likB v)=n+(1+(us.drop (k+1)).countP (likB v)) by omega];by_cases hik:k<i
        ·rw[apJ hik hku,hl,decide_eq_false (show ¬((i:Int)<=(k:Int)) by omega)];cases b<;>rfl
        ·rw[aeW (show i<=k by omega),aeW (show i<=k+1 by omega),decide_eq_true (show ((i:Int)<=(k:Int)) by omega)];cases b<;>rfl
   |    false=>
        rw[cond_false,ih _ _ (by omega),if_neg (by simp),Nat.zero_add];by_cases hik:k<i;·rw[apJ hik hku,hl];rfl
        ·rw[aeW (show i<=k by omega),aeW (show i<=k+1 by omega)]
  ·have:us.drop k=[]:=List.drop_eq_nil_of_le (by omega);simp only[hlt,decide_false,cond_false,this,List.countP_nil,Nat.add_zero];rw[fbB,List.drop_eq_nil_of_le (by rw[List.length_take];omega)];simp
omit hul hd hK hC in
theorem aeX(rec1:List Dt->List Dt->Int->Dt->Option (List Dt))(H:GL)(i n:Nat)(v:Dt)(hH:H.length<=1000000):∀(M k:Nat),k<=H.length->k<M->∃p,p<=k∧(∀j(h:j<H.length),p<=j->j<k->H[j].2<n)∧(∀(h:p-1<H.length),0<p->n<=H[p-1].2)∧
  oJ m rec1 M docs (cvN H) (i:Int) (n:Int) (k:Int) e v=kQ m rec1 docs (cvN H) (i:Int) (n:Int) (p:Int) e v
 |0,k,_,h=>by omega
 |M+    1,k,hk,h=>by
  have hcl:(cvN H).length=H.length:=by rw[cvN,List.length_map]
  simp only[oJ];by_cases h0:0<k
  ·have hk1:k-1<H.length:=by omega
   have e1:(cvN H)[k-1]'(by rw[hcl];exact hk1)=F3 H[k-1].1 (H[k-1].2:Int):=by simp only[cvN,List.getElem_map]
   have e2:IntKind.wrap .i64 ((k:Int)-1)=((k-1:Nat):Int):=wrT (by omega) (by omega);have e3:idx (Dt.L (F3 H[k-1].1 (H[k-1].2:Int)) 4) 1=some (Dt.agg [(Dt.str (ByteArray.mk (List.toArray [99,111,117,110,116]))),nmV (H[k-1].2:Int)]):=rfl;rw[decide_eq_true (show (0:Int)<(k:Int) by omega),cond_true,e2,bG (show k-1<(cvN H).length by rw[hcl];exact hk1),ah,e1,e3,ah];show ∃p,_∧_∧_∧(bif decide ((H[k-1].2:Int)<(n:Int))then _ else _)=_;by_cases hlt:H[k-1].2<n
   ·    obtain⟨p,p1,p2,p3,p4⟩:=aeX rec1 H i n v hH M (k-1) (by omega) (by omega);refine⟨p,by omega,fun j hj h1 h2=>?_,p3,?_⟩
        ·by_cases hj2:j=k-1;·subst hj2;exact hlt
         ·exact p2 j hj h1 (by omega)
        ·rw[decide_eq_true (show ((H[k-1].2:Nat):Int)<(n:Int) by omega),cond_true];try rw[e2]
         exact p4
   ·    refine⟨k,ak _,fun j _ h1 h2=>by omega,fun _ _=>by omega,?_⟩;rw[decide_eq_false (show ¬((H[k-1].2:Nat):Int)<(n:Int) by omega),cond_false]
  ·have e0:k=0:=by omega
   subst e0;refine⟨0,ak _,fun j _ h1 h2=>by omega,fun _ h=>by omega,?_⟩;rw[decide_eq_false (show ¬(0:Int)<((0:Nat):Int) by omega),cond_false]
omit hul hd hK hC in
theorem arj(rec1:List Dt->List Dt->Int->Dt->Option (List Dt))(H:GL)(i n p:Nat)(v:Dt)(hH:H.length<=1000000)(hp:p<=H.length)(hm:2<=m)(hi:i<1000000):kQ m rec1 docs (cvN H) (i:Int) (n:Int) (p:Int) e v=rec1 docs (cvN (H.take p++(v,n)::H.drop p)) ((i+1:Nat):Int) e:=by
 obtain⟨q,rfl⟩:∃q,m=q+2:=⟨m-2,by omega⟩;have hcl:(cvN H).length=H.length:=by rw[cvN,List.length_map]
 have ap:∀l r:List Dt,l.length<=1000001->r.length<=1000001->app l r=some (l++r):=fun l r h1 h2=>kH (by omega);have ht:((cvN H).take p).length<=1000000:=by rw[List.length_take];omega
 have hdr:((cvN H).drop p).length<=1000000:=by rw[List.length_drop];omega
 have htd:((cvN H).drop p).take ((cvN H).length-p)=(cvN H).drop p:=List.take_of_length_le (by rw[List.length_drop];exact ak _);have hcnt:o7 (q+2) v (n:Int)=some (F3 v (n:Int)):=rfl;have e1:(cvN H).take p++[F3 v (n:Int)]++(cvN H).drop p=cvN (H.take p++(v,n)::H.drop p):=by simp only[cvN,List.map_append,List.map_cons,List.map_take,List.map_drop,List.append_assoc,List.singleton_append]
 have ha1:([]++(cvN H).take p).length<=1000001:=by rw[List.nil_append];omega
 have ha2:([]++(cvN H).take p++[F3 v (n:Int)]).length<=1000001:=by rw[List.nil_append,aB,List.length_singleton];omega
 rw[kQ,ahA (by omega),ah,ap _ _ (by simp) (by omega),ah,hcnt,ah,ap _ _ ha1 (by simp),ah,Rl (by omega) (ak _),ah,htd,ap _ _ ha2 (by omega),ah,bQ (by omega),List.nil_append,e1]
theorem acj(hm:1000001<=m):∀(M i:Nat)(H:GL),i<=docs.length->docs.length-i<M->H=zO (Im us (grp (us.take i)))->H.length<=i->
  fP m M docs (cvN H) (i:Int) e=some (cvN (zO (Im us (grp us))))
 |0,i,_,_,h,_,_=>by omega
 |M+    1,i,H,hi,h,hH,hHl=>by
  simp only[fP,dlt];have hcl:(cvN H).length=H.length:=by rw[cvN,List.length_map]
  by_cases hlt:i<docs.length
  ·have hiu:i<us.length:=by omega
   have hin:=apK m docs e us hul hd hK hC (fP m M) (cvN H) i us[i] (aI hiu) (Nat.succ m) 0 0 true (aC _) (by omega) (ak _);rw[aH,Nat.zero_add,Bool.true_and]at hin;simp only[hlt,decide_true,cond_true,bG hlt,ah,hK i hlt];refine Eq.trans (b:=qA m (fP m M) docs (cvN H) (i:Int) ((us.countP (likB us[i]):Nat):Int) (fbB us i us[i] 0) e us[i]) hin ?_;have et:us.take (i+1)=us.take i++[us[i]]:=List.take_succ_eq_append_getElem hiu;cases hf:fbB us i us[i] 0 with
   |    false=>
        rw[fbB,aH]at hf;have hex:∃w∈us.take i,cmpD w us[i]=0:=by have:=List.all_eq_false.1 hf;obtain⟨w,hw,hc⟩:=this;exact⟨w,hw,by simpa [likB]using hc⟩
        obtain⟨w,hw,hc⟩:=hex;rw[qA,Bool.not_false,cond_true,bQ (by omega)];exact acj hm M (i+1) H (by omega) (by omega) (by rw[et,aoa hw hc];exact hH) (by omega)
   |    true=>
        rw[fbB,aH]at hf;have hn:∀w∈us.take i,cmpD w us[i]≠0:=fun w hw hc=>by have:=List.all_eq_true.1 hf w hw;simp[likB,hc]at this
        obtain⟨p,p1,p2,p3,p4⟩:=aeX m docs e (fP m M) H i (us.countP (likB us[i])) us[i] (by omega) (Nat.succ m) H.length (ak _) (by omega);rw[qA,Bool.not_true,cond_false,hcl];refine Eq.trans p4 ?_;rw[arj m docs e (fP m M) H i _ p us[i] (by omega) p1 (by omega) (by omega)];have hA:∀a∈H.take p,us.countP (likB us[i])<=a.2:=fun a ha=>by obtain⟨j,hj,rfl⟩:=List.getElem_of_mem ha;rw[List.length_take]at hj;rw[List.getElem_take];have h3:=p3 (by omega) (by omega);have h4:=ari (Im us (grp (us.take i))) j (p-1) (by omega) (by rw[←hH];omega);subst hH;omega
        have hB:∀b∈H.drop p,b.2<us.countP (likB us[i]):=fun b hb=>by obtain⟨j,hj,rfl⟩:=List.getElem_of_mem hb;rw[List.length_drop]at hj;rw[List.getElem_drop];exact p2 (p+j) (by omega) (by omega) (by omega)
        have hs:=ajJ (G:=Im us (grp (us.take i))) (A:=H.take p) (B:=H.drop p) (x:=(us[i],us.countP (likB us[i]))) (by rw[List.take_append_drop];exact hH.symm) hA hB;refine acj hm M (i+1) _ (by omega) (by omega) (by rw[et,aob hn];exact hs.symm) ?_;rw[aB,List.length_cons,List.length_take,List.length_drop];omega
  ·have e1:i=docs.length:=by omega
   have e2:us.take i=us:=List.take_of_length_le (by omega);simp only[hlt,decide_false,cond_false];rw[hH,e2]
theorem ahi(hm:1000001<=m):qB (m+1) e docs=some (RU us):=by have k:=acj m docs e us hul hd hK hC hm (Nat.succ m) 0 [] (aC _) (by omega) (by rw[List.take_zero];rfl) (ak _);rw[an9]at k;rw[Xh];exact k
end
end Go.Proofs.YtmecfjhdnbgfeaaGreatDoor
namespace Go.Proofs.YtmecfjhdnbgfeaaGreatDoor
open Go.Am Dt
theorem vd1(m:Nat)(d:Dt)(hw:WV d)(hb:d.bulk<=1048576)(hm:3000000<=m)(hm2:m<9223372036854775000):∃b,l9 (m+5) d=some b∧(b=false->Nd d):=by
 rw[l9];cases h5:(I d 0 !=5)
 ·rw[cond_false,Lx hw m (by omega) (by omega) (by omega),ah];exact⟨_,rfl,fun h=> .inr ⟨hw,by simpa using h⟩⟩
 ·exact⟨true,rfl,fun h=>by cases h⟩
theorem aeY(m:Nat)(docs:List Dt)(hl:docs.length<=1048576)(hw:∀d∈docs,WV d∧d.bulk<=1048576)(hm:3000000<=m)(hm2:m<9223372036854775000):∀(M i:Nat),i<=docs.length->docs.length-i<M->
  ∃r:Int,NI (m+5) M docs (docs.length:Int) (i:Int)=some r∧(decide (0<=r)=false->∀d∈docs.drop i,Nd d)
 |0,i,_,h=>by omega
 |M+    1,i,hi,h=>by
  simp only[NI,dlt];by_cases hlt:i<docs.length
  ·obtain⟨w1,w2⟩:=hw _ (aI hlt);obtain⟨b,b1,b2⟩:=vd1 m docs[i] w1 w2 hm hm2;obtain⟨r,r1,r2⟩:=aeY m docs hl hw hm hm2 M (i+1) (by omega) (by omega);simp only[hlt,decide_true,cond_true,bG hlt,ah,b1,bQ (show i<9223372036854775807 by omega)];cases b with
   |true=>exact⟨(i:Int),rfl,fun h=>by rw[decide_eq_true (by omega)]at h;cases h⟩
   |    false=>
        refine⟨r,r1,fun h d hd=>?_⟩;rw[aD hlt]at hd;rcases List.mem_cons.1 hd with rfl|hd;·exact b2 rfl
        ·exact r2 h d hd
  ·have e:i=docs.length:=by omega
   subst e;exact⟨-1,by simp[],fun _ d hd=>by simp at hd⟩
theorem ahj(m:Nat)(docs:List Dt)(hl:docs.length<=1048576)(hw:∀d∈docs,WV d∧d.bulk<=1048576)(hm:3000000<=m)(hm2:m<9223372036854775000):∃b,nP (m+8) docs=some b∧(b=true->docs.length<=30∧∀d∈docs,Nd d):=by
 rw[nP];by_cases h30:((docs.length:Nat):Int)<=30
 ·obtain⟨r,r1,r2⟩:=aeY m docs hl hw hm hm2 (m+6) 0 (aC _) (by omega);have h9:i10 (m+6) docs=some r:=r1;rw[decide_eq_true h30,cond_true,i9,h9,ah,ah];refine⟨_,rfl,fun h=>⟨by omega,fun d hd=>r2 (by simpa using h) d (by simpa using hd)⟩⟩
 ·rw[decide_eq_false h30];exact⟨false,rfl,fun h=>by cases h⟩
def rtS:List Dt->List Dt×Int
 | []=>([],0)
 |v::r=>bif I v 0 !=5 then([],8)else bif (rtS r).2==0 then(v::(rtS r).1,0)else([],8)
theorem aoc:∀l:List Dt,(rtS l).2=0∨rtS l=([],8)
 | []=> .inl rfl
 |v::r=>by
  rw[rtS];cases I v 0 !=5
  ·rw[cond_false];cases h:(rtS r).2==0;·exact .inr rfl
   ·exact .inl rfl
  ·exact .inr rfl
def rtA(out:List Dt)(l:List Dt):List Dt×Int:=bif (rtS l).2==0 then(out++(rtS l).1,0)else([],8)
theorem ZU(out:List Dt)(v:Dt)(r:List Dt):rtA out (v::r)=bif I v 0 !=5 then([],8)else rtA (out++[v]) r:=by
 rw[rtA,rtS];cases I v 0 !=5
 ·rw[cond_false,cond_false,rtA];cases h:(rtS r).2==0;·rfl
  ·simp
 ·rfl
theorem UG(m:Nat)(docs:List Dt)(e:Dt)(g:Dt->Dt)(hd:docs.length<=1000000)(hE:∀d∈docs,kR m e d=some (g d)):∀(M i:Nat)(out:List Dt),i<=docs.length->docs.length-i<M->out.length<=i->oM m M docs (docs.length:Int) (i:Int) e out=some (rtA out ((docs.drop i).map g))
 |0,i,_,_,h,_=>by omega
 |M+    1,i,out,hi,h,ho=>by
  simp only[oM,dlt];by_cases hlt:i<docs.length
  ·have ih:=fun out ho=>UG m docs e g hd hE M (i+1) out (by omega) (by omega) ho;have ap:∀y:Dt,app out [y]=some (out++[y]):=fun y=>kH (by simp;omega);rw[aD hlt,List.map_cons,ZU];simp only[hlt,decide_true,cond_true,bG hlt,ah,hE _ (aI hlt),ap,bQ (show i<9223372036854775807 by omega)];cases I (g docs[i]) 0 !=5
   ·    rw[cond_false,cond_false];exact ih _ (by simp;omega)
   ·rfl
  ·have e1:i=docs.length:=by omega
   have hdr:docs.drop i=[]:=List.drop_eq_nil_of_le (by omega);simp only[hlt,decide_false,cond_false,hdr,List.map_nil];show some (out,(0:Int))=some (out++[],0);rw[List.append_nil]
theorem O6(m:Nat)(docs:List Dt)(e:Dt)(g:Dt->Dt)(hd:docs.length<=1000000)(hE:∀d∈docs,ko m e d=some (g d)):∀(M i:Nat)(out:List Dt),i<=docs.length->docs.length-i<M->out.length<=i->rG m M docs (i:Int) e out=some (rtA out ((docs.drop i).map g))
 |0,i,_,_,h,_=>by omega
 |M+    1,i,out,hi,h,ho=>by
  simp only[rG,dlt];by_cases hlt:i<docs.length
  ·have ih:=fun out ho=>O6 m docs e g hd hE M (i+1) out (by omega) (by omega) ho;have ap:∀y:Dt,app out [y]=some (out++[y]):=fun y=>kH (by simp;omega);rw[aD hlt,List.map_cons,ZU];simp only[hlt,decide_true,cond_true,bG hlt,ah,hE _ (aI hlt),ap,bQ (show i<9223372036854775807 by omega)];cases I (g docs[i]) 0 !=5
   ·    rw[cond_false,cond_false];exact ih _ (by simp;omega)
   ·rfl
  ·have e1:i=docs.length:=by omega
   have hdr:docs.drop i=[]:=List.drop_eq_nil_of_le (by omega);simp only[hlt,decide_false,cond_false,hdr,List.map_nil];show some (out,(0:Int))=some (out++[],0);rw[List.append_nil]
theorem aeZ:∀(l:List Dt),(rtS l).1.length<=l.length∧∀x∈(rtS l).1,x∈l
 | []=>⟨ak _,fun x h=>h⟩
 |v::r=>by
  obtain⟨h1,h2⟩:=aeZ r;rw[rtS];cases I v 0 !=5
  ·rw[cond_false];cases (rtS r).2==0;·exact⟨aC _,fun x h=>by cases h⟩
   ·    refine⟨by simpa using h1,fun x h=>?_⟩;rcases List.mem_cons.1 h with rfl|h;·exact aS
        ·exact bA _ (h2 x h)
  ·exact⟨aC _,fun x h=>by cases h⟩
theorem aod(l:List Dt):rtA [] l=rtS l:=by
 rw[rtA];rcases aoc l with h|h
 ·rw[h];show ([]++(rtS l).1,(0:Int))=rtS l;rw[List.nil_append,←h]
 ·rw[h];rfl
theorem aoe{v:Dt}(h:v.bulk<=4300800):(nzV v).bulk<=4300800:=by
 rw[nzV];cases I v 0==0;·exact h
 ·show pR.bulk<=_;decide
theorem ajK(vs:List Dt)(h:∀v∈vs,v.bulk<=4300800):∀x∈RU vs,x.bulk<=4300900:=fun x hx=>by
 rw[Xh]at hx;obtain⟨y,hy,rfl⟩:=List.mem_map.1 hx;have hy:=(Srt.mem_isort (lt:=ltG)).1 hy;obtain⟨i,hi,rfl⟩:=List.getElem_of_mem hy;have hm:=(Xi vs).mem i hi;rw[F4 hi]at hm;have hb:=h _ hm;have:∀(b:Dt)(n:Int),(F3 b n).bulk=24+b.bulk:=fun b n=>by unfold F3;simp only[Dt.bulk,bulkL];have e1:(ByteArray.mk (List.toArray [95,105,100])).size=3:=rfl;have e2:(ByteArray.mk (List.toArray [99,111,117,110,116])).size=5:=rfl;have e3:(ByteArray.mk (List.toArray [])).size=0:=rfl;rw[e1,e2,e3];omega
 rw[this];omega
theorem ZV:∀(vs:List Dt)(G:GL),(vs.foldl xw G).length<=G.length+vs.length
 | [],_=>ak _
 |v::r,G=>by have h1:=ZV r (xw G v);have h2:=ajD G v;rw[List.foldl_cons,List.length_cons];omega
theorem aof(vs:List Dt):(RU vs).length<=vs.length:=by rw[Xh,cvN,List.length_map,zO,Srt.isort_len];have:=ZV vs [];rw[List.length_nil,Nat.zero_add]at this;exact this
theorem ajL(e:Dt)(docs:List Dt)(he:WE e)(heb:e.bulk<=1048576)(hdl:docs.length<=1048576)(hdw:∀d∈docs,WV d∧d.bulk<=1048576):lN (500000000000+1) e docs=some true:=by
 obtain⟨b,b1,b2⟩:=ahj 499999999992 docs hdl hdw (by omega) (by omega);have b1:nP 500000000000 docs=some b:=b1;have hv:=abh 100000000 (ak _) 499999999977 (by omega) (by omega) e he (by omega);have hv:jL 500000000000 e=some (ckE 16 e 0).2:=hv;have aw:FN=some true:=rfl;rw[lN,b1,ah];cases b with
 |false=>rw[Bool.not_false,cond_true,gI,aw];rfl
 |true=>
  obtain⟨hd30,hdn⟩:=b2 rfl;rw[Bool.not_true,cond_false,hv,ah];cases hz:((ckE 16 e 0).2 !=0)with
  |true=>rw[gI,cond_true,aw];rfl
  |false=>
   have hz':(ckE 16 e 0).2=0:=by simpa [bne]using hz
   rw[gI,cond_false];have hT:=fun d hd=>aq9 e d he (by omega) hz' (hdn d hd);have hbk:∀d∈docs,(evE e d).bulk<=4300800:=fun d hd=>(hT d hd).nd.bulk;have k1:=UG 499999999999 docs e (evE e) (by omega) (fun d hd=>(hT d hd).pr _ (by omega) (by omega)) (Nat.succ 499999999999) 0 [] (aC _) (by omega) (ak _);have k1:qO 500000000000 e docs=some (rtA [] (docs.map (evE e))):=k1;have k2:=O6 499999999999 docs e (evE e) (by omega) (fun d hd=>(hT d hd).rf _ (by omega) (by omega)) (Nat.succ 499999999999) 0 [] (aC _) (by omega) (ak _);have k2:uF 500000000000 e docs=some (rtA [] (docs.map (evE e))):=k2;rw[aod]at k1 k2;have hrm:=aeZ (docs.map (evE e));have hrl:(rtS (docs.map (evE e))).1.length<=30:=by have:=hrm.1;rw[List.length_map]at this;omega
   have k3:bY 500000000000 (rtS (docs.map (evE e))).1 (rtS (docs.map (evE e))).1=some true:=OX 499999999999 _ (by omega) (by omega) fun x hx=>Ik 4300800 x (by obtain⟨d,hd,rfl⟩:=List.mem_map.1 (hrm.2 x hx);exact hbk d hd) (by omega) 499999999998 (by omega)
   have hub:∀d∈docs,(nzV (evE e d)).bulk<=4300800:=fun d hd=>aoe (hbk d hd);have k4:=ajG 499999999997 docs e (evE e) (by omega) (by omega) (fun d hd=>(hT d hd).pr _ (by omega) (by omega)) (fun d hd d' hd'=>zR _ _ 499999999994 (by have:=hub d hd;omega) (by have:=hub d hd;omega));have k4:mq 500000000000 e docs=some (RU (docs.map fun d=>nzV (evE e d))):=k4;have k5:=ahi 499999999999 docs e (docs.map fun d=>nzV (evE e d)) (by rw[List.length_map]) (by omega) (fun i h=>by
        rw[List.getElem_map];exact key_eq 499999999998 e docs[i] _ ((hT _ (aI h)).rf _ (by omega) (by omega))) (fun a ha b hb=>by
        obtain⟨d,hd,rfl⟩:=List.mem_map.1 ha;exact Bw _ b 499999999996 (by have:=hub d hd;omega) (by omega)) (by omega)
   have k5:qB 500000000000 e docs=some (RU (docs.map fun d=>nzV (evE e d))):=k5;have hus:∀v∈docs.map (fun d=>nzV (evE e d)),v.bulk<=4300800:=fun v hv=>by obtain⟨d,hd,rfl⟩:=List.mem_map.1 hv;exact hub d hd
   have htl:=aof (docs.map fun d=>nzV (evE e d));rw[List.length_map]at htl;have k6:bY 500000000000 (RU (docs.map fun d=>nzV (evE e d))) (RU (docs.map fun d=>nzV (evE e d)))=some true:=OX 499999999999 _ (by omega) (by omega) fun x hx=>Ik 4300900 x (ajK _ hus x hx) (by omega) 499999999998 (by omega);have hbe:((rtS (docs.map (evE e))).2==(rtS (docs.map (evE e))).2)=true:=by simp
   rw[k1,ah,k2,ah,hbe,cond_true,k3,ah,cond_true,k4,ah,k5,ah,k6,ah,cond_true,aw];rfl
theorem aog{ds:List Dt}(h:HasTys Tryz.prog Tryz.f3.params.toList ds)(hb:bulkL ds<=1048576):FX Tryz.prog 3 (ao4 Tryz.f3.params.toList ds) [] (.dat 4 (.bool true)) []:=by
 have h':HasTys Tryz.prog [29,23] ds:=h;match ds,h',hb with
 | [x,z],.cons h1 (.cons h3 .nil),hb=>
   obtain⟨e2,_,w2⟩:=amK Tryz.underlying23 h3;rw[e2]at hb ⊢
   simp only[bulkL,Dt.bulk]at hb;have l2:=oV z.toLst;exact vO 500000000000 (ct_ok 500000000000) _ _ _ (ajL x z.toLst (ap3 x.bulk x (ak _) h1) (by omega) (by omega) (fun d hd=>⟨ap0 (w2 d hd),by have:=rT hd;omega⟩))
end Go.Proofs.YtmecfjhdnbgfeaaGreatDoor
namespace Go.Proofs.YtmecfjhdnbgfeaaGreatDoor
open Go.Am
mutual
def gv{H:Type}:DataW H->List Value
 | .lit (.int k m)=>[.int k m]
 | .lit (.bool b)=>[.bool b]
 | .lit (.string s)=>[.string ⟨s.toArray⟩]
 | .agg ds=>gvL ds
 |_=>[]
def gvL{H:Type}:List (DataW H)->List Value
 | []=>[]
 |d::r=>gv d++gvL r
end
section
variable{H:Type}{enc:TypeId×Value->H}{P:Program}{w:World}{base:Nat}{sp:Nat->Bool}{held:Bool}
def Told(enc:TypeId×Value->H)(P:Program)(w:World)(base:Nat)(sp:Nat->Bool)(held:Bool)(e:TypeId):Prop:=∀(fuel:Nat)(cs:List Value)(x:DataW H×List MemPlace),DataW.trod enc P w base sp held fuel e cs=some x->cs=gv x.1
theorem ZW{e:TypeId}{k:IntKind}(he:P.underlying e=some (.int k)):Told enc P w base sp held e:=fun fuel cs x h=>by obtain⟨z,rfl,rfl,_⟩:=DataW.trod_int he h;rfl
theorem ajM{e f:TypeId}{F0 F1:Field}(hu:P.underlying e=some (.struct #[F0,F1]))(h0:F0.offset=0)(h1:F1.offset=1)(hf0:F0.type=f)(hf1:F1.type=f)(hc:P.cellsOf e=2)(hcf:P.cellsOf f=1)(hf:Told enc P w base sp held f):Told enc P w base sp held e:=fun fuel cs x h=>by
 obtain⟨xs,m,_,rfl,hlen,hxl,hget⟩:=DataW.trod_struct hu h;rw[hc]at hlen;match cs,hlen with
 | [a,b],_=>
   have hx2:xs.length=2:=hxl;match xs,hx2 with
   | [u,v],_=>
     have g0:=hget 0 F0 rfl;have g1:=hget 1 F1 rfl;rw[h0,hf0,hcf]at g0;rw[h1,hf1,hcf]at g1;have e0:=hf _ _ _ g0;have e1:=hf _ _ _ g1;show [a,b]=gv u.1++(gv v.1++[]);rw[←e0,←e1];rfl
theorem ae0{n s:Nat}:∀{ds:List (DataW H)}{cs:List Value},cs.length=ds.length*s->(∀i D,ds[i]? =some D->(cs.drop (i*s)).take s=gv D)->cs=gvL ds
 | [],cs,hl,_=>by have:cs=[]:=List.eq_nil_of_length_eq_zero (by simpa using hl);subst this;rfl
 | d::r,cs,hl,h=>by
   have h0:=h 0 d rfl;rw[Nat.zero_mul,aH]at h0;have hl':cs.length=r.length*s+s:=by rw[hl,List.length_cons,Nat.succ_mul]
   have ih:=ae0 (n:=n) (s:=s) (ds:=r) (cs:=cs.drop s) (by rw[List.length_drop];omega) fun i D hD=>by have:=h (i+1) D (by simpa using hD);rw[List.drop_drop,show s+i*s=(i+1)*s by rw[Nat.succ_mul];omega];exact this
   show cs=gv d++gvL r;rw[←h0,←ih,List.take_append_drop]
theorem ZX{t e:TypeId}{n:Nat}(ht:P.underlying t=some (.array n e))(hct:P.cellsOf t=n*P.cellsOf e)(he:Told enc P w base sp held e):Told enc P w base sp held t:=fun fuel cs x h=>by
 cases fuel with
 |zero=>simp[DataW.trod]at h
 |succ fuel=>
  simp only[DataW.trod,ht]at h;split at h
  ·rename_i hl;obtain⟨xs,hm,rfl⟩:=bn.1 h;have hxl:xs.length=n:=by simpa using Lib.mapM_length hm
   show cs=gvL (xs.map (·.1));refine ae0 (n:=n) (s:=P.cellsOf e) (by rw[List.length_map,hxl];omega) fun i D hD=>?_;rw[List.getElem?_map]at hD;obtain⟨y,hy,rfl⟩:=bn.1 hD;have hi:i<n:=by rw[←hxl];exact(aA.1 hy).1
   obtain⟨b,hb,hf⟩:=Lib.mapM_at hm i i (by simp[hi]);rw[hy]at hb;cases hb;exact he _ _ _ hf
  ·cases h
end
theorem Dh{P:Program}{W:World}:∀{l:List (String×DataW Unit)}{ps:List MemPlace}{name:String}{d:DataW Unit}{g:Nat}{t:TypeId},DataW.LaidVars P W l ps->(name,d)∈l->P.globalNamed name=some g->(P.globals[g]?).map (·.type)=some t->Told (fun _=>()) P W 0 (fun _=>true) false t->
  W.var? P name=some (gv d).toArray
 | [],ps,name,d,g,t,_,hm,_,_,_=>by cases hm
 |(n,d')::r,ps,name,d,g,t,h,hm,hg,hty,ht=>by
  obtain⟨g',t',cs,fuel,p,q,hg',ht',hvar,hd,hr,rfl⟩:=h;rcases List.mem_cons.1 hm with e|hm
  ·cases e;obtain rfl:=Option.some.inj (hg.symm.trans hg');obtain rfl:=Option.some.inj (hty.symm.trans ht');have:=ht _ _ _ hd;rw[hvar,←this]
  ·exact Dh hr hm hg hty ht
theorem Io{P:Program}{W:World}{name:String}{g:Nat}{cs:Array Value}(hg:P.globalNamed name=some g)(h:W.var? P name=some cs):∃(T:TypeId)(fr:Nat×Nat),W.heap[g]? =some (.cells cs T fr):=by
 unfold World.var? at h;rw[hg]at h;simp only[ah]at h;cases hb:W.heap[g]? with
 |none=>rw[hb]at h;simp at h
 |some o=>
  rw[hb]at h;cases o with
  |cells c T fr=>simp only[aG]at h;subst h;exact⟨T,fr,rfl⟩
  |_=>simp at h
theorem aoh{W:World}{g:Nat}{cs:List Value}(h:∃(T:TypeId)(fr:Nat×Nat),W.heap[g]? =some (.cells cs.toArray T fr)):g<W.heap.size∧∃(T:TypeId)(fr:Nat×Nat),W.heap[g]? =some (.cells cs.toArray T fr):=by refine⟨?_,h⟩;obtain⟨T,fr,h⟩:=h;exact(Array.getElem?_eq_some_iff.1 h).1
noncomputable def ae1:List (String×DataW Unit):=[("unicode/utf8.acceptRanges",Rows.laid_unicode_utf8_acceptRanges),("unicode/utf8.first",Rows.laid_unicode_utf8_first)]
noncomputable def awy:List (String×DataW Unit×Nat):=[("unicode/utf8.first",Rows.laid_unicode_utf8_first,1),("unicode/utf8.acceptRanges",Rows.laid_unicode_utf8_acceptRanges,2)]
set_option maxRecDepth 100000 in
theorem aoi:tabs=awy.map fun q=>(q.2.2,gv q.2.1):=by kernel_rfl
section
variable{W:World}
theorem aco:Told (fun _=>()) Tryz.prog W 0 (fun _=>true) false 227:=ZX Tryz.underlying227 (by kernel_rfl) (ZW Tryz.underlying5)
theorem ajN:Told (fun _=>()) Tryz.prog W 0 (fun _=>true) false 230:=ZX Tryz.underlying230 (by kernel_rfl) (ajM (f:=5) Tryz.underlying229 rfl rfl rfl rfl (by kernel_rfl) (by kernel_rfl) (ZW Tryz.underlying5))
set_option maxRecDepth 100000 in
theorem ajO(h:laidMetH Tryz.prog ae1 W):TabOK (fun b=>b<W.heap.size) W:=by
 rw[Go.MakeChecks.laidMetH_plain _ _ _ (by kernel_rfl)]at h;obtain⟨ps,hl,_⟩:=h;refine⟨?_,fun g hg=>by have hg':g∈([]:List Nat):=hg;cases hg'⟩;intro t ht;rw[aoi]at ht;obtain⟨q,hq,rfl⟩:=List.mem_map.1 ht;have key:∃(T:TypeId)(fr:Nat×Nat),W.heap[q.2.2]? =some (.cells (gv q.2.1).toArray T fr):=by
  have hq':q∈[("unicode/utf8.first",Rows.laid_unicode_utf8_first,1),("unicode/utf8.acceptRanges",Rows.laid_unicode_utf8_acceptRanges,2)]:=hq;rcases List.mem_cons.1 hq' with rfl|hq';·exact Io (by kernel_rfl) (Dh hl (g:=1) (t:=227) (.tail _ (.head _)) (by kernel_rfl) (by kernel_rfl) aco)
  rcases List.mem_cons.1 hq' with rfl|hq';·exact Io (by kernel_rfl) (Dh hl (g:=2) (t:=230) (.head _) (by kernel_rfl) (by kernel_rfl) ajN)
  cases hq'
 exact aoh key
end
noncomputable def Ac(os:Os):World:=
 let w0:=World.holding Tryz.prog os ⟨#[],#[],[]⟩
 let put (h:Array Obj) (g:Nat) (cs:List Value):Array Obj:=h.modify g fun
  | .cells _ t frozen=> .cells cs.toArray t frozen
  |o=>o
 let h1:=put w0.heap 2 (gv (H:=Unit) Rows.laid_unicode_utf8_acceptRanges)
 let h2:=put h1 1 (gv Rows.laid_unicode_utf8_first)
 {w0 with heap:=h2}
set_option maxRecDepth 100000 in
theorem ahk(os:Os)(args:Array Value):laidMet Tryz.prog ae1 ((Ac os).forCall (fun _ _=>0) ⟨#[],args,[]⟩).memory:=
 (LaidIn.of_run (l:=ae1) [2,1] 8 (by kernel_rfl) (by kernel_rfl) (by kernel_rfl) (by kernel_rfl)).met
