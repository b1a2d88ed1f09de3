/- expr: each operator over valid kids: the program and the reference answer alike, and what they answer is well-formed and small. Printed by eop.py.
expr:what the nodes' results are:well-formed,small,missing only as the zero value.
expr:the program's and the reference's value of a valid expression is evS,by induction on its levels.
Copies of values,by layer 12's function.
expr:Eval of the program and of the reference.
Buckets:which interval a value falls into,how many fall into each,and how many into none.
Tally in plain Lean:values with their counts,in order of first appearance;the sorted list of their places.
group:a key's group is found,or added without documents.
group:the documents' keys,counted;the results.
The law:the groups' keys are the documents' keys in order of first appearance,and their sizes add up.
What the row's condition says of the package's tables:the blocks hold the cells that the machine's table lists.
The package's tables:what the rows' condition says is what the machine's table lists;a world that holds them. -/
import Derived.Test.YtjibjkdalajaiaaGreatDoorPB
import Derived.Test.YtjibjkdalajaiaaGreatDoorPA
import Derived.Test.YtjibjkdalajaiaaGreatDoorEF
import Derived.Test.YtjibjkdalajaiaaGreatDoorProg
import Derived.Test.YtjibjkdalajaiaaGreatDoorRows
import Derived.LaidLaws
import Derived.ChangeArms
import Derived.Lib.LaidTab
import Derived.PinnedBridge
import Derived.MakeChecks
import Derived.Lib.LaidIn
set_option linter.all false
namespace Go.Proofs.YtjibjkdalajaiaaGreatDoor
open Go.Am Dt
theorem sh1{ks:List Dt}(h:((ks.length:Int)==1)=true):∃a,ks=[a]:=by
 have h:(ks.length:Int)=1:=by simpa using h
 match ks,h with
 | [a],_=>exact⟨a,rfl⟩
 | [],h=>exact absurd h (by decide)
 |_::_::_,h=>simp only[List.length_cons]at h;omega
theorem sh2{ks:List Dt}(h:((ks.length:Int)==2)=true):∃a b,ks=[a,b]:=by
 have h:(ks.length:Int)=2:=by simpa using h
 match ks,h with
 | [a,b],_=>exact⟨a,b,rfl⟩
 | [],h=>exact absurd h (by decide)
 | [_],h=>simp only[List.length_cons,List.length_nil]at h;omega
 |_::_::_::_,h=>simp only[List.length_cons]at h;omega
theorem sh3{ks:List Dt}(h:((ks.length:Int)==3)=true):∃a b c,ks=[a,b,c]:=by
 have h:(ks.length:Int)=3:=by simpa using h
 match ks,h with
 | [a,b,c],_=>exact⟨a,b,c,rfl⟩
 | [],h=>exact absurd h (by decide)
 | [_],h=>simp only[List.length_cons,List.length_nil]at h;omega
 | [_,_],h=>simp only[List.length_cons,List.length_nil]at h;omega
 |_::_::_::_::_,h=>simp only[List.length_cons]at h;omega
theorem awE(x a:Dt)(m:Nat)(h:x.bulk<=m)(h2:x.bulk<1000000000000):jE (m+4) x a=some (cmpD x a==0):=by rw[jE,A8 x a m h h2];rfl
theorem awF(x a:Dt)(m:Nat)(h:x.bulk<=m)(h2:m<900000000000):jF (m+4) x a=some (cmpD x a==0):=by rw[jF,A9 x a m h h2];rfl
section
variable(m:Nat)(e z:Dt)(ks:List Dt)(hk:∀k∈ks,Nd k)(hl:ks.length=(L e 6).length)(h256:ks.length<=256)(hb:e.bulk<=100000000)(hm:2000000000<=m)(hm2:m<899999999900)(hn:nodeS e=0)(h1:I e 0≠1)(h2:I e 0≠2)(h3:I e 0≠3)(h32:I e 0≠32)(h33:I e 0≠33)
include hk hl h256 hb hm hm2 hn h1 h2 h3 h32 h33
theorem opP(s3 s25:Dt->Dt->Dt->Option Dt):aK (m+5) s3 s25 e z ks=some (opS (I e 0) e ks (mgS ks))∧Rs (opS (I e 0) e ks (mgS ks)) 1900000000:=by
 obtain⟨g1,g37,hek,hnm,_⟩:=Ea hn;rw[←hl]at hek hnm;have hB:=vT ks hk;rcases Al g1 g37 with he|he|he|he|he|he|he|he|he|he|he|he|he|he|he|he|he|he|he|he|he|he|he|he|he|he|he|he|he|he|he|he|he|he|he|he|he;all_goals rw[he]at hek
 ·exact absurd he h1
 ·exact absurd he h2
 ·exact absurd he h3
 ·rw[he];exact⟨axb m s3 s25 e z ks (by omega) (by omega) he,(zw 4 ks).le (by omega)⟩
 ·obtain⟨a,b,rfl⟩:=sh2 hek;have ha:Nd a:=hk a (by simp);have hb':Nd b:=hk b (by simp);have hab:=ha.bulk;have hbb:=hb'.bulk;rw[he];exact⟨axd m s3 s25 e z [a,b] (by simp) (by simp;omega) (.inr (.inr ⟨.inl rfl,a,b,rfl⟩)) he,(zw 5 [a,b]).le (by omega)⟩
 ·rw[he];exact⟨axc m s3 s25 e z ks (by omega) (by omega) he,(zw 6 ks).le (by omega)⟩
 ·obtain⟨a,b,rfl⟩:=sh2 hek;have ha:Nd a:=hk a (by simp);have hb':Nd b:=hk b (by simp);have hab:=ha.bulk;have hbb:=hb'.bulk;rw[he];exact⟨axe m s3 s25 e z [a,b] (by simp) (by simp;omega) (.inr (.inr ⟨.inr (.inl rfl),a,b,rfl⟩)) he,(zw 7 [a,b]).le (by omega)⟩
 ·obtain⟨a,b,rfl⟩:=sh2 hek;have ha:Nd a:=hk a (by simp);have hb':Nd b:=hk b (by simp);have hab:=ha.bulk;have hbb:=hb'.bulk;rw[he];exact⟨axf m s3 s25 e z [a,b] (by simp) (by simp;omega) (.inr (.inr ⟨.inr (.inr rfl),a,b,rfl⟩)) he,(zw 8 [a,b]).le (by omega)⟩
 ·obtain⟨a,b,rfl⟩:=sh2 hek;have ha:Nd a:=hk a (by simp);have hb':Nd b:=hk b (by simp);have hab:=ha.bulk;have hbb:=hb'.bulk;rw[he];exact⟨axg m s3 s25 e z a b _ (A8 a b (m+2) (by omega) (by omega)) he,(sK 9 (cmpD a b)).le (by omega)⟩
 ·obtain⟨a,b,rfl⟩:=sh2 hek;have ha:Nd a:=hk a (by simp);have hb':Nd b:=hk b (by simp);have hab:=ha.bulk;have hbb:=hb'.bulk;rw[he];exact⟨avH m s3 s25 e z a b _ (A8 a b (m+2) (by omega) (by omega)) he,(sK 10 (cmpD a b)).le (by omega)⟩
 ·obtain⟨a,b,rfl⟩:=sh2 hek;have ha:Nd a:=hk a (by simp);have hb':Nd b:=hk b (by simp);have hab:=ha.bulk;have hbb:=hb'.bulk;rw[he];exact⟨avI m s3 s25 e z a b _ (A8 a b (m+2) (by omega) (by omega)) he,(sK 11 (cmpD a b)).le (by omega)⟩
 ·obtain⟨a,b,rfl⟩:=sh2 hek;have ha:Nd a:=hk a (by simp);have hb':Nd b:=hk b (by simp);have hab:=ha.bulk;have hbb:=hb'.bulk;rw[he];exact⟨avJ m s3 s25 e z a b _ (A8 a b (m+2) (by omega) (by omega)) he,(sK 12 (cmpD a b)).le (by omega)⟩
 ·obtain⟨a,b,rfl⟩:=sh2 hek;have ha:Nd a:=hk a (by simp);have hb':Nd b:=hk b (by simp);have hab:=ha.bulk;have hbb:=hb'.bulk;rw[he];exact⟨avK m s3 s25 e z a b _ (A8 a b (m+2) (by omega) (by omega)) he,(sK 13 (cmpD a b)).le (by omega)⟩
 ·obtain⟨a,b,rfl⟩:=sh2 hek;have ha:Nd a:=hk a (by simp);have hb':Nd b:=hk b (by simp);have hab:=ha.bulk;have hbb:=hb'.bulk;rw[he];exact⟨avL m s3 s25 e z a b _ (A8 a b (m+2) (by omega) (by omega)) he,(sK 14 (cmpD a b)).le (by omega)⟩
 ·obtain⟨a,b,rfl⟩:=sh2 hek;have ha:Nd a:=hk a (by simp);have hb':Nd b:=hk b (by simp);have hab:=ha.bulk;have hbb:=hb'.bulk;rw[he];exact⟨avM m s3 s25 e z a b _ (A8 a b (m+2) (by omega) (by omega)) he,(sK 15 (cmpD a b)).le (by omega)⟩
 ·rw[he];exact⟨avN m s3 s25 e z ks (by omega) (by omega) he,(afG 16 ks).le (by omega)⟩
 ·rw[he];exact⟨avO m s3 s25 e z ks (by omega) (by omega) he,(afG 17 ks).le (by omega)⟩
 ·obtain⟨a,rfl⟩:=sh1 hek;have ha:Nd a:=hk a (aO ..);have hab:=ha.bulk;rw[he];exact⟨avP m s3 s25 e z a he,(Dz (!trB a)).le (by omega)⟩
 ·obtain⟨a,b,c,rfl⟩:=sh3 hek;have ha:Nd a:=hk a (by simp);have hb':Nd b:=hk b (by simp);have hc:Nd c:=hk c (by simp);have hab:=ha.bulk;rw[he];exact⟨avQ m s3 s25 e z a b c he,(aqc a b c hb' hc).le (by omega)⟩
 ·obtain⟨a,b,rfl⟩:=sh2 hek;have ha:Nd a:=hk a (by simp);have hb':Nd b:=hk b (by simp);have hab:=ha.bulk;have hbb:=hb'.bulk;rw[he];exact⟨avR m s3 s25 e z a b he,(amo a b ha hb').le (by omega)⟩
 ·rw[he];exact⟨avS m s3 s25 e z ks (by have:=K3 ks;omega) he,(ao9 ks).le (by omega)⟩
 ·obtain⟨a,rfl⟩:=sh1 hek;have ha:Nd a:=hk a (aO ..);have hab:=ha.bulk;rw[he];exact⟨avT m s3 s25 e z a he,(D8 22 a).le (by omega)⟩
 ·obtain⟨a,rfl⟩:=sh1 hek;have ha:Nd a:=hk a (aO ..);have hab:=ha.bulk;rw[he];exact⟨avU m s3 s25 e z a he,(D8 23 a).le (by omega)⟩
 ·obtain⟨a,rfl⟩:=sh1 hek;have ha:Nd a:=hk a (aO ..);have hab:=ha.bulk;rw[he];exact⟨avV m s3 s25 e z a he,(D8 24 a).le (by omega)⟩
 ·obtain⟨a,b,c,rfl⟩:=sh3 hek;have ha:Nd a:=hk a (by simp);have hb':Nd b:=hk b (by simp);have hc:Nd c:=hk c (by simp);have hab:=ha.bulk;rw[he];exact⟨avW m s3 s25 e z a b c he,(aqb a b c).le (by omega)⟩
 ·obtain⟨a,rfl⟩:=sh1 hek;have ha:Nd a:=hk a (aO ..);have hab:=ha.bulk;rw[he];exact⟨avX m s3 s25 e z a (by have:=iQ a 3;omega) he,(amg a).le (by omega)⟩
 ·obtain⟨a,b,rfl⟩:=sh2 hek;have ha:Nd a:=hk a (by simp);have hb':Nd b:=hk b (by simp);have hab:=ha.bulk;have hbb:=hb'.bulk;rw[he];exact⟨av1 m s3 s25 e z a b (by have:=iQ a 3;omega) he,(amk a b ha).le (by omega)⟩
 ·obtain⟨a,b,rfl⟩:=sh2 hek;have ha:Nd a:=hk a (by simp);have hb':Nd b:=hk b (by simp);have hab:=ha.bulk;have hbb:=hb'.bulk;rw[he];exact⟨av2 m s3 s25 e z a b (fun x=>cmpD x a==0) (by have:=iQ b 3;omega) (by have:=iQ b 3;omega) (fun x hx=>awE x a m (by have:=qj hx;omega) (by have:=qj hx;omega)) he,(amj (fun x=>cmpD x a==0) b).le (by omega)⟩
 ·rw[he];exact⟨av0 m s3 s25 e z ks (by omega) (by omega) (by have:=D9 ks;have:=rF (Bd ks);omega) he,(aml ks fun e he=>(hk e he).wv).le (by omega)⟩
 ·obtain⟨a,rfl⟩:=sh1 hek;have ha:Nd a:=hk a (aO ..);have hab:=ha.bulk;rw[he];exact⟨avY m s3 s25 e z a (by have:=iQ a 3;omega) (by have:=iQ a 3;omega) he,(ami a ha.wv).le (by omega)⟩
 ·obtain⟨a,rfl⟩:=sh1 hek;have ha:Nd a:=hk a (aO ..);have hab:=ha.bulk;rw[he];exact⟨avZ m s3 s25 e z a (by have:=iQ a 3;omega) (by have:=iQ a 3;omega) he,(amh a).le (by omega)⟩
 ·exact absurd he h32
 ·exact absurd he h33
 ·rw[he];exact⟨av6 m s3 s25 e z ks (by omega) (by omega) (by have:=hnm he;omega) he,(amn (L e 3) ks fun e he=>(hk e he).wv).le (by have:=F4 e 3;have:=iQ e 3;omega)⟩
 ·rw[he];exact⟨av5 m s3 s25 e z ks (by omega) (by omega) he,(XA ks fun e he=>(hk e he).wv).le (by omega)⟩
 ·obtain⟨a,rfl⟩:=sh1 hek;have ha:Nd a:=hk a (aO ..);have hab:=ha.bulk;rw[he];exact⟨av3 m s3 s25 e z a he,(Az 3 (I a 0) (by omega)).le (by omega)⟩
 ·rw[he];exact⟨av4 m s3 s25 e z ks _ (apc ks hk (by omega) (m+3) (by omega) (by omega)) he,(amr ks apb hk).le (by have:(uW []).bulk=6:=rfl;omega)⟩
theorem opR:∃c,aV (m+6) e ks=some c∧Rs c 1900000000∧nm1 c=nm1 (opS (I e 0) e ks (mgS ks)):=by
 obtain⟨g1,g37,hek,hnm,_⟩:=Ea hn;rw[←hl]at hek hnm;have hB:=vT ks hk;rcases Al g1 g37 with he|he|he|he|he|he|he|he|he|he|he|he|he|he|he|he|he|he|he|he|he|he|he|he|he|he|he|he|he|he|he|he|he|he|he|he|he;all_goals rw[he]at hek
 ·exact absurd he h1
 ·exact absurd he h2
 ·exact absurd he h3
 ·rw[he];exact⟨_,axh m e ks (by omega) (by omega) he,(zw 4 ks).le (by omega),rfl⟩
 ·obtain⟨a,b,rfl⟩:=sh2 hek;have ha:Nd a:=hk a (by simp);have hb':Nd b:=hk b (by simp);have hab:=ha.bulk;have hbb:=hb'.bulk;rw[he];exact⟨_,axj m e a b he,(zw 5 [a,b]).le (by omega),rfl⟩
 ·rw[he];exact⟨_,axi m e ks (by omega) (by omega) he,(zw 6 ks).le (by omega),rfl⟩
 ·obtain⟨a,b,rfl⟩:=sh2 hek;have ha:Nd a:=hk a (by simp);have hb':Nd b:=hk b (by simp);have hab:=ha.bulk;have hbb:=hb'.bulk;rw[he];exact⟨_,axk m e a b he,(zw 7 [a,b]).le (by omega),rfl⟩
 ·obtain⟨a,b,rfl⟩:=sh2 hek;have ha:Nd a:=hk a (by simp);have hb':Nd b:=hk b (by simp);have hab:=ha.bulk;have hbb:=hb'.bulk;rw[he];exact⟨_,axl m e a b he,(zw 8 [a,b]).le (by omega),rfl⟩
 ·obtain⟨a,b,rfl⟩:=sh2 hek;have ha:Nd a:=hk a (by simp);have hb':Nd b:=hk b (by simp);have hab:=ha.bulk;have hbb:=hb'.bulk;rw[he];exact⟨_,axm m e a b _ (A9 a b (m+1) (by omega) (by omega)) he,(sK 9 (cmpD a b)).le (by omega),rfl⟩
 ·obtain⟨a,b,rfl⟩:=sh2 hek;have ha:Nd a:=hk a (by simp);have hb':Nd b:=hk b (by simp);have hab:=ha.bulk;have hbb:=hb'.bulk;rw[he];exact⟨_,av7 m e a b _ (A9 a b (m+1) (by omega) (by omega)) he,(sK 10 (cmpD a b)).le (by omega),rfl⟩
 ·obtain⟨a,b,rfl⟩:=sh2 hek;have ha:Nd a:=hk a (by simp);have hb':Nd b:=hk b (by simp);have hab:=ha.bulk;have hbb:=hb'.bulk;rw[he];exact⟨_,av8 m e a b _ (A9 a b (m+1) (by omega) (by omega)) he,(sK 11 (cmpD a b)).le (by omega),rfl⟩
 ·obtain⟨a,b,rfl⟩:=sh2 hek;have ha:Nd a:=hk a (by simp);have hb':Nd b:=hk b (by simp);have hab:=ha.bulk;have hbb:=hb'.bulk;rw[he];exact⟨_,av9 m e a b _ (A9 a b (m+1) (by omega) (by omega)) he,(sK 12 (cmpD a b)).le (by omega),rfl⟩
 ·obtain⟨a,b,rfl⟩:=sh2 hek;have ha:Nd a:=hk a (by simp);have hb':Nd b:=hk b (by simp);have hab:=ha.bulk;have hbb:=hb'.bulk;rw[he];exact⟨_,awc m e a b _ (A9 a b (m+1) (by omega) (by omega)) he,(sK 13 (cmpD a b)).le (by omega),rfl⟩
 ·obtain⟨a,b,rfl⟩:=sh2 hek;have ha:Nd a:=hk a (by simp);have hb':Nd b:=hk b (by simp);have hab:=ha.bulk;have hbb:=hb'.bulk;rw[he];exact⟨_,awd m e a b _ (A9 a b (m+1) (by omega) (by omega)) he,(sK 14 (cmpD a b)).le (by omega),rfl⟩
 ·obtain⟨a,b,rfl⟩:=sh2 hek;have ha:Nd a:=hk a (by simp);have hb':Nd b:=hk b (by simp);have hab:=ha.bulk;have hbb:=hb'.bulk;rw[he];exact⟨_,awe m e a b _ (A9 a b (m+1) (by omega) (by omega)) he,(sK 15 (cmpD a b)).le (by omega),rfl⟩
 ·rw[he];exact⟨_,awf m e ks (by omega) (by omega) (fun d hd=>(hk d hd).rs.k0) he,(afG 16 ks).le (by omega),rfl⟩
 ·rw[he];exact⟨_,awg m e ks (by omega) (by omega) (fun d hd=>(hk d hd).rs.k0) he,(afG 17 ks).le (by omega),rfl⟩
 ·obtain⟨a,rfl⟩:=sh1 hek;have ha:Nd a:=hk a (aO ..);have hab:=ha.bulk;rw[he];exact⟨_,awh m e a ha.rs.k0 he,(Dz (!trB a)).le (by omega),rfl⟩
 ·obtain⟨a,b,c,rfl⟩:=sh3 hek;have ha:Nd a:=hk a (by simp);have hb':Nd b:=hk b (by simp);have hc:Nd c:=hk c (by simp);have hab:=ha.bulk;rw[he];exact⟨_,awi m e a b c ha.rs.k0 he,(aqc a b c hb' hc).le (by omega),rfl⟩
 ·obtain⟨a,b,rfl⟩:=sh2 hek;have ha:Nd a:=hk a (by simp);have hb':Nd b:=hk b (by simp);have hab:=ha.bulk;have hbb:=hb'.bulk;rw[he];exact⟨_,awj m e a b he,(amo a b ha hb').le (by omega),rfl⟩
 ·rw[he];exact⟨adC ks,awk m e ks (by omega) (by omega) (fun d hd=>by have:=vo d 2;have:=(hk d hd).bulk;omega) he,(apa ks).le (by omega),(ao8 ks).symm⟩
 ·obtain⟨a,rfl⟩:=sh1 hek;have ha:Nd a:=hk a (aO ..);have hab:=ha.bulk;rw[he];exact⟨_,awl m e a (by have:=vo a 2;omega) (by have:=vo a 2;omega) he,(D8 22 a).le (by omega),rfl⟩
 ·obtain⟨a,rfl⟩:=sh1 hek;have ha:Nd a:=hk a (aO ..);have hab:=ha.bulk;rw[he];exact⟨_,awm m e a (by have:=vo a 2;omega) (by have:=vo a 2;omega) he,(D8 23 a).le (by omega),rfl⟩
 ·obtain⟨a,rfl⟩:=sh1 hek;have ha:Nd a:=hk a (aO ..);have hab:=ha.bulk;rw[he];exact⟨_,awn m e a he,(D8 24 a).le (by omega),rfl⟩
 ·obtain⟨a,b,c,rfl⟩:=sh3 hek;have ha:Nd a:=hk a (by simp);have hb':Nd b:=hk b (by simp);have hc:Nd c:=hk c (by simp);have hab:=ha.bulk;rw[he];exact⟨_,awo m e a b c (by have:=vo a 2;omega) he,(aqb a b c).le (by omega),rfl⟩
 ·obtain⟨a,rfl⟩:=sh1 hek;have ha:Nd a:=hk a (aO ..);have hab:=ha.bulk;rw[he];exact⟨_,awp m e a (by have:=iQ a 3;omega) (by have:=iQ a 3;omega) he,(amg a).le (by omega),rfl⟩
 ·obtain⟨a,b,rfl⟩:=sh2 hek;have ha:Nd a:=hk a (by simp);have hb':Nd b:=hk b (by simp);have hab:=ha.bulk;have hbb:=hb'.bulk;rw[he];exact⟨_,aws m e a b he,(amk a b ha).le (by omega),rfl⟩
 ·obtain⟨a,b,rfl⟩:=sh2 hek;have ha:Nd a:=hk a (by simp);have hb':Nd b:=hk b (by simp);have hab:=ha.bulk;have hbb:=hb'.bulk;rw[he];exact⟨_,awt m e a b (fun x=>cmpD x a==0) (by have:=iQ b 3;omega) (by have:=iQ b 3;omega) (fun x hx=>awF x a m (by have:=qj hx;omega) (by omega)) he,(amj (fun x=>cmpD x a==0) b).le (by omega),rfl⟩
 ·rw[he];exact⟨_,awu m e ks (by omega) (by omega) (by have:=D9 ks;have:=rF (Bd ks);omega) he,(aml ks fun e he=>(hk e he).wv).le (by omega),rfl⟩
 ·obtain⟨a,rfl⟩:=sh1 hek;have ha:Nd a:=hk a (aO ..);have hab:=ha.bulk;rw[he];exact⟨_,awq m e a (by have:=iQ a 3;omega) (by have:=iQ a 3;omega) he,(ami a ha.wv).le (by omega),rfl⟩
 ·obtain⟨a,rfl⟩:=sh1 hek;have ha:Nd a:=hk a (aO ..);have hab:=ha.bulk;rw[he];exact⟨_,awr m e a (by have:=iQ a 3;omega) (by have:=iQ a 3;omega) he,(amh a).le (by omega),rfl⟩
 ·exact absurd he h32
 ·exact absurd he h33
 ·rw[he];exact⟨_,awy m e ks (by omega) (by omega) (by have:=hnm he;omega) he,(amn (L e 3) ks fun e he=>(hk e he).wv).le (by have:=F4 e 3;have:=iQ e 3;omega),rfl⟩
 ·rw[he];exact⟨_,awx m e ks (by omega) (by omega) he,(XA ks fun e he=>(hk e he).wv).le (by omega),rfl⟩
 ·obtain⟨a,rfl⟩:=sh1 hek;have ha:Nd a:=hk a (aO ..);have hab:=ha.bulk;rw[he];exact⟨_,awv m e a he,(Az 3 (I a 0) (by omega)).le (by omega),rfl⟩
 ·rw[he];exact⟨mgR (uW []) ks,aww m e ks _ (apd ks hk (by omega) (m+3) (by omega) (by omega)) he,(amq ks apb hk).le (by have:(uW []).bulk=6:=rfl;omega),(afM ks hk).symm⟩
end
structure Vv (v:Dt):Prop where
 wv:WV v
 bk:v.bulk<=4300800
 sn:v=aj∨∃k,sndF nm k v=true
theorem Nd.vv{v:Dt}(h:Nd v):Vv v:=by
 refine⟨h.wv,h.bulk,?_⟩;rcases h with h| ⟨_,h⟩;·exact .inl h
 ·rw[okV]at h;simp only[aN]at h;exact .inr ⟨_,h.2⟩
theorem Nd.elems{a:Dt}(h:Nd a):∀x∈L a 3,Vv x:=by
 intro x hx;have hb:=h.bulk;have hm:=qj hx;rcases h.vv.sn with rfl| ⟨k,hk⟩;·exact absurd hx (by intro h;cases h)
 ·obtain⟨h1,h2⟩:=aaA h.wv hk x hx;exact⟨h1,by omega,.inr h2⟩
theorem Nd.few{a:Dt}(h:Nd a)(h6:I a 0=6):(L a 3).length<=1024:=by
 rcases h with rfl| ⟨hw,ho⟩;·exact aC _
 ·have h1:=F5 hw;have h2:=XD nds awz (rO a);have h3:rO a=L a 3:=by rw[rO,h6];rfl
  rw[okV]at ho;simp only[aN,decide_eq_true_eq]at ho;rw[h3]at h1 h2;omega
theorem apg(n:Nat)(p:List Dt):atN n aj p=aj:=by
 cases n with
 |zero=>rfl
 |succ n=>cases p with
  |nil=>rfl
  |cons s r=>rfl
theorem aqg{v:Dt}(h:Vv v)(n:Nat)(p:List Dt):Rs (atN n v p) 4300800:=by
 obtain⟨h1,h2⟩:=Qz n v p h.wv;refine⟨h1,Nat.le_trans h2 h.bk,?_⟩;rcases h.sn with rfl| ⟨k,hk⟩;·exact .inl (apg n p)
 ·exact aqa n v p k hk
theorem amC(n:Nat)(p:List Dt)(s:ByteArray):∀(env:List (ByteArray×Dt)),(∀q∈env,Vv q.2)->Rs (Qx (fun v=>atN n v p) s env) 4300800
 | [],_=>Xy.le (by omega)
 |q::r,h=>by rw[Qx];exact fB (aqg (h q (aO ..)) n p) (amC n p s r fun x hx=>h x (aT _ hx))
theorem awG(op:Int)(g:Dt->Dt){v:Dt}(hv:Nd v)(h6:I v 0=6)(hg:∀x∈L v 3,Nd (g x)):Rs (vN (lpS op g (L v 3))) 4500000000:=by
 have hl:=hv.few h6;have hb:=hv.bulk;unfold lpS;cases (op==32)
 ·rw[cond_false];refine Xz (fun e he=>(hv.elems e (List.mem_filter.1 he).1).wv) ?_;have h1:=tQ (g:=fun e=>e) (q:=fun x=>trB (g x)) (l:=L v 3) fun e _=>ay _;rw[List.map_id']at h1;have h2:=F4 v 3;omega
 ·rw[cond_true,show (List.map (fun x=>orN (g x)) (L v 3))=((L v 3).map g).map orN by rw[List.map_map];rfl];have hn:∀k∈(L v 3).map g,Nd k:=fun k hk=>by obtain⟨x,hx,rfl⟩:=List.mem_map.1 hk;exact hg x hx
  have h1:=vT _ hn;rw[List.length_map]at h1;exact(XA _ fun e he=>(hn e he).wv).le (by omega)
def cpS(r:Nat)(e doc:Dt)(env:List (ByteArray×Dt)):Dt:=
    bif I e 0==1 then fld e 4
    else bif I e 0==2 then atN 4300801 doc (L e 1)
    else bif I e 0==3 then Qx (fun v=>atN 4300801 v (L e 1)) (S e 2) env
    else bif I e 0==32||I e 0==33 then
     bif isK 6 (evS mgS r ((L e 6).getD 0 aj) doc env)then
      vN (lpS (I e 0) (fun x=>evS mgS r ((L e 6).getD 1 aj) doc ((S e 2,x)::env)) (L (evS mgS r ((L e 6).getD 0 aj) doc env) 3))
     else kV 2 0
    else opS (I e 0) e ((L e 6).map fun k=>evS mgS r k doc env) (mgS ((L e 6).map fun k=>evS mgS r k doc env))
theorem QH(r:Nat)(e doc:Dt)(env:List (ByteArray×Dt)):evS mgS (r+1) e doc env=nm1 (cpS r e doc env):=rfl
theorem amD(s:ByteArray)(x:Dt)(env:List (ByteArray×Dt)):bnL ((s,x)::env)=bnL env++[.agg [.str s,x]]:=by rw[bnL,List.reverse_cons,List.map_append];rfl
theorem XF(env:List (ByteArray×Dt)):(bnL env).length=env.length:=by rw[bnL,List.length_map,List.length_reverse]
theorem aph{b:Dt}{env:List (ByteArray×Dt)}(h:b∈bnL env):∃q∈env,fld b 1=q.2:=by obtain⟨q,hq,rfl⟩:=List.mem_map.1 h;exact⟨q,List.mem_reverse.1 hq,rfl⟩
structure EvI (r:Nat) (e doc:Dt) (env:List (ByteArray×Dt)):Prop where
 nd:Nd (evS mgS r e doc env)
 pr:∀q:Nat,14000000000+8*r<=q->q<899999990000->cK q e doc (scD env)=some (evS mgS r e doc env)
 rf:∀q:Nat,14000000000+8*r<=q->q<899999990000->bI q e doc (bnL env)=some (evS mgS r e doc env)
theorem amE{e:Dt}(hn:nodeS e=0)(h:I e 0=32∨I e 0=33):∃a b,L e 6=[a,b]:=by obtain⟨_,_,hek,_,_⟩:=Ea hn;rcases h with h|h<;>rw[h]at hek<;>exact sh2 hek
theorem amF(r:Nat)(e doc:Dt)(env:List (ByteArray×Dt))(hn:nodeS e=0)(hnl:env.length<=16)(hk:∀k∈L e 6,EvI r k doc env)(hkl:(I e 0=32∨I e 0=33)->∀k∈L e 6,∀x,Vv x->EvI r k doc ((S e 2,x)::env))(m:Nat)(hm:14000000000+8*r<=m)(hm2:m<899999989999)(h:I e 0=32∨I e 0=33):Rs (cpS r e doc env) 4500000000∧d9 (m+1) e doc (scD env)=some (cpS r e doc env)∧dD (m+1) e doc (bnL env)=some (cpS r e doc env):=by
 obtain⟨a,b,hab⟩:=amE hn h;have ha:a∈L e 6:=by rw[hab];exact aO ..
 have hbm:b∈L e 6:=by rw[hab];exact aT _ (aO ..)
 have ka:=hk a ha;have kb:=hkl h b hbm;have i0:idx (L e 6) 0=some a:=by rw[hab];exact aoV a [b]
 have i1:idx (L e 6) 1=some b:=by rw[hab];exact bE (l:=[a,b]) (i:=1) (by simp)
 obtain⟨m,rfl⟩:∃q,m=q+2:=⟨m-2,by omega⟩;have e0:cpS r e doc env=bif isK 6 (evS mgS r a doc env)then vN (lpS (I e 0) (fun x=>evS mgS r b doc ((S e 2,x)::env)) (L (evS mgS r a doc env) 3))else kV 2 0:=by rw[cpS,hab];rcases h with h|h<;>rw[h]<;>rfl
 have hvb:=ka.nd.bulk;have hlb:=iQ (evS mgS r a doc env) 3;have hel:=ka.nd.elems;have p1:=ka.pr (m+2) (by omega) (by omega);have q1:=ka.rf (m+2) (by omega) (by omega);rw[e0,d9,dD,i0,ah,ah,p1,q1,ah,ah,isK];cases h6:(I (evS mgS r a doc env) 0==6)
 ·rw[show (I (evS mgS r a doc env) 0 !=6)=true by rw[bne,h6];rfl];exact⟨lg.le (by omega),rfl,rfl⟩
 ·rw[show (I (evS mgS r a doc env) 0 !=6)=false by rw[bne,h6];rfl,cond_true];have h6':I (evS mgS r a doc env) 0=6:=by simpa using h6
  have kg:=fun x hx=>kb x (hel x hx);refine⟨awG _ _ ka.nd h6' fun x hx=>(kg x hx).nd,?_,?_⟩
  ·have key:=afC m (cK (m+2)) (scD env) e doc aj b (L (evS mgS r a doc env) 3) (fun x=>evS mgS r b doc ((S e 2,x)::env)) (by omega) i1 (fun x hx=>(kg x hx).pr (m+2) (by omega) (by omega)) (Nat.succ (m+2)) 0 [] (aC _) (ay _) (by omega);rw[aF,List.nil_append]at key;exact key
  ·have key:=aay m (bI (m+2)) (bnL env) e doc aj (evS mgS r a doc env) b (fun x=>evS mgS r b doc ((S e 2,x)::env)) (by omega) (by rw[XF];omega) i1 (fun x hx=>by rw[←amD];exact(kg x hx).rf (m+2) (by omega) (by omega)) (fun x hx=>(kg x hx).nd.rs.k0) (Nat.succ (m+2)) 0 [] (aC _) (ay _) (by omega);rw[aF,List.nil_append]at key;exact key
section
variable(r:Nat)(e doc:Dt)(env:List (ByteArray×Dt))(hn:nodeS e=0)(h256:(L e 6).length<=256)(hb:e.bulk<=100000000)(h4:WV (fld e 4))(hd:Vv doc)(hv:∀q∈env,Vv q.2)(hnl:env.length<=16)
 (hk:∀k∈L e 6,EvI r k doc env)(hkl:(I e 0=32∨I e 0=33)->∀k∈L e 6,∀x,Vv x->EvI r k doc ((S e 2,x)::env))
 (m:Nat)(hm:14000000000+8*r<=m)(hm2:m<899999989999)
include hn h256 hb h4 hd hv hnl hk hkl hm hm2
theorem amG:Rs (cpS r e doc env) 4500000000∧fA (m+2) e doc (scD env)=some (cpS r e doc env):=by
 obtain⟨_,_,_,_,hv1⟩:=Ea hn;have hf4:=pI e 4;by_cases k1:I e 0=1
 ·have e0:cpS r e doc env=fld e 4:=by rw[cpS,k1];rfl
  rw[e0,fA,k1];exact⟨(show Nd (fld e 4)from .inr ⟨h4,hv1 k1⟩).rs.le (by omega),rfl⟩
 by_cases k2:I e 0=2
 ·have e0:cpS r e doc env=atN 4300801 doc (L e 1):=by rw[cpS,k2];rfl
  have hA:=Xp 4300800 m doc (L e 1) hd.bk (by omega) (by have:=hd.bk;omega);rw[e0,fA,k2];refine⟨(aqg hd _ _).le (by omega),?_⟩;show ((bU (m+1) doc (L e 1)).bind _:Option Dt)=_;rw[hA];rfl
 by_cases k3:I e 0=3
 ·have e0:cpS r e doc env=Qx (fun v=>atN 4300801 v (L e 1)) (S e 2) env:=by rw[cpS,k3];rfl
  rw[e0,fA,k3];refine⟨(amC _ _ _ env hv).le (by omega),?_⟩;exact aau (m+1) (cK (m+1)) (d9 (m+1)) e aj (fun v=>atN 4300801 v (L e 1)) env (Nat.succ (m+1)) (by omega) fun p hp=>Xp 4300800 m p.2 (L e 1) (hv p hp).bk (by omega) (by have:=(hv p hp).bk;omega)
 by_cases kl:I e 0=32∨I e 0=33
 ·obtain⟨l1,l2,_⟩:=amF r e doc env hn hnl hk hkl m hm hm2 kl;refine⟨l1,?_⟩;have:fA (m+2) e doc (scD env)=((d9 (m+1) e doc (scD env)).bind fun x=>some x):=by rw[fA];rcases kl with h|h<;>rw[h]<;>rfl
  rw[this,l2];rfl
 ·have k32:I e 0≠32:=fun h=>kl (.inl h);have k33:I e 0≠33:=fun h=>kl (.inr h);have f1:(I e 0==1)=false:=by rw[beq_eq_false_iff_ne];exact k1
  have f2:(I e 0==2)=false:=by rw[beq_eq_false_iff_ne];exact k2
  have f3:(I e 0==3)=false:=by rw[beq_eq_false_iff_ne];exact k3
  have f32:(I e 0==32)=false:=by rw[beq_eq_false_iff_ne];exact k32
  have f33:(I e 0==33)=false:=by rw[beq_eq_false_iff_ne];exact k33
  have e0:cpS r e doc env=opS (I e 0) e ((L e 6).map fun k=>evS mgS r k doc env) (mgS ((L e 6).map fun k=>evS mgS r k doc env)):=by rw[cpS,f1,f2,f3,f32,f33];rfl
  obtain⟨q,rfl⟩:∃q,m=q+4:=⟨m-4,by omega⟩;have hks:∀k∈(L e 6).map fun k=>evS mgS r k doc env,Nd k:=fun k h=>by obtain⟨x,hx,rfl⟩:=List.mem_map.1 h;exact(hk x hx).nd
  obtain⟨o1,o2⟩:=opP q e aj ((L e 6).map fun k=>evS mgS r k doc env) hks (by rw[List.length_map]) (by rw[List.length_map];exact h256) hb (by omega) (by omega) hn k1 k2 k3 k32 k33 (cK (q+5)) (d9 (q+5));have key:=aaw (q+5) (cK (q+5)) (d9 (q+5)) (scD env) e doc aj (L e 6) (fun k=>evS mgS r k doc env) (by omega) (fun k hk'=>(hk k hk').pr (q+5) (by omega) (by omega)) (Nat.succ (q+5)) 0 (aC _) (by omega);rw[List.take_zero,List.map_nil,List.nil_append,Nat.sub_zero,o1]at key;rw[e0];refine⟨o2.le (by omega),?_⟩;rw[fA,f1,f2,f3,f32,f33];show ((mkL ((L e 6).length:Int) ((L e 6).length:Int) aj).bind _:Option Dt)=_;rw[AZ (by omega),ah];exact key
theorem atn(hm3:m<899999989993):bI (m+7) e doc (bnL env)=some (nm1 (cpS r e doc env)):=by
 obtain⟨hR,_⟩:=amG r e doc env hn h256 hb h4 hd hv hnl hk hkl m hm hm2;have hbk:=hR.bk;have rv:=fun(c:Dt)(h:Rs c 4500000000)=>ame (m+2) (bI (m+6)) (dD (m+6)) aj c h.wv (fun h0=>by rcases h.nz with h|h;exact h;omega) (by have:=h.bk;omega) (by omega) (by have:=h.bk;omega);by_cases k1:I e 0=1
 ·have e0:cpS r e doc env=fld e 4:=by rw[cpS,k1];rfl
  rw[←rv _ hR,e0,bI,k1];rfl
 by_cases k2:I e 0=2
 ·have e0:cpS r e doc env=atN 4300801 doc (L e 1):=by rw[cpS,k2];rfl
  have hA:=Xr 4300800 (m+5) doc (L e 1) hd.bk (by omega) (by have:=hd.bk;omega);rw[←rv _ hR,e0,bI,k2];show ((gW (m+6) doc (L e 1)).bind _:Option Dt)=_;rw[hA];rfl
 by_cases k3:I e 0=3
 ·have e0:cpS r e doc env=Qx (fun v=>atN 4300801 v (L e 1)) (S e 2) env:=by rw[cpS,k3];rfl
  have key:=KZ (m+6) (bI (m+6)) (dD (m+6)) e aj (fun v=>atN 4300801 v (L e 1)) (bnL env) (by rw[XF];omega) (fun b hb=>by obtain⟨q,hq,hq2⟩:=aph hb;rw[hq2];exact Xr 4300800 (m+5) q.2 (L e 1) (hv q hq).bk (by omega) (by have:=(hv q hq).bk;omega)) (Nat.succ (m+6)) 0 aj (aC _) (by rw[XF];omega)
  rw[aF]at key;rw[←rv _ hR,e0,bI,k3];exact key.trans (congrArg (fG (m+6) (bI (m+6)) (dD (m+6)) aj) (aav (fun v=>atN 4300801 v (L e 1)) (S e 2) env))
 by_cases kl:I e 0=32∨I e 0=33
 ·obtain⟨l1,_,l2⟩:=amF r e doc env hn hnl hk hkl (m+5) (by omega) (by omega) kl;have:bI (m+7) e doc (bnL env)=((dD (m+6) e doc (bnL env)).bind fun x=>fG (m+6) (bI (m+6)) (dD (m+6)) aj x):=by rw[bI];rcases kl with h|h<;>rw[h]<;>rfl
  rw[this,l2,←rv _ hR];rfl
 ·have k32:I e 0≠32:=fun h=>kl (.inl h);have k33:I e 0≠33:=fun h=>kl (.inr h);have f1:(I e 0==1)=false:=by rw[beq_eq_false_iff_ne];exact k1
  have f2:(I e 0==2)=false:=by rw[beq_eq_false_iff_ne];exact k2
  have f3:(I e 0==3)=false:=by rw[beq_eq_false_iff_ne];exact k3
  have f32:(I e 0==32)=false:=by rw[beq_eq_false_iff_ne];exact k32
  have f33:(I e 0==33)=false:=by rw[beq_eq_false_iff_ne];exact k33
  have e0:cpS r e doc env=opS (I e 0) e ((L e 6).map fun k=>evS mgS r k doc env) (mgS ((L e 6).map fun k=>evS mgS r k doc env)):=by rw[cpS,f1,f2,f3,f32,f33];rfl
  have hks:∀k∈(L e 6).map fun k=>evS mgS r k doc env,Nd k:=fun k h=>by obtain⟨x,hx,rfl⟩:=List.mem_map.1 h;exact(hk x hx).nd
  obtain⟨c,o1,o2,o3⟩:=opR m e ((L e 6).map fun k=>evS mgS r k doc env) hks (by rw[List.length_map]) (by rw[List.length_map];exact h256) hb (by omega) (by omega) hn k1 k2 k3 k32 k33;have key:=UW (m+6) (bI (m+6)) (dD (m+6)) (bnL env) e doc aj aj (fun k=>evS mgS r k doc env) (by omega) (fun k hk'=>(hk k hk').rf (m+6) (by omega) (by omega)) (Nat.succ (m+6)) 0 [] (aC _) (ay _) (by omega);rw[aF,List.nil_append,wK,o1,ah,rv c (o2.le (by omega)),o3,←e0]at key;rw[bI,f1,f2,f3,f32,f33];exact key
end
theorem afP:∀(r:Nat),r<=16->∀(e doc:Dt)(env:List (ByteArray×Dt)),VE r e->WE e->e.bulk<=100000000->Vv doc->(∀q∈env,Vv q.2)->env.length+r<=16->EvI r e doc env
 |0,_,_,_,_,h,_,_,_,_,_=>h.elim
 |r+    1,hr,e,doc,env,hve,hwe,hb,hd,hv,hl=>by
  obtain⟨hn,h256,hks⟩:=hve;cases hwe with
  |mk h4 h6=>
   have hk:∀k∈L e 6,∀env':List (ByteArray×Dt),(∀q∈env',Vv q.2)->env'.length+r<=16->EvI r k doc env':=fun k hk env' hv' hl'=>afP r (by omega) k doc env' (hks k hk) (h6 k hk) (by have:=qj hk;omega) hd hv' hl';have hk1:=fun k hm=>hk k hm env hv (by omega);have hkl:(I e 0=32∨I e 0=33)->∀k∈L e 6,∀x,Vv x->EvI r k doc ((S e 2,x)::env):=fun _ k hm x hx=>hk k hm _ (fun q hq=>by
        rcases List.mem_cons.1 hq with rfl|hq;·exact hx
        ·exact hv q hq) (by rw[List.length_cons];omega)
   have cP:=amG r e doc env hn h256 hb h4 hd hv (by omega) hk1 hkl;have cR:=atn r e doc env hn h256 hb h4 hd hv (by omega) hk1 hkl;have hR:=(cP (14000000000+8*r) (ay _) (by omega)).1;refine⟨?_,fun q h1 h2=>?_,fun q h1 h2=>?_⟩
   ·    rw[QH];exact ati hR.wv
   ·    obtain⟨m,rfl⟩:∃m,q=m+4:=⟨q-4,by omega⟩;have hc:=(cP (m+1) (by omega) (by omega)).2;rw[QH];exact ao7 m e doc (scD env) _ hc hR.wv (by have:=hR.bk;omega) (by have:=hR.bk;omega)
   ·    obtain⟨m,rfl⟩:∃m,q=m+7:=⟨q-7,by omega⟩;rw[QH];exact cR m (by omega) (by omega) (by omega)
theorem U8(m:Nat)(self:Dt->Option Dt)(l:List Dt)(hl:l.length<9223372036854775807)(hs:∀e∈l,self e=some e)(z x3 x4:Dt)(x5 x6:Int)(x7:ByteArray):∀(M i:Nat),i<=l.length->l.length-i<M->
  lC m self M l (l.length:Int) (i:Int) x3 x4 x5 x6 x7 (l.take i++List.replicate (l.length-i) z)=yV m self x3 x4 x5 x6 x7 l
 |0,i,_,h=>by omega
 |M+1,i,hi,h=>by
  simp only[lC,dlt];by_cases hlt:i<l.length
  ·have hx:i<(l.take i++List.replicate (l.length-i) z).length:=by rw[Ij l z i hi];exact hlt
   simp only[hlt,decide_true,cond_true,yR,yQ,bE hlt,ah,hs _ (aI hlt),xq hx,Int.toNat_natCast,au hx,Dn l z i hlt,bR (show i<9223372036854775807 by omega)];exact U8 m self l hl hs z x3 x4 x5 x6 x7 M (i+1) (by omega) (by omega)
  ·have e:i=l.length:=by omega
   subst e;simp
theorem U9(m:Nat)(self:Dt->Option Dt)(l:List Dt)(hl:l.length<9223372036854775807)(hf:∀f∈l,∃s v,f= .agg [.str s,v]∧self v=some v)(z x3:Dt)(x4 x5:Int)(x6:ByteArray)(x7:List Dt):∀(M i:Nat),i<=l.length->l.length-i<M->
  nZ m self M l (l.length:Int) (i:Int) x3 x4 x5 x6 x7 (l.take i++List.replicate (l.length-i) z)=some (.agg [.int x4,.int x5,.str x6,.lst x7,.lst l])
 |0,i,_,h=>by omega
 |M+1,i,hi,h=>by
  simp only[nZ,dlt];by_cases hlt:i<l.length
  ·have hx:i<(l.take i++List.replicate (l.length-i) z).length:=by rw[Ij l z i hi];exact hlt
   obtain⟨s,v,e1,e2⟩:=hf _ (aI hlt);have e3:agg [.str (S l[i] 0),v]=l[i]:=by rw[e1];rfl
   have e4:fld l[i] 1=v:=by rw[e1];rfl
   simp only[hlt,decide_true,cond_true,yT,yS,bE hlt,ah,e4,e2,e3,xq hx,Int.toNat_natCast,au hx,Dn l z i hlt,bR (show i<9223372036854775807 by omega)];exact U9 m self l hl hf z x3 x4 x5 x6 x7 M (i+1) (by omega) (by omega)
  ·have e:i=l.length:=by omega
   subst e;simp[yU]
theorem QI(m:Nat)(self:Dt->Option Dt)(l:List Dt)(hl:l.length<9223372036854775807)(hf:∀f∈l,∃s v,f= .agg [.str s,v]∧self v=some v)(z x3:Dt)(x4 x5:Int)(x6:ByteArray)(x7:List Dt):∀(M i:Nat),i<=l.length->l.length-i<M->
  lV m self M l (l.length:Int) (i:Int) x3 x4 x5 x6 x7 (l.take i++List.replicate (l.length-i) z)=some (.agg [.int x4,.int x5,.str x6,.lst x7,.lst l])
 |0,i,_,h=>by omega
 |M+1,i,hi,h=>by
  simp only[lV,dlt];by_cases hlt:i<l.length
  ·have hx:i<(l.take i++List.replicate (l.length-i) z).length:=by rw[Ij l z i hi];exact hlt
   obtain⟨s,v,e1,e2⟩:=hf _ (aI hlt);have e3:agg [.str (S l[i] 0),v]=l[i]:=by rw[e1];rfl
   have e4:fld l[i] 1=v:=by rw[e1];rfl
   simp only[hlt,decide_true,cond_true,wC,wB,bE hlt,ah,e4,e2,e3,xq hx,Int.toNat_natCast,au hx,Dn l z i hlt,bR (show i<9223372036854775807 by omega)];exact QI m self l hl hf z x3 x4 x5 x6 x7 M (i+1) (by omega) (by omega)
  ·have e:i=l.length:=by omega
   subst e;simp[wD]
theorem K6:∀(N:Nat)(d:Dt),d.bulk<=N->N<=137438953472->WV d->∀m,N<=m->bK (m+1) d=some d
 |0,d,h,_,_,_,_=>by have:=gX d;omega
 |N +   1,d,h,hN,hw,m,hm=>by
  cases hw with
  | @mk   k i t l ds hl hd=>
    rw[nX]at h;obtain⟨m,rfl⟩:∃q,m=q+1:=⟨m-1,by omega⟩;have hself:∀e∈l,bK (m+1) e=some e:=fun e he=>K6 N e (by have:=nW he;omega) (by omega) (hl e he) m (by omega);have hfld:∀f∈ds,∃s v,f= .agg [.str s,v]∧bK (m+1) v=some v:=fun f hf=>by
        have hb:=nW hf;cases hd f hf with
        | @mk s v hv=>
          rw[xk]at hb;exact⟨s,v,rfl,K6 N v (by omega) (by omega) hv m (by omega)⟩
    have hl1:=kZ l;have hd1:=kZ ds;show (bif (decide ((0:Int)<((l.length:Nat):Int)))then _ else _)=_;have key6:=fun(x3:Dt)(x7:List Dt)(z:Dt)=>U9 (m+1) (bK (m+1)) ds (by omega) hfld z x3 k i t x7 (m+2) 0 (by omega) (by omega);have key13:=fun(x3:Dt)(x7:List Dt)(z:Dt)=>QI (m+1) (bK (m+1)) ds (by omega) hfld z x3 k i t x7 (m+2) 0 (by omega) (by omega);simp only[List.take_zero,List.nil_append,Nat.sub_zero]at key6 key13;by_cases h0:0<l.length
    ·   have e0:decide ((0:Int)<((l.length:Nat):Int))=true:=by simp;omega
        have key:=fun(x3 x4:Dt)(z:Dt)=>U8 (m+1) (bK (m+1)) l (by omega) hself z x3 x4 k i t (m+2) 0 (by omega) (by omega);simp only[List.take_zero,List.nil_append,Nat.sub_zero]at key;rw[e0];simp only[cond_true];show Option.bind (mkL ((l.length:Nat):Int) ((l.length:Nat):Int) _) _=_;rw[AZ (by omega),ah];show lC (m+1) (bK (m+1)) (m+2) l ((l.length:Nat):Int) ((0:Nat):Int) _ _ k i t _=_;rw[key];show (bif (decide ((0:Int)<((ds.length:Nat):Int)))then _ else _)=_;by_cases h1:0<ds.length
        · have e1:decide ((0:Int)<((ds.length:Nat):Int))=true:=by simp;omega
          rw[e1];simp only[cond_true];show Option.bind (mkL ((ds.length:Nat):Int) ((ds.length:Nat):Int) _) _=_;rw[AZ (by omega),ah];exact key6 _ _ _
        · have e1:decide ((0:Int)<((ds.length:Nat):Int))=false:=by rw[decide_eq_false_iff_not];omega
          have e2:ds=[]:=List.length_eq_zero_iff.1 (by omega);subst e2;rfl
    ·   have e0:decide ((0:Int)<((l.length:Nat):Int))=false:=by rw[decide_eq_false_iff_not];omega
        have e3:l=[]:=List.length_eq_zero_iff.1 (by omega);subst e3;show (bif (decide ((0:Int)<((ds.length:Nat):Int)))then _ else _)=_;by_cases h1:0<ds.length
        · have e1:decide ((0:Int)<((ds.length:Nat):Int))=true:=by simp;omega
          rw[e1];simp only[cond_true];show Option.bind (mkL ((ds.length:Nat):Int) ((ds.length:Nat):Int) _) _=_;rw[AZ (by omega),ah];exact key13 _ _ _
        · have e2:ds=[]:=List.length_eq_zero_iff.1 (by omega);subst e2;rfl
end Go.Proofs.YtjibjkdalajaiaaGreatDoor
namespace Go.Proofs.YtjibjkdalajaiaaGreatDoor
open Go.Am
def evE(e doc:Dt):Dt:=evS mgS 16 e doc []
structure EvT (e doc:Dt):Prop where
 nd:Nd (evE e doc)
 pr:∀q:Nat,14000001000<=q->q<899999980000->ow q e doc=some (evE e doc)
 rf:∀q:Nat,14000001000<=q->q<899999980000->pz q e doc=some (evE e doc)
theorem ato(e doc:Dt)(hw:WE e)(hb:e.bulk<=100000000)(hc:(ckE 16 e 0).2=0)(hd:Nd doc):EvT e doc:=by
 have hI:=afP 16 (ay _) e doc [] (XE 16 e 0 (by omega) hc).2 hw hb hd.vv (fun q h=>by cases h) (by simp);refine⟨hI.nd,fun q h1 h2=>?_,fun q h1 h2=>?_⟩
 ·obtain⟨m,rfl⟩:∃m,q=m+24:=⟨q-24,by omega⟩;have hv:=ahn 100000000 (ay _) m (by omega) (by omega) e hw hb;have hE:=hI.pr (m+23) (by omega) (by omega);have hbk:=hI.nd.bulk;have hcl:=K6 4300800 (evS mgS 16 e doc []) hbk (by omega) hI.nd.wv (m+22) (by omega);rw[ow,hv,ah,hc];show ((cK (m+23) e doc (scD [])).bind _:Option Dt)=_;rw[hE,ah,hcl];rfl
 ·obtain⟨m,rfl⟩:∃m,q=m+24:=⟨q-24,by omega⟩;have hv:=Z4 100000000 (ay _) m (by omega) (by omega) e hw hb;have hE:=hI.rf (m+23) (by omega) (by omega);rw[pz,hv,ah,hc];show ((bI (m+23) e doc (bnL [])).bind _:Option Dt)=_;rw[hE,ah];show (bif Dt.I (evE e doc) 0==0 then some aj else some (evE e doc))=_;cases h0:(Dt.I (evE e doc) 0==0);·rfl
  ·have h0':Dt.I (evE e doc) 0=0:=by simpa using h0
   rcases hI.nd.rs.nz with h|h;·rw[show evE e doc=aj from h];rfl
   ·    have h:1<=Dt.I (evE e doc) 0:=h;omega
section
variable(bs:List Dt)
def bAt(i:Nat):Dt:=bs.getD i aj
theorem adI{i:Nat}(h:i<bs.length):bAt bs i=bs[i]:=by unfold bAt;rw[List.getD,au h];rfl
def adJ:Prop:=∀i,i+1<bs.length->cmpD (bAt bs i) (bAt bs (i+1))<0
variable{bs}
theorem adJ.lt(h:adJ bs){i:Nat}:∀(d:Nat),i+d+1<bs.length->cmpD (bAt bs i) (bAt bs (i+d+1))<0
 |0,hj=>h i hj
 |d+1,hj=>Il.ltl (h.lt d (by omega)) (Int.le_of_lt (h (i+d+1) (by omega)))
theorem adJ.lt'(h:adJ bs){i j:Nat}(hij:i<j)(hj:j<bs.length):cmpD (bAt bs i) (bAt bs j)<0:=by have:=h.lt (i:=i) (j-i-1) (by omega);rw[show i+(j-i-1)+1=j by omega]at this;exact this
structure Cut (bs:List Dt) (v:Dt) (p:Nat):Prop where
 le:p<=bs.length
 lo:∀k,k<p->cmpD (bAt bs k) v<0
 hi:∀k,p<=k->k<bs.length->0<=cmpD (bAt bs k) v
def fnB(bs:List Dt)(v:Dt)(p:Nat):Bool:=decide (p<bs.length)&&(cmpD (bAt bs p) v==0)
theorem Cut.gt{v:Dt}{p:Nat}(h:Cut bs v p)(ha:adJ bs){k:Nat}(h1:p<k)(h2:k<bs.length):0<cmpD (bAt bs k) v:=by have a1:=h.hi p (ay _) (by omega);have a2:=ha.lt' h1 h2;have a3:=Il.anti (bAt bs p) v;have a4:=Il.anti (bAt bs k) v;have:=Il.ltr (a:=v) (b:=bAt bs p) (d:=bAt bs k) (by omega) a2;omega
end
abbrev GL:=List (Dt×Nat)
def qg:GL->Dt->GL
 | [],v=>[(v,1)]
 |(a,n)::r,v=>bif cmpD a v==0 then(a,n+1)::r else(a,n)::qg r v
def gAt(G:GL)(i:Nat):Dt:=(G.getD i (aj,0)).1
def gN(G:GL)(i:Nat):Nat:=(G.getD i (aj,0)).2
def oB(G:GL)(O:List Nat):List Dt:=O.map (gAt G)
structure OI (G:GL) (O:List Nat):Prop where
 rng:∀i∈O,i<G.length
 all:∀i,i<G.length->i∈O
 asc:(oB G O).Pairwise fun a b=>cmpD a b<0
theorem OI.nil:OI [] []:=⟨fun i h=>(by cases h),fun i h=>(by simp at h),.nil⟩
theorem qm(G:GL)(O:List Nat):(oB G O).length=O.length:=by rw[oB,List.length_map]
theorem Va{G:GL}{O:List Nat}{p:Nat}(h:p<O.length):bAt (oB G O) p=gAt G O[p]:=by rw[adI _ (by rw[qm];exact h)];simp only[oB,List.getElem_map]
theorem atp{bs:List Dt}(h:bs.Pairwise fun a b=>cmpD a b<0):adJ bs:=fun i hi=>by rw[adI bs (by omega),adI bs hi];exact List.pairwise_iff_getElem.1 h i (i+1) (by omega) hi (by omega)
theorem OI.ascB{G:GL}{O:List Nat}(h:OI G O):adJ (oB G O):=atp h.asc
theorem XG{a b c:Dt}(h1:cmpD a c=0)(h2:cmpD b c=0):cmpD a b=0:=by have a1:=Il.anti b c;have a2:=Il.anti a c;have a3:=Il.anti a b;have t1:=Il.tr a c b (by omega) (by omega);have t2:=Il.tr b c a (by omega) (by omega);omega
theorem OI.ne{G:GL}{O:List Nat}(h:OI G O){i j:Nat}(hi:i<G.length)(hj:j<G.length)(hij:i≠j):cmpD (gAt G i) (gAt G j)≠0:=by
 obtain⟨p,hp,rfl⟩:=List.getElem_of_mem (h.all i hi);obtain⟨q,hq,rfl⟩:=List.getElem_of_mem (h.all j hj);have hpq:p≠q:=fun e=>hij (by subst e;rfl);have hb:=List.pairwise_iff_getElem.1 h.asc;have e:∀(k:Nat)(hk:k<O.length),(oB G O)[k]'(by rw[qm];exact hk)=gAt G O[k]:=fun k hk=>by simp only[oB,List.getElem_map]
 rcases Nat.lt_or_gt_of_ne hpq with hl|hl
 ·have:=hb p q (by rw[qm];exact hp) (by rw[qm];exact hq) hl;rw[e p hp,e q hq]at this;omega
 ·have:=hb q p (by rw[qm];exact hq) (by rw[qm];exact hp) hl;rw[e p hp,e q hq]at this;have:=Il.anti (gAt G O[p]) (gAt G O[q]);omega
theorem QJ(x:Dt×Nat)(r:GL):gAt (x::r) 0=x.1:=rfl
theorem aaF:∀(G:GL)(v:Dt)(i:Nat),i<G.length->cmpD (gAt G i) v=0->(∀j,j<i->cmpD (gAt G j) v≠0)->qg G v=G.set i (gAt G i,gN G i+1)
 | [],_,_,h,_,_=>by simp at h
 |(a,n)::r,v,0,_,h,_=>by rw[QJ]at h;rw[qg,show (cmpD a v==0)=true by simpa using h];rfl
 |(a,n)::r,v,i+1,hl,h,hn=>by have h0:=hn 0 (by omega);rw[QJ]at h0;rw[qg,show (cmpD a v==0)=false by simpa using h0,cond_false,aaF r v i (by simpa using hl) h fun j hj=>hn (j+1) (by omega)];rfl
theorem aaG:∀(G:GL)(v:Dt),(∀j,j<G.length->cmpD (gAt G j) v≠0)->qg G v=G++[(v,1)]
 | [],_,_=>rfl
 |(a,n)::r,v,hn=>by have h0:=hn 0 (by simp);rw[QJ]at h0;rw[qg,show (cmpD a v==0)=false by simpa using h0,cond_false,aaG r v fun j hj=>hn (j+1) (by simpa using hj)];rfl
theorem apj{G:GL}{i:Nat}{n:Nat}(j:Nat):gAt (G.set i (gAt G i,n)) j=gAt G j:=by
 unfold gAt;simp only[List.getD_eq_getElem?_getD,List.getElem?_set];by_cases hij:i=j
 ·subst hij;by_cases hl:i<G.length;·rw[if_pos rfl,if_pos hl];rfl
  ·rw[if_pos rfl,if_neg hl,List.getElem?_eq_none (by omega)]
 ·rw[if_neg hij]
theorem OI.found{G:GL}{O:List Nat}(h:OI G O){v:Dt}{p:Nat}(hp:Cut (oB G O) v p)(hf:fnB (oB G O) v p=true):∃hp':p<O.length,qg G v=G.set O[p] (gAt G O[p],gN G O[p]+1)∧OI (qg G v) O:=by
 rw[fnB,aN,decide_eq_true_eq,qm]at hf;obtain⟨h1,h2⟩:=hf;refine⟨h1,?_⟩;rw[Va h1]at h2;have h2:cmpD (gAt G O[p]) v=0:=by simpa using h2
 have hi:=h.rng _ (aI h1);have e:=aaF G v O[p] hi h2 fun j hj he=>h.ne (show j<G.length by omega) hi (by omega) (XG he h2);refine⟨e,?_⟩;rw[e];refine⟨fun i hi=>by rw[List.length_set];exact h.rng i hi,fun i hi=>h.all i (by rw[List.length_set]at hi;exact hi),?_⟩;have:oB (G.set O[p] (gAt G O[p],gN G O[p]+1)) O=oB G O:=List.map_congr_left fun j _=>apj j;rw[this];exact h.asc
theorem XH{G:GL}{x:Dt×Nat}{i:Nat}(h:i<G.length):gAt (G++[x]) i=gAt G i:=by unfold gAt;rw[List.getD_eq_getElem?_getD,List.getD_eq_getElem?_getD,List.getElem?_append_left h]
theorem LV{G:GL}{x:Dt×Nat}:gAt (G++[x]) G.length=x.1:=by unfold gAt;rw[List.getD_eq_getElem?_getD,List.getElem?_append_right (ay _)];simp
theorem OI.fresh{G:GL}{O:List Nat}(h:OI G O){v:Dt}{p:Nat}(hp:Cut (oB G O) v p)(hf:fnB (oB G O) v p=false):qg G v=G++[(v,1)]∧p<=O.length∧OI (qg G v) (O.take p++G.length::O.drop p):=by
 have hpl:=hp.le;rw[qm]at hpl;have hgt:∀k(hk:k<O.length),p<=k->0<cmpD (gAt G O[k]) v:=fun k hk hpk=>by
  rcases Nat.lt_or_ge p k with hl|hl
  ·have:=hp.gt h.ascB hl (by rw[qm];exact hk);rw[Va hk]at this;exact this
  ·have e:k=p:=by omega
   subst e;have h1:=hp.hi k (ay _) (by rw[qm];exact hk);rw[fnB,decide_eq_true (by rw[qm];exact hk),Bool.true_and,Va hk]at hf;rw[Va hk]at h1;have:cmpD (gAt G O[k]) v≠0:=by simpa using hf
   omega
 have hlo:∀k(hk:k<O.length),k<p->cmpD (gAt G O[k]) v<0:=fun k hk hkp=>by have:=hp.lo k hkp;rw[Va hk]at this;exact this
 have hne:∀j,j<G.length->cmpD (gAt G j) v≠0:=fun j hj=>by
  obtain⟨q,hq,rfl⟩:=List.getElem_of_mem (h.all j hj);rcases Nat.lt_or_ge q p with hl|hl;·have:=hlo q hq hl;omega
  ·have:=hgt q hq hl;omega
 have e:=aaG G v hne;refine⟨e,hpl,?_⟩;rw[e];have htd:O.take p++O.drop p=O:=List.take_append_drop p O;refine⟨fun i hi=>?_,fun i hi=>?_,?_⟩
 ·rw[aR,List.length_singleton];rcases List.mem_append.1 hi with hi|hi;·have:=h.rng i (List.mem_of_mem_take hi);omega
  ·rcases List.mem_cons.1 hi with rfl|hi;·omega
   ·have:=h.rng i (List.mem_of_mem_drop hi);omega
 ·rw[aR,List.length_singleton]at hi;by_cases hl:i<G.length
  ·have:=h.all i hl;rw[←htd]at this;rcases List.mem_append.1 this with h1|h1;·exact bf _ h1
   ·exact List.mem_append_right _ (aT _ h1)
  ·have:i=G.length:=by omega
   subst this;exact List.mem_append_right _ aO
 ·have e1:∀l:List Nat,(∀i∈l,i<G.length)->oB (G++[(v,1)]) l=oB G l:=fun l hl=>List.map_congr_left fun i hi=>XH (hl i hi);have eo:oB (G++[(v,1)]) (O.take p++G.length::O.drop p)=oB G (O.take p)++v::oB G (O.drop p):=by
   have k1:=e1 (O.take p) fun i hi=>h.rng i (List.mem_of_mem_take hi);have k2:=e1 (O.drop p) fun i hi=>h.rng i (List.mem_of_mem_drop hi);unfold oB at k1 k2 ⊢
   rw[List.map_append,List.map_cons,k1,k2,LV]
  have ho:oB G (O.take p)++oB G (O.drop p)=oB G O:=by rw[oB,oB,oB,←List.map_append,htd]
  have hasc:=h.asc;rw[←ho,List.pairwise_append]at hasc;obtain⟨a1,a2,a3⟩:=hasc;have m1:∀a∈oB G (O.take p),cmpD a v<0:=fun a ha=>by obtain⟨i,hi,rfl⟩:=List.mem_map.1 ha;obtain⟨k,hk,rfl⟩:=List.getElem_of_mem hi;rw[List.length_take]at hk;rw[List.getElem_take];exact hlo k (by omega) (by omega)
  have m2:∀b∈oB G (O.drop p),cmpD v b<0:=fun b hb=>by obtain⟨i,hi,rfl⟩:=List.mem_map.1 hb;obtain⟨k,hk,rfl⟩:=List.getElem_of_mem hi;rw[List.length_drop]at hk;rw[List.getElem_drop];have:=hgt (p+k) (by omega) (by omega);have:=Il.anti (gAt G O[p+k]) v;omega
  rw[eo,List.pairwise_append];refine⟨a1,List.pairwise_cons.2 ⟨m2,a2⟩,fun a ha b hb=>?_⟩;rcases List.mem_cons.1 hb with rfl|hb;·exact m1 a ha
  ·exact a3 a ha b hb
def grp(vs:List Dt):GL:=vs.foldl qg []
theorem aaH(vs:List Dt)(v:Dt):grp (vs++[v])=qg (grp vs) v:=by rw[grp,List.foldl_append];rfl
def xE(G:GL):Nat:=(G.map (·.2)).sum
theorem aaI:∀(G:GL)(v:Dt),xE (qg G v)=xE G+1
 | [],_=>rfl
 |(a,n)::r,v=>by
  rw[qg];cases cmpD a v==0
  ·have:=aaI r v;simp only[cond_false,xE,List.map_cons,List.sum_cons]at this ⊢
   omega
  ·simp only[cond_true,xE,List.map_cons,List.sum_cons];omega
theorem aaJ:∀(G:GL)(v:Dt),(∀x∈G,1<=x.2)->∀x∈qg G v,1<=x.2
 | [],_,_,x,hx=>by rw[List.mem_singleton.1 hx];exact ay _
 |(a,n)::r,v,h,x,hx=>by
  rw[qg]at hx;cases hc:cmpD a v==0 with
  |false=>
   rw[hc,cond_false]at hx;rcases List.mem_cons.1 hx with rfl|hx;·exact h _ aO
   ·exact aaJ r v (fun y hy=>h y (aT _ hy)) x hx
  |true=>
   rw[hc,cond_true]at hx;rcases List.mem_cons.1 hx with rfl|hx;·exact Nat.succ_le_succ (aC _)
   ·exact h x (aT _ hx)
theorem aaK(G:GL)(v:Dt):(qg G v).length<=G.length+1:=by
 induction G with
 |nil=>exact ay _
 |cons x r ih=>
  obtain⟨a,n⟩:=x;rw[qg];cases cmpD a v==0;·simpa using ih
  ·simp
end Go.Proofs.YtjibjkdalajaiaaGreatDoor
namespace Go.Proofs.YtjibjkdalajaiaaGreatDoor
open IntKind (wrap)
open Go.Am Dt
theorem ES{l:List Dt}{i:Nat}(h:i<l.length):inL l (i:Int)=some ():=by unfold inL;rw[if_pos ⟨by omega,by omega⟩]
theorem wrT{z:Int}{n:Nat}(h:z=(n:Int))(hn:n<9223372036854775807):wrap IntKind.i64 z=(n:Int):=by rw[h,wrap64 (by omega) (by omega)]
theorem awH{i j:Nat}(h:i+j<4611686018427387904):wrap IntKind.i64 (shrI IntKind.u64 (wrap IntKind.u64 (wrap IntKind.i64 ((i:Int)+(j:Int)))) 1)=(((i+j)/2:Nat):Int):=by
 have e1:wrap IntKind.i64 ((i:Int)+(j:Int))=((i+j:Nat):Int):=wrT (by omega) (by omega);have e2:wrap IntKind.u64 ((i+j:Nat):Int)=((i+j:Nat):Int):=by unfold wrap;simp only[IntKind.bits,IntKind.signed,Bool.false_and,Bool.false_eq_true,if_false];omega
 have e3:shrI IntKind.u64 ((i+j:Nat):Int) 1=(((i+j)/2:Nat):Int):=by show Int.fdiv ((i+j:Nat):Int) 2=_;rw[Int.fdiv_eq_ediv_of_nonneg _ (by omega)];omega
 rw[e1,e2,e3];exact wrT rfl (by omega)
def nmV(n:Int):Dt:=agg [(int 3),(int n),(str (ByteArray.mk (List.toArray []))),(lst []),(lst [])]
def acN:Dt:=agg [(str (ByteArray.mk (List.toArray [110]))),(int 2),agg [(int 0),(lst []),(str (ByteArray.mk (List.toArray []))),(lst []),aj,(int 0),(lst [])],(lst []),(int 0)]
def stV(n:Int):Dt:=agg [(int 2),(int 0),(int n),aj,(lst []),(lst [])]
def gpV(e:Dt):Dt:=agg [e,lst [acN]]
def kyG(G:GL):List Dt:=G.map fun x=>x.1
def btG(G:GL):List Dt:=G.map fun _=>bool true
def tkG(G:GL):List Dt:=G.map fun x=>lst [stV (x.2:Int)]
def odO(O:List Nat):List Dt:=O.map fun(i:Nat)=>int (i:Int)
theorem K7{G:GL}{i:Nat}(h:i<G.length):gAt G i=G[i].1:=by unfold gAt;rw[List.getD_eq_getElem?_getD,au h];rfl
theorem aaL{G:GL}{i:Nat}(h:i<G.length):gN G i=G[i].2:=by unfold gN;rw[List.getD_eq_getElem?_getD,au h];rfl
theorem tT(G:GL):(kyG G).length=G.length:=by rw[kyG,List.length_map]
theorem XI(G:GL):(btG G).length=G.length:=by rw[btG,List.length_map]
theorem XJ(G:GL):(tkG G).length=G.length:=by rw[tkG,List.length_map]
theorem QK(O:List Nat):(odO O).length=O.length:=by rw[odO,List.length_map]
theorem aqh{G:GL}{i:Nat}(h:i<G.length):(kyG G)[i]'(by rw[tT];exact h)=gAt G i:=by rw[K7 h];simp only[kyG,List.getElem_map]
theorem aqi{O:List Nat}{p:Nat}(h:p<O.length):(odO O)[p]'(by rw[QK];exact h)=int ((O[p]:Nat):Int):=by simp only[odO,List.getElem_map]
theorem awI{m i:Nat}{G:GL}{v:Dt}(es ts od:List Dt)(hi:i<G.length)(hc:bg m (gAt G i) v=some (cmpD (gAt G i) v)):i19 (m+1) (i:Int) v (kyG G) es ts od=some (cmpD (gAt G i) v,kyG G,es,ts,od):=by
 have hi':i<(kyG G).length:=by rw[tT];exact hi
 rw[i19,ES hi',ah,Int.toNat_natCast,au hi',ah,aqh hi,hc];rfl
theorem QL(m:Nat)(G:GL)(O:List Nat)(v:Dt)(es ts:List Dt)(hO:OI G O)(hl:O.length<1000000000)(hc:∀i,i<G.length->bg m (gAt G i) v=some (cmpD (gAt G i) v)):∀(M i j:Nat),i<=j->j<=O.length->j-i<M->(∀k,k<i->cmpD (bAt (oB G O) k) v<0)->(∀k,j<=k->k<O.length->0<=cmpD (bAt (oB G O) k) v)->
  ∃p,Cut (oB G O) v p∧Jt (m+1) M (O.length:Int) (i:Int) (j:Int) (odO O) (kyG G) es ts v=some ((p:Int),fnB (oB G O) v p,odO O,kyG G,es,ts)
 |0,i,j,_,_,h,_,_=>by omega
 |M+    1,i,j,hij,hj,h,h1,h2=>by
  have hol:=QK O;have hstep:∀(k:Nat)(hk:k<O.length),∃(h':k<(odO O).length),i19 (m+1) (toInt (odO O)[k]) v (kyG G) es ts (odO O)=some (cmpD (bAt (oB G O) k) v,kyG G,es,ts,odO O):=fun k hk=>by refine⟨by rw[hol];exact hk,?_⟩;rw[aqi hk,Va hk];exact awI es ts _ (hO.rng _ (aI hk)) (hc _ (hO.rng _ (aI hk)))
  simp only[Jt,dlt];by_cases hlt:i<j
  ·obtain⟨hk',hs0⟩:=hstep ((i+j)/2) (by omega);simp only[hlt,decide_true,cond_true,awH (show i+j<4611686018427387904 by omega),ES hk',ah,Int.toNat_natCast,au hk',hs0];by_cases hs:cmpD (bAt (oB G O) ((i+j)/2)) v<0
   ·    rw[decide_eq_true hs,cond_true,wrT (n:=(i+j)/2+1) (by omega) (by omega)];refine QL m G O v es ts hO hl hc M _ j (by omega) hj (by omega) (fun k hk=>?_) h2;by_cases hk2:k=(i+j)/2;·rw[hk2];exact hs
        ·exact Il.ltl (hO.ascB.lt' (show k<(i+j)/2 by omega) (by rw[qm];omega)) (Int.le_of_lt hs)
   ·    rw[decide_eq_false hs,cond_false];refine QL m G O v es ts hO hl hc M i _ (by omega) (by omega) (by omega) h1 (fun k hk hk3=>?_);by_cases hk2:k=(i+j)/2;·rw[hk2];omega
        ·refine Int.not_lt.1 fun hn=>hs ?_;exact Il.ltl (hO.ascB.lt' (show (i+j)/2<k by omega) (by rw[qm];exact hk3)) (Int.le_of_lt hn)
  ·have hij2:i=j:=by omega
   subst hij2;refine⟨i,⟨by rw[qm];exact hj,h1,fun k a b=>h2 k a (by rw[qm]at b;exact b)⟩,?_⟩;simp only[hlt,decide_false,cond_false,fnB,qm,dlt];by_cases hn:i<O.length
   ·    obtain⟨hk',hs0⟩:=hstep i hn;rw[decide_eq_true hn,cond_true,ES hk',ah,Int.toNat_natCast,au hk',ah,hs0,ah,Bool.true_and]
   ·rw[decide_eq_false hn,cond_false,Bool.false_and]
theorem atq(m:Nat)(G:GL)(O:List Nat)(v:Dt)(es ts:List Dt)(hO:OI G O)(hl:O.length<1000000000)(hm:O.length<=m)(hc:∀i,i<G.length->bg m (gAt G i) v=some (cmpD (gAt G i) v)):∃p,Cut (oB G O) v p∧i18 (m+2) v (odO O) (kyG G) es ts=some ((p:Int),fnB (oB G O) v p,odO O,kyG G,es,ts):=by obtain⟨p,h1,h2⟩:=QL m G O v es ts hO hl hc (Nat.succ (m+1)) 0 O.length (aC _) (ay _) (by omega) (fun k h=>by omega) (fun k h1 h2=>by omega);refine⟨p,h1,?_⟩;rw[←h2,i18,QK];rfl
theorem insert_eq{O:List Nat}{p:Nat}(n:Nat)(hp:p<=O.length)(hl:O.length<=1000000):lu (p:Int) (odO O) [int (n:Int)]=some (odO (O.take p++n::O.drop p)):=by have hol:=QK O;rw[lu,decide_eq_true (show (0:Int)<=(p:Int) by omega),hol,decide_eq_true (show (p:Int)<=(O.length:Int) by omega),show Nat.ble O.length 1000000=true from Nat.ble_eq_true_of_le hl];show some ((odO O).take p++[int (n:Int)]++(odO O).drop p)=_;simp only[odO,List.map_append,List.map_cons,List.map_take,List.map_drop,List.append_assoc,List.singleton_append]
theorem QM{A:Type}(l:List A)(x y:A):(l++[x]).set l.length y=l++[y]:=by simp
theorem atr(G:GL)(x:Dt×Nat):kyG (G++[x])=kyG G++[x.1]:=by rw[kyG,List.map_append];rfl
theorem att(G:GL)(x:Dt×Nat):btG (G++[x])=btG G++[bool true]:=by rw[btG,List.map_append];rfl
theorem Cw(G:GL)(x:Dt×Nat):tkG (G++[x])=tkG G++[lst [stV (x.2:Int)]]:=by rw[tkG,List.map_append];rfl
theorem start_eq(m:Nat):qX (m+1) acN=some (stV 0):=rfl
theorem atu(m:Nat)(e v:Dt)(G:GL)(od:List Dt)(hG:G.length<=1000000):VW (m+2) (G.length:Int) (btG G) (tkG G) (kyG (G++[(v,0)])) od (gpV e)=some ((G.length:Int),kyG (G++[(v,0)]),btG (G++[(v,0)]),tkG (G++[(v,0)]),od):=by
 have k:mkL 1 1 (agg [(int (0:Int)),(int (0:Int)),(int (0:Int)),aj,(lst []),(lst [])])=some [agg [(int (0:Int)),(int (0:Int)),(int (0:Int)),aj,(lst []),(lst [])]]:=rfl;have w:wrap IntKind.i64 ((0:Int)+1)=1:=by decide
 have hb:Nat.ble (G.length+1) 137438953472=true:=Nat.ble_eq_true_of_le (by omega);have s:(tkG G++[lst []]).set G.length (lst [stV 0])=tkG (G++[(v,0)]):=by rw[←XJ G,QM,Cw];rfl
 show ((mkL 1 1 (agg [(int (0:Int)),(int (0:Int)),(int (0:Int)),aj,(lst []),(lst [])])).bind _:Option _)=_;rw[k,ah];have d1:decide ((0:Int)<1)=true:=rfl;have d2:decide ((1:Int)<1)=false:=rfl;have i1:∀z:Dt,inL [z] 0=some ():=fun _=>rfl;show CG (m+2) (m+2+1) (G.length:Int) [acN] 1 0 (btG G) (tkG G) (kyG (G++[(v,0)])) od [_]=_;rw[CG,d1,cond_true,abF,show idx [acN] 0=some acN from rfl,ah,start_eq,ah,i1,ah];show CG (m+2) (m+1+1) (G.length:Int) [acN] 1 (wrap IntKind.i64 (0+1)) (btG G) (tkG G) (kyG (G++[(v,0)])) od [stV 0]=_;rw[w,CG,d2,cond_false,abG,XI,hb];show some ((G.length:Int),kyG (G++[(v,0)]),btG G++[bool true],(tkG G++[lst []]).set G.length (lst [stV 0]),od)=_;rw[s,att]
theorem find_eq(m:Nat)(e:Dt)(G:GL)(O:List Nat)(v:Dt)(hO:OI G O)(hl:O.length<=1000000)(hg:G.length<=1000000)(hm:O.length<=m)(hc:∀i,i<G.length->bg m (gAt G i) v=some (cmpD (gAt G i) v)):
  ∃(i:Nat)(H:GL)(O':List Nat),i<H.length∧i17 (m+3) (gpV e) v (kyG G) (btG G) (tkG G) (odO O)=some ((i:Int),kyG H,btG H,tkG H,odO O')∧qg G v=H.set i (gAt H i,gN H i+1)∧OI (qg G v) O'∧O'.length<=O.length+1∧H.length<=G.length+1∧(∀x∈H,x∈G∨x=(v,0)):=by
 obtain⟨p,hp,hs⟩:=atq m G O v (btG G) (tkG G) hO (by omega) hm hc;rw[i17,hs,ah];cases hf:fnB (oB G O) v p with
 |true=>
  obtain⟨hpo,e1,hO'⟩:=hO.found hp hf;have hi:=hO.rng _ (aI hpo);refine⟨O[p],G,O,hi,?_,e1,hO',by omega,by omega,fun x hx=> .inl hx⟩;have hp':p<(odO O).length:=by rw[QK];exact hpo
  rw[cond_true,ES hp',ah,Int.toNat_natCast,au hp',ah,aqi hpo];rfl
 |false=>
  obtain⟨e1,hpl,hO'⟩:=hO.fresh hp hf;have hgl:G.length<(G++[(v,0)]).length:=by simp
  refine⟨G.length,G++[(v,0)],O.take p++G.length::O.drop p,hgl,?_,?_,hO',by simp;omega,by simp,fun x hx=>?_⟩
  ·rw[cond_false];have ap:∀y,app (kyG G) [y]=some (kyG G++[y]):=fun y=>mU (by rw[tT];simp;omega);have hz:∀y:Dt,G.length<(kyG G++[y]).length:=fun y=>by rw[aR,tT];simp
   rw[abH,tT,insert_eq G.length hpl (by omega),ah,ap,ap,ah,ah,ES (hz _),ah,Int.toNat_natCast,au (hz _),ah];have s1:∀y:Dt,(kyG G++[y]).set G.length v=kyG G++[v]:=fun y=>by rw[←tT G,QM]
   rw[s1,same_eq rfl,show kyG G++[v]=kyG (G++[(v,0)]) by rw[atr]];exact atu m e v G _ hg
  ·rw[e1,QM,LV,aaL hgl];simp
  ·rcases List.mem_append.1 hx with h|h;·exact .inl h
   ·exact .inr (List.mem_singleton.1 h)
end Go.Proofs.YtjibjkdalajaiaaGreatDoor
namespace Go.Proofs.YtjibjkdalajaiaaGreatDoor
open Go.Am Dt
theorem add_eq(m:Nat)(d:Dt)(n:Int):vP (m+8) acN (stV n) d=some (stV (IntKind.wrap IntKind.i64 (n+1))):=by kernel_rfl
theorem ahA(m:Nat)(n:Int):pV (m+8) acN (stV n)=some (nmV n):=by kernel_rfl
theorem set_set{A:Type}(l:List A)(i:Nat)(x y:A):(l.set i x).set i y=l.set i y:=by simp
theorem aqj{H:GL}{i:Nat}(h:i<H.length):(btG H)[i]'(by rw[XI];exact h)=bool true:=by simp only[btG,List.getElem_map]
theorem amH{H:GL}{i:Nat}(h:i<H.length):(tkG H)[i]'(by rw[XJ];exact h)=lst [stV (gN H i:Int)]:=by rw[aaL h];simp only[tkG,List.getElem_map]
theorem atv{H:GL}{i:Nat}(h:i<H.length)(n:Nat):kyG (H.set i (gAt H i,n))=kyG H:=by
 rw[kyG,kyG,List.map_set];refine List.ext_getElem? fun k=>?_;rw[List.getElem?_set];by_cases hik:i=k
 ·subst hik;rw[if_pos rfl,if_pos (by rw[List.length_map];exact h),List.getElem?_map,au h,K7 h];rfl
 ·rw[if_neg hik]
theorem atw(H:GL)(i:Nat)(x:Dt×Nat):btG (H.set i x)=btG H:=by rw[btG,btG,List.map_const',List.map_const',List.length_set]
theorem amI(m:Nat)(rec1:List Dt->Int->Int->Dt->List Dt->List Dt->List Dt->List Dt->Option (List Dt×List Dt×List Dt×List Dt))(docs od:List Dt)(n:Int)(j:Nat)(e d:Dt)(H:GL)(i:Nat)(hi:i<H.length)(hj:j<9223372036854775807)(hn:gN H i+1<9223372036854775807):
  aiP (m+8) rec1 (i:Int) docs n (j:Int) [acN] 1 0 (gpV e) (kyG H) (btG H) (tkG H) od d=rec1 docs n ((j+1:Nat):Int) (gpV e) (kyG (H.set i (gAt H i,gN H i+1))) (btG (H.set i (gAt H i,gN H i+1))) (tkG (H.set i (gAt H i,gN H i+1))) od:=by
 have d1:decide ((0:Int)<1)=true:=rfl;have d2:decide ((1:Int)<1)=false:=rfl;have w:IntKind.wrap IntKind.i64 ((0:Int)+1)=1:=by decide
 have hb:i<(btG H).length:=by rw[XI];exact hi
 have ht:i<(tkG H).length:=by rw[XJ];exact hi
 have wn:IntKind.wrap IntKind.i64 (((gN H i:Nat):Int)+1)=((gN H i+1:Nat):Int):=bR (by omega);have hs:(tkG H).set i (lst [stV ((gN H i+1:Nat):Int)])=tkG (H.set i (gAt H i,gN H i+1)):=by rw[tkG,tkG,List.map_set]
 have i1:∀z:Dt,inL [z] 0=some ():=fun _=>rfl;have g1:∀z:Dt,([z]:List Dt)[(0:Int).toNat]? =some z:=fun _=>rfl;have tl:∀l:List Dt,toLst (lst l)=l:=fun _=>rfl;have st:∀x y:Dt,List.set [x] (0:Int).toNat y=[y]:=fun _ _=>rfl;have lk:lkd none (bool true)=true:=rfl;have bq:Nat.beq i i=true:=Nat.beq_refl i;rw[atv hi,atw];show CQ (m+8) rec1 (m+8+1) (i:Int) docs n (j:Int) [acN] 1 0 (gpV e) (kyG H) (btG H) (tkG H) od d=_;rw[CQ,d1,cond_true,abO];simp only[show idx [acN] 0=some acN from rfl,ah,Int.toNat_natCast,au hb,aqj hi,lk,cond_true,au ht,amH hi,ES hb,bq,tl,i1,g1,add_eq,st,set_set,wn,hs];show CQ (m+8) rec1 (m+7+1) (i:Int) docs n (j:Int) [acN] 1 (IntKind.wrap IntKind.i64 (0+1)) (gpV e) (kyG H) (btG H) _ od d=_;rw[w,CQ,d2,cond_false,abP,bR hj]
def nzV(v:Dt):Dt:=bif I v 0==0 then nC else v
theorem afQ(m:Nat)(docs:List Dt)(e:Dt)(g:Dt->Dt)(hd:docs.length<=100000)(hm:1000000<=m)(hE:∀d∈docs,ow (m+8) e d=some (g d))(hC:∀d∈docs,∀d'∈docs,bg (m+5) (nzV (g d)) (nzV (g d'))=some (cmpD (nzV (g d)) (nzV (g d')))):∀(M j:Nat)(G:GL)(O:List Nat),j<=docs.length->docs.length-j<M->OI G O->G=grp ((docs.take j).map fun d=>nzV (g d))->O.length<=j->G.length<=j->(∀x∈G,x.2<=j∧∃d∈docs,x.1=nzV (g d))->
  ∃(G':GL)(O':List Nat),G'=grp (docs.map fun d=>nzV (g d))∧G'.length<=docs.length∧(∀x∈G',x.2<=docs.length∧∃d∈docs,x.1=nzV (g d))∧Fg (m+8) M docs (docs.length:Int) (j:Int) (gpV e) (kyG G) (btG G) (tkG G) (odO O)=some (kyG G',btG G',tkG G',odO O')
 |0,j,_,_,_,h,_,_,_,_,_=>by omega
 |M+    1,j,G,O,hj,h,hO,hG,hOl,hGl,hB=>by
  rw[Fg];by_cases hlt:j<docs.length
  ·rw[   decide_eq_true (show (j:Int)<(docs.length:Int) by omega),cond_true,abQ,bE hlt,ah];show ∃(G':GL)(O':List Nat),_∧_∧_∧((ow (m+8) e docs[j]).bind _:Option _)=_;rw[hE _ (aI hlt),ah];have hv:∀r1,(bif (I (g docs[j]) 0==(0:Int))then AR (m+8) r1 docs (docs.length:Int) (j:Int) (gpV e) (kyG G) (btG G) (tkG G) (odO O) docs[j] nC else AR (m+8) r1 docs (docs.length:Int) (j:Int) (gpV e) (kyG G) (btG G) (tkG G) (odO O) docs[j] (g docs[j]))=AR (m+8) r1 docs (docs.length:Int) (j:Int) (gpV e) (kyG G) (btG G) (tkG G) (odO O) docs[j] (nzV (g docs[j])):=fun r1=>by rw[nzV];cases (I (g docs[j]) 0==0)<;>rfl
   show ∃(G':GL)(O':List Nat),_∧_∧_∧(bif (I (g docs[j]) 0==(0:Int))then AR (m+8) _ docs (docs.length:Int) (j:Int) (gpV e) (kyG G) (btG G) (tkG G) (odO O) docs[j] nC else AR (m+8) _ docs (docs.length:Int) (j:Int) (gpV e) (kyG G) (btG G) (tkG G) (odO O) docs[j] (g docs[j]))=_;rw[hv];generalize hvv:nzV (g docs[j])=v;have hcv:∀i,i<G.length->bg (m+5) (gAt G i) v=some (cmpD (gAt G i) v):=fun i hi=>by obtain⟨_,d,hd1,hd2⟩:=hB _ (aI hi);rw[K7 hi,hd2,←hvv];exact hC d hd1 _ (aI hlt)
   obtain⟨i,H,O',hi,f1,f2,f3,f4,f5,f6⟩:=find_eq (m+5) e G O v hO (by omega) (by omega) (by omega) hcv;have hH:∀x∈H,x.2<=j∧∃d∈docs,x.1=nzV (g d):=fun x hx=>by
        rcases f6 x hx with h|h;·exact hB x h
        ·rw[h];exact⟨aC _,docs[j],aI hlt,hvv.symm⟩
   have hHi:=hH _ (aI hi);have f1':i17 (m+8) (gpV e) v (kyG G) (btG G) (tkG G) (odO O)=some ((i:Int),kyG H,btG H,tkG H,odO O'):=f1;have hst:=fun r1=>amI m r1 docs (odO O') (docs.length:Int) j e docs[j] H i hi (by omega) (by rw[aaL hi];omega);have hG':qg G v=grp ((docs.take (j+1)).map fun d=>nzV (g d)):=by rw[List.take_succ_eq_append_getElem hlt,List.map_append,List.map_cons,List.map_nil,aaH,←hG,hvv]
   have ih:=afQ m docs e g hd hm hE hC M (j+1) (qg G v) O' (by omega) (by omega) f3 hG' (by omega) (by have:=aaK G v;omega) (fun x hx=>by
        rw[f2]at hx;rcases List.mem_or_eq_of_mem_set hx with h|rfl;·have:=hH x h;exact⟨by omega,this.2⟩
        ·refine⟨by show gN H i+1<=_;rw[aaL hi];omega,?_⟩;show ∃d∈docs,gAt H i=_;rw[K7 hi];exact hHi.2)
   obtain⟨G',O2,k1,k2,k3,k4⟩:=ih;refine⟨G',O2,k1,k2,k3,?_⟩;rw[←k4,f2,←hst (Fg (m+8) M),AR,f1',ah];rfl
  ·have e1:j=docs.length:=by omega
   rw[e1,List.take_length]at hG;rw[decide_eq_false (show ¬(j:Int)<(docs.length:Int) by omega),cond_false,abR];exact⟨G,O,hG,by omega,fun x hx=>⟨by have:=(hB x hx).1;omega,(hB x hx).2⟩,rfl⟩
def dcV(v:Dt)(n:Int):Dt:=agg [(int 5),(int 0),(str (ByteArray.mk (List.toArray []))),(lst []),(lst [(agg [(str (ByteArray.mk (List.toArray [95,105,100]))),v]),(agg [(str (ByteArray.mk (List.toArray [110]))),nmV n])])]
def dcG(G:GL):List Dt:=G.map fun x=>dcV x.1 (x.2:Int)
theorem set_self{A:Type}{l:List A}{i:Nat}(h:i<l.length):l.set i l[i]=l:=by simp
theorem atx(m:Nat)(rec1:Int->Int->List Dt->List Dt->List Dt->List Dt->Dt->List Dt->Option (List Dt×List Dt×List Dt×List Dt×List Dt))(x1:Int)(od out:List Dt)(e v:Dt)(G:GL)(i:Nat)(hi:i<G.length)(ho:i<out.length)(hi2:i<1000000):
  aiN (m+8) rec1 (i:Int) x1 (i:Int) [acN] 1 0 (kyG G) (btG G) (tkG G) od (gpV e) out [(agg [(str (ByteArray.mk (List.toArray [95,105,100]))),v])]=rec1 x1 ((i+1:Nat):Int) (kyG G) (btG G) (tkG G) od (gpV e) (out.set i (dcV v (gN G i:Int))):=by
 have d1:decide ((0:Int)<1)=true:=rfl;have d2:decide ((1:Int)<1)=false:=rfl;have w:IntKind.wrap IntKind.i64 ((0:Int)+1)=1:=by decide
 have hb:i<(btG G).length:=by rw[XI];exact hi
 have ht:i<(tkG G).length:=by rw[XJ];exact hi
 have hs:(tkG G).set i (lst [stV (gN G i:Int)])=tkG G:=by rw[←amH hi,set_self]
 have i1:∀z:Dt,inL [z] 0=some ():=fun _=>rfl;have g1:∀z:Dt,([z]:List Dt)[(0:Int).toNat]? =some z:=fun _=>rfl;have tl:∀l:List Dt,toLst (lst l)=l:=fun _=>rfl;have lk:lkd none (bool true)=true:=rfl;have bq:Nat.beq i i=true:=Nat.beq_refl i;have ap:∀x y:Dt,app [x] [y]=some [x,y]:=fun _ _=>rfl;show CJ (m+8) rec1 (m+8+1) (i:Int) x1 (i:Int) [acN] 1 0 (kyG G) (btG G) (tkG G) od (gpV e) out _=_;rw[CJ,d1,cond_true,abI];simp only[show idx [acN] 0=some acN from rfl,ah,Int.toNat_natCast,au hb,aqj hi,lk,cond_true,au ht,amH hi,ES hb,bq,tl,i1,g1,ahA,ap,set_set,hs];show CJ (m+8) rec1 (m+7+1) (i:Int) x1 (i:Int) [acN] 1 (IntKind.wrap IntKind.i64 (0+1)) (kyG G) (btG G) (tkG G) od (gpV e) out _=_;rw[w,CJ,d2,cond_false,abK,ES ho,ah,Int.toNat_natCast,au ho,ah,abJ,bR (by omega)];rfl
theorem aaM(m:Nat)(e:Dt)(G:GL)(od:List Dt)(hl:G.length<=100000)(hcp:∀x∈G,bS (m+8) x.1=some x.1):∀(M i:Nat),i<=G.length->G.length-i<M->
  ∃a b c d,Ju (m+8) M (G.length:Int) (i:Int) (kyG G) (btG G) (tkG G) od (gpV e) (dcG (G.take i)++List.replicate (G.length-i) aj)=some (dcG G,a,b,c,d)
 |0,i,_,h=>by omega
 |M+    1,i,hi,h=>by
  rw[Ju];by_cases hlt:i<G.length
  ·have hk:i<(kyG G).length:=by rw[tT];exact hlt
   have htl:(dcG (G.take i)).length=i:=by rw[dcG,List.length_map,List.length_take];omega
   have ho:i<(dcG (G.take i)++List.replicate (G.length-i) aj).length:=by rw[aR,htl,List.length_replicate];omega
   have hset:(dcG (G.take i)++List.replicate (G.length-i) aj).set i (dcV (gAt G i) (gN G i:Int))=dcG (G.take (i+1))++List.replicate (G.length-(i+1)) aj:=by obtain⟨k,hk⟩:∃k,G.length-i=k+1:=⟨G.length-i-1,by omega⟩;rw[hk,show G.length-(i+1)=k by omega,List.replicate_succ,List.take_succ_eq_append_getElem hlt,List.set_append_right (h:=by rw[htl];exact ay _),htl,Nat.sub_self,List.set_cons_zero,K7 hlt,aaL hlt];simp only[dcG,List.map_append,List.map_cons,List.map_nil,List.append_assoc,List.singleton_append]
   obtain⟨a,b,c,d,ih⟩:=aaM m e G od hl hcp M (i+1) (by omega) (by omega);refine⟨a,b,c,d,?_⟩;rw[decide_eq_true (show (i:Int)<(G.length:Int) by omega),cond_true,abL,ES hk,ah,Int.toNat_natCast,au hk,ah,aqh hlt,show bS (m+8) (gAt G i)=some (gAt G i) by rw[K7 hlt];exact hcp _ (aI hlt),ah];refine Eq.trans (atx m _ _ od _ e (gAt G i) G i hlt ho (by omega)) ?_;rw[hset];exact ih
  ·have e1:i=G.length:=by omega
   subst e1;rw[decide_eq_false (show ¬(G.length:Int)<(G.length:Int) by omega),cond_false,abM,List.take_length,Nat.sub_self,List.replicate_zero,List.append_nil];exact⟨_,_,_,_,rfl⟩
theorem run_eq(m:Nat)(docs:List Dt)(e:Dt)(g:Dt->Dt)(hd:docs.length<=100000)(hm:1000000<=m)(hE:∀d∈docs,ow (m+8) e d=some (g d))(hC:∀d∈docs,∀d'∈docs,bg (m+5) (nzV (g d)) (nzV (g d'))=some (cmpD (nzV (g d)) (nzV (g d'))))(hcp:∀d∈docs,bS (m+8) (nzV (g d))=some (nzV (g d))):vR (m+10) (gpV e) docs=some (dcG (grp (docs.map fun d=>nzV (g d)))):=by
 obtain⟨G,O,k1,k2,k3,k4⟩:=afQ m docs e g hd hm hE hC (Nat.succ (m+8)) 0 [] [] (aC _) (by omega) OI.nil rfl (ay _) (ay _) (fun x h=>by cases h);have h1:i15 (m+9) (gpV e) docs=some (kyG G,btG G,tkG G,odO O):=k4;obtain⟨a,b,c,d,h2⟩:=aaM m e G (odO O) (by omega) (fun x hx=>by obtain⟨_,d,h1,h2⟩:=k3 x hx;rw[h2];exact hcp d h1) (Nat.succ (m+8)) 0 (aC _) (by omega);have h3:i24 (m+9) (gpV e) (kyG G) (btG G) (tkG G) (odO O)=some (dcG G,a,b,c,d):=by
  have hk:mkL ((kyG G).length:Int) ((kyG G).length:Int) aj=some (List.replicate G.length aj):=by rw[tT];unfold mkL;rw[if_pos ⟨by omega,by omega,by omega⟩,Int.toNat_natCast]
  rw[i24,hk,ah,tT];exact h2
 rw[vR,h1,ah,h3,ah,k1]
theorem amJ(m:Nat)(docs:List Dt)(e:Dt):uE (m+30) docs (gpV e)=qx (m+30) docs:=by kernel_rfl
theorem afR(m:Nat)(docs:List Dt)(hl:docs.length<=1048576)(hw:∀d∈docs,WV d∧d.bulk<=1048576)(hm:3000000<=m)(hm2:m<9223372036854775000):∀(M i:Nat),i<=docs.length->docs.length-i<M->
  ∃b,mE (m+4) M docs (docs.length:Int) (i:Int)=some b∧(b=true->∀d∈docs.drop i,Nd d)
 |0,i,_,h=>by omega
 |M+    1,i,hi,h=>by
  simp only[mE,dlt];by_cases hlt:i<docs.length
  ·obtain⟨w1,w2⟩:=hw _ (aI hlt);obtain⟨b,b1,b2⟩:=afR m docs hl hw hm hm2 M (i+1) (by omega) (by omega);simp only[hlt,decide_true,cond_true,wH,bE hlt,ah];cases h5:(I docs[i] 0 !=5)with
   |true=>exact⟨false,rfl,fun h=>by cases h⟩
   |    false=>
        rw[cond_false,KO w1 m (by omega) (by omega) (by omega),ah];cases hv:okV docs[i]with
        |false=>exact⟨false,rfl,fun h=>by cases h⟩
        |true=>
         refine⟨b,?_,fun h d hd=>?_⟩
         ·show rV (m+4) _ docs _ (i:Int)=_;rw[rV,bR (show i<9223372036854775807 by omega)];exact b1
         ·rw[aH hlt]at hd;rcases List.mem_cons.1 hd with rfl|hd;·exact .inr ⟨w1,hv⟩
          ·exact b2 h d hd
  ·have e1:i=docs.length:=by omega
   simp only[hlt,decide_false,cond_false];exact⟨true,rfl,fun _ d hd=>by rw[e1]at hd;simp at hd⟩
theorem amK(e:Dt)(docs:List Dt)(he:WE e)(heb:e.bulk<=1048576)(hl:docs.length<=1048576)(hw:∀d∈docs,WV d∧d.bulk<=1048576):∃b,pJ (gpV e) docs=some b∧(b=true->docs.length<=30∧(ckE 16 e 0).2=0∧∀d∈docs,Nd d):=by
 have hv:=Z4 100000000 (ay _) 499999999976 (by omega) (by omega) e he (by omega);have hv:gU 499999999999 (fld (gpV e) 0)=some (ckE 16 e 0).2:=hv;show ∃b,tJ (499999999999+1) (gpV e) docs=some b∧_;have h8:decide ((8:Int)<((List.length (L (gpV e) 1)):Int))=false:=rfl;rw[tJ,h8,cond_false];by_cases h30:(30:Int)<(docs.length:Int)
 ·rw[decide_eq_true h30,cond_true];exact⟨false,rfl,fun h=>by cases h⟩
 rw[decide_eq_false h30,cond_false,hv,ah];cases hz:((ckE 16 e 0).2 !=0)with
 |true=>exact⟨false,rfl,fun h=>by cases h⟩
 |false=>
  have hz':(ckE 16 e 0).2=0:=by simpa [bne]using hz
  obtain⟨b,b1,b2⟩:=afR 499999999995 docs hl hw (by omega) (by omega) (Nat.succ 499999999999) 0 (aC _) (by omega);have h1:=amJ 499999999969 docs e;have h1:uE 499999999999 docs (gpV e)=qx 499999999999 docs:=h1;have b1:qx 499999999999 docs=some b:=b1;rw[qy,cond_false,h1,b1];exact⟨b,rfl,fun h=>⟨by omega,hz',fun d hd=>b2 h d (by simpa using hd)⟩⟩
theorem key_eq(m:Nat)(e d:Dt)(x:Dt)(h:pz m e d=some x):vQ (m+1) e d=some (nzV x):=by rw[vQ,h,ah,nzV];cases (I x 0==0)<;>rfl
def SE(ks:List Dt)(v:Dt):Bool:=ks.any fun a=>cmpD a v==0
theorem amL:∀(G:GL)(v:Dt),kyG (qg G v)=bif SE (kyG G) v then kyG G else kyG G++[v]
 | [],_=>rfl
 |(a,n)::r,v=>by
  rw[qg];have e1:SE (kyG ((a,n)::r)) v=(cmpD a v==0||SE (kyG r) v):=rfl;rw[e1];cases cmpD a v==0 with
  |true=>rfl
  |false=>
   have ih:=amL r v;show a::kyG (qg r v)=bif SE (kyG r) v then _ else _;rw[ih];cases SE (kyG r) v<;>rfl
theorem afS(m:Nat)(ks:List Dt)(v:Dt)(hl:ks.length<=1000000)(hc:∀a∈ks,eZ a v=some (cmpD a v)):∀(M i:Nat),i<=ks.length->ks.length-i<M->
  ∃r:Int,P2.i6_l1 (m+1) M ks v (ks.length:Int) (i:Int)=some r∧decide (0<=r)=SE (ks.drop i) v
 |0,i,_,h=>by omega
 |M+    1,i,hi,h=>by
  simp only[P2.i6_l1,dlt];by_cases hlt:i<ks.length
  ·obtain⟨r,r1,r2⟩:=afS m ks v hl hc M (i+1) (by omega) (by omega);have h7:P2.i7 (m+1) ks[i] v=some (cmpD ks[i] v==0):=by rw[P2.i7,hc _ (aI hlt)];rfl
   have hk:SE (ks.drop i) v=(cmpD ks[i] v==0||SE (ks.drop (i+1)) v):=by rw[aH hlt];rfl
   simp only[hlt,decide_true,cond_true,P2.i6_j2,bE hlt,ah,h7];rw[hk];cases cmpD ks[i] v==0 with
   |true=>exact⟨(i:Int),rfl,decide_eq_true (by omega)⟩
   |    false=>
        refine⟨r,?_,r2⟩;show P2.i6_j3 (m+1) _ ks v _ (i:Int)=_;rw[P2.i6_j3,bR (show i<9223372036854775807 by omega)];exact r1
  ·have e1:i=ks.length:=by omega
   simp only[hlt,decide_false,cond_false];refine⟨-1,rfl,?_⟩;rw[e1,List.drop_length];rfl
theorem has_eq(m:Nat)(ks:List Dt)(v:Dt)(hl:ks.length<=1000000)(hm:1000000<=m)(hc:∀a∈ks,eZ a v=some (cmpD a v)):P2.i5 (m+3) ks v=some (SE ks v):=by obtain⟨r,r1,r2⟩:=afS m ks v hl hc (Nat.succ (m+1)) 0 (aC _) (by omega);have r1:P2.i6 (m+2) ks v=some r:=r1;rw[P2.i5,r1,ah,r2,aF]
theorem aaN:∀(vs:List Dt)(G:GL),xE (vs.foldl qg G)=xE G+vs.length
 | [],_=>rfl
 |v::r,G=>by rw[List.foldl_cons,aaN r,aaI,List.length_cons];omega
theorem aaO:∀(vs:List Dt)(G:GL),(∀x∈G,1<=x.2)->∀x∈vs.foldl qg G,1<=x.2
 | [],_,h=>h
 |v::r,G,h=>aaO r _ (aaJ G v h)
theorem QN:∀(vs:List Dt)(G:GL),(vs.foldl qg G).length<=G.length+vs.length
 | [],_=>ay _
 |v::r,G=>by have h1:=QN r (qg G v);have h2:=aaK G v;rw[List.foldl_cons,List.length_cons];omega
theorem afT:∀(G:GL)(v:Dt),∀x∈qg G v,(∃y∈G,x.1=y.1)∨x.1=v
 | [],v,x,hx=>by rw[List.mem_singleton.1 hx];exact .inr rfl
 |(a,   n)::r,v,x,hx=>by
  rw[qg]at hx;cases hc:cmpD a v==0 with
  |false=>
   rw[hc,cond_false]at hx;rcases List.mem_cons.1 hx with rfl|hx;·exact .inl ⟨_,aO,rfl⟩
   ·    rcases afT r v x hx with⟨y,hy,h⟩|h;·exact .inl ⟨y,aT _ hy,h⟩
        ·exact .inr h
  |true=>
   rw[hc,cond_true]at hx;rcases List.mem_cons.1 hx with rfl|hx;·exact .inl ⟨_,aO,rfl⟩
   ·exact .inl ⟨x,aT _ hx,rfl⟩
theorem aaP:∀(vs:List Dt)(G:GL),∀x∈vs.foldl qg G,(∃y∈G,x.1=y.1)∨x.1∈vs
 | [],_,x,hx=> .inl ⟨x,hx,rfl⟩
 |v::r,G,x,hx=>by
  rcases aaP r _ x hx with⟨y,hy,h⟩|h
  ·rcases afT G v y hy with⟨z,hz,h2⟩|h2;·exact .inl ⟨z,hz,h.trans h2⟩
   ·exact .inr (by rw[h,h2];exact aO)
  ·exact .inr (aT _ h)
theorem afU{vs:List Dt}{v:Dt}(h:v∈kyG (grp vs)):v∈vs:=by
 obtain⟨x,hx,rfl⟩:=List.mem_map.1 h;rcases aaP vs [] x hx with⟨_,hy,_⟩|h;·cases hy
 ·exact h
theorem aaQ(m:Nat)(docs out:List Dt)(e:Dt)(g:Dt->Dt)(hl:docs.length<=1000)(hm:1000000<=m)(hK:∀d∈docs,xA e d=some (g d))(hC:∀d∈docs,∀d'∈docs,eZ (g d) (g d')=some (cmpD (g d) (g d'))):∀(M j:Nat),j<=docs.length->docs.length-j<M->
  P2.law33_GroupCounts_l2 (m+3) M docs out (docs.length:Int) (j:Int) e (kyG (grp ((docs.take j).map g)))=P2.law33_GroupCounts_j5 (m+3) docs out (kyG (grp (docs.map g)))
 |0,j,_,h=>by omega
 |M+    1,j,hj,h=>by
  simp only[P2.law33_GroupCounts_l2,dlt];by_cases hlt:j<docs.length
  ·have ih:=aaQ m docs out e g hl hm hK hC M (j+1) (by omega) (by omega);rw[List.take_succ_eq_append_getElem hlt,List.map_append,List.map_cons,List.map_nil,aaH,amL]at ih;have hkl:(kyG (grp ((docs.take j).map g))).length<=1000:=by have:=QN ((docs.take j).map g) [];rw[tT];rw[List.length_map,List.length_take,List.length_nil]at this;show (List.foldl qg [] _).length<=_;omega
   have hh:=has_eq m (kyG (grp ((docs.take j).map g))) (g docs[j]) (by omega) hm fun a ha=>by obtain⟨d,hd,rfl⟩:=List.mem_map.1 (afU ha);exact hC d (List.mem_of_mem_take hd) _ (aI hlt)
   simp only[hlt,decide_true,cond_true,P2.law33_GroupCounts_j3,bE hlt,ah,hK _ (aI hlt),hh];rw[←ih];cases SE (kyG (grp ((docs.take j).map g))) (g docs[j])with
   |    true=>
        rw[Bool.not_true,cond_false,cond_true,P2.law33_GroupCounts_j4,bR (show j<9223372036854775807 by omega)]
   |    false=>
        rw[Bool.not_false,cond_true,cond_false,Ng (by omega),ah,P2.law33_GroupCounts_j4,bR (show j<9223372036854775807 by omega)]
  ·have e1:j=docs.length:=by omega
   simp only[hlt,decide_false,cond_false];rw[e1,List.take_length]
theorem ahB{G:GL}{i:Nat}(h:i<G.length):xE (G.take (i+1))=xE (G.take i)+G[i].2:=by rw[List.take_succ_eq_append_getElem h];simp only[xE,List.map_append,List.sum_append,List.map_cons,List.map_nil,List.sum_cons,List.sum_nil,Nat.add_zero]
theorem apk(G:GL)(i:Nat):xE (G.take i)<=xE G:=by
 have:xE G=xE (G.take i)+xE (G.drop i):=by
  conv=>lhs;rw[←List.take_append_drop i G]
  simp only[xE,List.map_append,List.sum_append]
 omega
theorem afV(m:Nat)(docs:List Dt)(G:GL)(hl:G.length<=1000)(hb:xE G<=1000)(hp:∀x∈G,1<=x.2)(hC:∀x∈G,eZ x.1 x.1=some (cmpD x.1 x.1)):∀(M i:Nat),i<=G.length->G.length-i<M->
  P2.law33_GroupCounts_l7 m M docs (dcG G) ((xE (G.take i):Nat):Int) (G.length:Int) (i:Int) (kyG G)=P2.law33_GroupCounts_j12 m docs (dcG G) ((xE G:Nat):Int) (kyG G)
 |0,i,_,h=>by omega
 |M+1,i,hi,h=>by
  simp only[P2.law33_GroupCounts_l7,dlt];by_cases hlt:i<G.length
  ·have ih:=afV m docs G hl hb hp hC M (i+1) (by omega) (by omega);have h1:=hp _ (aI hlt);have h2:=apk G (i+1);rw[ahB hlt]at ih h2;have hdl:i<(dcG G).length:=by rw[dcG,List.length_map];exact hlt
   have hkl:i<(kyG G).length:=by rw[tT];exact hlt
   have hd:idx (dcG G) (i:Int)=some (dcV G[i].1 (G[i].2:Int)):=by rw[bE hdl];simp only[dcG,List.getElem_map]
   have hk:(kyG G)[i]=G[i].1:=by simp only[kyG,List.getElem_map]
   have f2:∀(v:Dt)(n:Int),(((List.length (L (dcV v n) 4)):Int) !=(2:Int))=false:=fun _ _=>rfl;have f0:∀(v:Dt)(n:Int),idx (L (dcV v n) 4) 0=some (agg [(str (ByteArray.mk (List.toArray [95,105,100]))),v]):=fun _ _=>rfl;have f1:∀(v:Dt)(n:Int),idx (L (dcV v n) 4) 1=some (agg [(str (ByteArray.mk (List.toArray [110]))),nmV n]):=fun _ _=>rfl;have g0:∀(s v:Dt),fld (agg [s,v]) 1=v:=fun _ _=>rfl;have g1:∀n:Int,I (nmV n) 1=n:=fun _=>rfl;have e3:IntKind.wrap .i64 (((xE (G.take i):Nat):Int)+(G[i].2:Int))=((xE (G.take i)+G[i].2:Nat):Int):=by rw[wrap64 (by omega) (by omega)];omega
   have hc0:(cmpD G[i].1 G[i].1 !=0)=false:=by rw[Il.refl];rfl
   rw[decide_eq_true hlt,cond_true,P2.law33_GroupCounts_j8,decide_eq_false (by rw[tT];omega),cond_false,hd,ah,f2,cond_false,ah,f0,ah,ES hkl,ah,Int.toNat_natCast,au hkl,ah,hk,g0,hC _ (aI hlt),ah,hc0,cond_false,ah,f1,ah,g0,g1,decide_eq_false (show ¬((G[i].2:Nat):Int)<1 by omega),P2.law33_GroupCounts_j9,cond_false,P2.law33_GroupCounts_j10,hd,ah,f1,ah,g0,g1,e3,P2.law33_GroupCounts_j11,bR (show i<9223372036854775807 by omega)];exact ih
  ·have e1:i=G.length:=by omega
   simp only[hlt,decide_false,cond_false];rw[e1,List.take_length]
theorem apl{v:Dt}(h:v.bulk<=4300800):(nzV v).bulk<=4300800:=by
 rw[nzV];cases I v 0==0;·exact h
 ·show nC.bulk<=_;decide
theorem awJ{v:Dt}(h:WV v):WV (nzV v):=by
 rw[nzV];cases I v 0==0;·exact h
 ·exact UZ 2 0
theorem aaR(e:Dt)(docs:List Dt)(he:WE e)(heb:e.bulk<=1048576)(hdl:docs.length<=1048576)(hdw:∀d∈docs,WV d∧d.bulk<=1048576):P2.law33_GroupCounts (500000000000+1) e docs=some true:=by
 obtain⟨b,b1,b2⟩:=amK e docs he heb hdl hdw;have b1':pJ (gpV e) docs=some b:=b1;have aw:Cx=some true:=rfl;rw[P2.law33_GroupCounts];show ((pJ (gpV e) docs).bind _:Option Bool)=_;rw[b1',ah];cases b with
 |false=>rw[Bool.not_false,cond_true,aw];rfl
 |true=>
  obtain⟨h30,hz,hdn⟩:=b2 rfl;have hT:=fun d hd=>ato e d he (by omega) hz (hdn d hd);have hub:∀d∈docs,(nzV (evE e d)).bulk<=4300800:=fun d hd=>apl (hT d hd).nd.bulk;have hr:=run_eq 499999999990 docs e (evE e) (by omega) (by omega) (fun d hd=>(hT d hd).pr _ (by omega) (by omega)) (fun d hd d' hd'=>A8 _ _ 499999999992 (by have:=hub d hd;omega) (by have:=hub d hd;omega)) (fun d hd=>Pz 4300800 _ (hub d hd) (by omega) (awJ (hT d hd).nd.wv) 499999999997 (by omega));have hr:xw (gpV e) docs=some (dcG (grp (docs.map fun d=>nzV (evE e d)))):=hr;have hC:∀a b:Dt,a.bulk<=4300800->eZ a b=some (cmpD a b):=fun a b h=>A9 a b 499999999997 (by omega) (by omega);have hkk:=aaQ 499999999997 docs (dcG (grp (docs.map fun d=>nzV (evE e d)))) e (fun d=>nzV (evE e d)) (by omega) (by omega) (fun d hd=>key_eq 499999999999 e d _ ((hT d hd).rf _ (by omega) (by omega))) (fun d hd d' hd'=>hC _ _ (hub d hd)) (Nat.succ 500000000000) 0 (aC _) (by omega);have hkk:P2.law33_GroupCounts_j1 500000000000 docs (dcG (grp (docs.map fun d=>nzV (evE e d)))) (docs.length:Int) 0 e []=P2.law33_GroupCounts_j5 500000000000 docs (dcG (grp (docs.map fun d=>nzV (evE e d)))) (kyG (grp (docs.map fun d=>nzV (evE e d)))):=hkk;rw[Bool.not_true,cond_false];show P2.law33_GroupCounts_j0 500000000000 docs e (gpV e)=_;rw[P2.law33_GroupCounts_j0,hr,ah,hkk];have hsm:xE (grp (docs.map fun d=>nzV (evE e d)))=docs.length:=by have:=aaN (docs.map fun d=>nzV (evE e d)) [];rw[List.length_map]at this;show xE (List.foldl qg [] _)=_;rw[this];exact Nat.zero_add _
  have hln:(grp (docs.map fun d=>nzV (evE e d))).length<=docs.length:=by have:=QN (docs.map fun d=>nzV (evE e d)) [];rw[List.length_map,List.length_nil,Nat.zero_add]at this;exact this
  have hps:∀x∈grp (docs.map fun d=>nzV (evE e d)),1<=x.2:=aaO _ [] (fun x h=>by cases h);have hmm:∀x∈grp (docs.map fun d=>nzV (evE e d)),x.1.bulk<=4300800:=fun x hx=>by have h1:x.1∈docs.map fun d=>nzV (evE e d):=afU (List.mem_map.2 ⟨x,hx,rfl⟩);obtain⟨d,hd,h2⟩:=List.mem_map.1 h1;rw[←h2];exact hub d hd
  generalize grp (docs.map fun d=>nzV (evE e d))=G at hsm hln hps hmm;have hs:=afV 500000000000 docs G (by omega) (by omega) hps (fun x hx=>hC _ _ (hmm x hx)) (Nat.succ 500000000000) 0 (aC _) (by omega);have hgl:((dcG G).length:Int)=(G.length:Int):=by rw[dcG,List.length_map]
  have hs:P2.law33_GroupCounts_j6 500000000000 docs (dcG G) 0 (G.length:Int) 0 (kyG G)=P2.law33_GroupCounts_j12 500000000000 docs (dcG G) ((xE G:Nat):Int) (kyG G):=hs;have q1:((G.length:Int)==(G.length:Int))=true:=by simp
  have q2:((docs.length:Int)==(docs.length:Int))=true:=by simp
  rw[P2.law33_GroupCounts_j5,hgl,hs,P2.law33_GroupCounts_j12,hgl,tT,q1,cond_true,hsm,q2,cond_true,aw];rfl
theorem adK{ds:List Dt}(h:HasTys Tryz.prog Tryz.f3.params.toList ds)(hb:bulkL ds<=1048576):FX Tryz.prog 3 (aoe Tryz.f3.params.toList ds) [] (.dat 4 (.bool true)) []:=by
 have h':HasTys Tryz.prog [29,23] ds:=h;match ds,h',hb with
 | [x,y],.cons h1 (.cons h2 .nil),hb=>
   obtain⟨e1,_,w1⟩:=alG Tryz.underlying23 h2;rw[e1]at hb ⊢
   simp only[bulkL,Dt.bulk]at hb;have l1:=kZ y.toLst;exact P2.law33_GroupCounts_fx 500000000000 (P2.ct_ok 500000000000) _ _ (aaR x y.toLst (ap4 x.bulk x (ay _) h1) (by omega) (by omega) (fun d hd=>⟨ap1 (w1 d hd),by have:=nW hd;omega⟩))
end Go.Proofs.YtjibjkdalajaiaaGreatDoor
namespace Go.Proofs.YtjibjkdalajaiaaGreatDoor
open Go.Am
mutual
def gv{H:Type}:DataW H->List Value
 | .lit (.int k m)=>[.int k m]
 | .lit (.bool b)=>[.bool b]
 | .lit (.string s)=>[.string ⟨s.toArray⟩]
 | .agg ds=>gvL ds
 |_=>[]
def gvL{H:Type}:List (DataW H)->List Value
 | []=>[]
 |d::r=>gv d++gvL r
end
section
variable{H:Type}{enc:TypeId×Value->H}{P:Program}{w:World}{base:Nat}{sp:Nat->Bool}{held:Bool}
def Told(enc:TypeId×Value->H)(P:Program)(w:World)(base:Nat)(sp:Nat->Bool)(held:Bool)(e:TypeId):Prop:=∀(fuel:Nat)(cs:List Value)(x:DataW H×List MemPlace),DataW.trod enc P w base sp held fuel e cs=some x->cs=gv x.1
theorem aaS{e:TypeId}{k:IntKind}(he:P.underlying e=some (.int k)):Told enc P w base sp held e:=fun fuel cs x h=>by obtain⟨z,rfl,rfl,_⟩:=DataW.trod_int he h;rfl
theorem amM{e f:TypeId}{F0 F1:Field}(hu:P.underlying e=some (.struct #[F0,F1]))(h0:F0.offset=0)(h1:F1.offset=1)(hf0:F0.type=f)(hf1:F1.type=f)(hc:P.cellsOf e=2)(hcf:P.cellsOf f=1)(hf:Told enc P w base sp held f):Told enc P w base sp held e:=fun fuel cs x h=>by
 obtain⟨xs,m,_,rfl,hlen,hxl,hget⟩:=DataW.trod_struct hu h;rw[hc]at hlen;match cs,hlen with
 | [a,b],_=>
   have hx2:xs.length=2:=hxl;match xs,hx2 with
   | [u,v],_=>
     have g0:=hget 0 F0 rfl;have g1:=hget 1 F1 rfl;rw[h0,hf0,hcf]at g0;rw[h1,hf1,hcf]at g1;have e0:=hf _ _ _ g0;have e1:=hf _ _ _ g1;show [a,b]=gv u.1++(gv v.1++[]);rw[←e0,←e1];rfl
theorem afW{n s:Nat}:∀{ds:List (DataW H)}{cs:List Value},cs.length=ds.length*s->(∀i D,ds[i]? =some D->(cs.drop (i*s)).take s=gv D)->cs=gvL ds
 | [],cs,hl,_=>by have:cs=[]:=List.eq_nil_of_length_eq_zero (by simpa using hl);subst this;rfl
 | d::r,cs,hl,h=>by
   have h0:=h 0 d rfl;rw[Nat.zero_mul,aF]at h0;have hl':cs.length=r.length*s+s:=by rw[hl,List.length_cons,Nat.succ_mul]
   have ih:=afW (n:=n) (s:=s) (ds:=r) (cs:=cs.drop s) (by rw[List.length_drop];omega) fun i D hD=>by have:=h (i+1) D (by simpa using hD);rw[List.drop_drop,show s+i*s=(i+1)*s by rw[Nat.succ_mul];omega];exact this
   show cs=gv d++gvL r;rw[←h0,←ih,List.take_append_drop]
theorem aaT{t e:TypeId}{n:Nat}(ht:P.underlying t=some (.array n e))(hct:P.cellsOf t=n*P.cellsOf e)(he:Told enc P w base sp held e):Told enc P w base sp held t:=fun fuel cs x h=>by
 cases fuel with
 |zero=>simp[DataW.trod]at h
 |succ fuel=>
  simp only[DataW.trod,ht]at h;split at h
  ·rename_i hl;obtain⟨xs,hm,rfl⟩:=aY.1 h;have hxl:xs.length=n:=by simpa using Lib.mapM_length hm
   show cs=gvL (xs.map (·.1));refine afW (n:=n) (s:=P.cellsOf e) (by rw[List.length_map,hxl];omega) fun i D hD=>?_;rw[List.getElem?_map]at hD;obtain⟨y,hy,rfl⟩:=aY.1 hD;have hi:i<n:=by rw[←hxl];exact(aA.1 hy).1
   obtain⟨b,hb,hf⟩:=Lib.mapM_at hm i i (by simp[hi]);rw[hy]at hb;cases hb;exact he _ _ _ hf
  ·cases h
end
theorem DC{P:Program}{W:World}:∀{l:List (String×DataW Unit)}{ps:List MemPlace}{name:String}{d:DataW Unit}{g:Nat}{t:TypeId},DataW.LaidVars P W l ps->(name,d)∈l->P.globalNamed name=some g->(P.globals[g]?).map (·.type)=some t->Told (fun _=>()) P W 0 (fun _=>true) false t->
  W.var? P name=some (gv d).toArray
 | [],ps,name,d,g,t,_,hm,_,_,_=>by cases hm
 |(n,d')::r,ps,name,d,g,t,h,hm,hg,hty,ht=>by
  obtain⟨g',t',cs,fuel,p,q,hg',ht',hvar,hd,hr,rfl⟩:=h;rcases List.mem_cons.1 hm with e|hm
  ·cases e;obtain rfl:=Option.some.inj (hg.symm.trans hg');obtain rfl:=Option.some.inj (hty.symm.trans ht');have:=ht _ _ _ hd;rw[hvar,←this]
  ·exact DC hr hm hg hty ht
theorem IL{P:Program}{W:World}{name:String}{g:Nat}{cs:Array Value}(hg:P.globalNamed name=some g)(h:W.var? P name=some cs):∃(T:TypeId)(fr:Nat×Nat),W.heap[g]? =some (.cells cs T fr):=by
 unfold World.var? at h;rw[hg]at h;simp only[ah]at h;cases hb:W.heap[g]? with
 |none=>rw[hb]at h;simp at h
 |some o=>
  rw[hb]at h;cases o with
  |cells c T fr=>simp only[aD]at h;subst h;exact⟨T,fr,rfl⟩
  |_=>simp at h
theorem apm{W:World}{g:Nat}{cs:List Value}(h:∃(T:TypeId)(fr:Nat×Nat),W.heap[g]? =some (.cells cs.toArray T fr)):g<W.heap.size∧∃(T:TypeId)(fr:Nat×Nat),W.heap[g]? =some (.cells cs.toArray T fr):=by refine⟨?_,h⟩;obtain⟨T,fr,h⟩:=h;exact(Array.getElem?_eq_some_iff.1 h).1
noncomputable def afX:List (String×DataW Unit):=[("unicode/utf8.acceptRanges",Rows.laid_unicode_utf8_acceptRanges),("unicode/utf8.first",Rows.laid_unicode_utf8_first)]
noncomputable def axn:List (String×DataW Unit×Nat):=[("unicode/utf8.first",Rows.laid_unicode_utf8_first,1),("unicode/utf8.acceptRanges",Rows.laid_unicode_utf8_acceptRanges,2)]
set_option maxRecDepth 100000 in
theorem apn:tabs=axn.map fun q=>(q.2.2,gv q.2.1):=by kernel_rfl
section
variable{W:World}
theorem adL:Told (fun _=>()) Tryz.prog W 0 (fun _=>true) false 169:=aaT Tryz.underlying169 (by kernel_rfl) (aaS Tryz.underlying5)
theorem amN:Told (fun _=>()) Tryz.prog W 0 (fun _=>true) false 172:=aaT Tryz.underlying172 (by kernel_rfl) (amM (f:=5) Tryz.underlying171 rfl rfl rfl rfl (by kernel_rfl) (by kernel_rfl) (aaS Tryz.underlying5))
set_option maxRecDepth 100000 in
theorem amO(h:laidMetH Tryz.prog afX W):TabOK (fun b=>b<W.heap.size) W:=by
 rw[Go.MakeChecks.laidMetH_plain _ _ _ (by kernel_rfl)]at h;obtain⟨ps,hl,_⟩:=h;refine⟨?_,fun g hg=>by have hg':g∈([]:List Nat):=hg;cases hg'⟩;intro t ht;rw[apn]at ht;obtain⟨q,hq,rfl⟩:=List.mem_map.1 ht;have key:∃(T:TypeId)(fr:Nat×Nat),W.heap[q.2.2]? =some (.cells (gv q.2.1).toArray T fr):=by
  have hq':q∈[("unicode/utf8.first",Rows.laid_unicode_utf8_first,1),("unicode/utf8.acceptRanges",Rows.laid_unicode_utf8_acceptRanges,2)]:=hq;rcases List.mem_cons.1 hq' with rfl|hq';·exact IL (by kernel_rfl) (DC hl (g:=1) (t:=169) (.tail _ (.head _)) (by kernel_rfl) (by kernel_rfl) adL)
  rcases List.mem_cons.1 hq' with rfl|hq';·exact IL (by kernel_rfl) (DC hl (g:=2) (t:=172) (.head _) (by kernel_rfl) (by kernel_rfl) amN)
  cases hq'
 exact apm key
end
noncomputable def AB(os:Os):World:=
 let w0:=World.holding Tryz.prog os ⟨#[],#[],[]⟩
 let put (h:Array Obj) (g:Nat) (cs:List Value):Array Obj:=h.modify g fun
  | .cells _ t frozen=> .cells cs.toArray t frozen
  |o=>o
 let h1:=put w0.heap 2 (gv (H:=Unit) Rows.laid_unicode_utf8_acceptRanges)
 let h2:=put h1 1 (gv Rows.laid_unicode_utf8_first)
 {w0 with heap:=h2}
set_option maxRecDepth 100000 in
theorem ahC(os:Os)(args:Array Value):laidMet Tryz.prog afX ((AB os).forCall (fun _ _=>0) ⟨#[],args,[]⟩).memory:=
 (LaidIn.of_run (l:=afX) [2,1] 8 (by kernel_rfl) (by kernel_rfl) (by kernel_rfl) (by kernel_rfl)).met
