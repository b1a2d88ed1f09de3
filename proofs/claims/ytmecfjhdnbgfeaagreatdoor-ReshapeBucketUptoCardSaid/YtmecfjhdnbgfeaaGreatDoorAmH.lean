/- The abstract machine, part 2: operations that leave memory as it is.
The abstract machine,part 3:boxes (variables in memory),their fields,loads and stores;pointers into plain data.
The abstract machine,part 4:rows (slices that the call owns):read,written,turned into plain data. -/
import Derived.Test.YtmecfjhdnbgfeaaGreatDoorAm1
import Derived.Maps.AppendAt
set_option linter.unusedVariables false
set_option linter.unusedSimpArgs false
namespace Go.Am
open Go.RowKit
def bn (P:Program) (n:Nat) (o:Oper) (σ σ':St):Prop:=
 ∀  (ok0:OkX) (w0:World) (a:Act) (w:World),Rel P ok0 w0 n σ a w→∀(K:Act→World→Prop) (Q:Exit→Act→World→Prop),
    (∀a' w',Rel P ok0 w0 n σ' a' w'→K a' w')→o.wp P a w K Q
def Ev (P:Program) (σ:St) (x:Operand) (v:AV):Prop:=
 ∀(ok0:OkX) (w0:World) (n:Nat) (a:Act) (w:World) (β:Nat→Option Value),RelB P ok0 w0 n σ a w β→RV P (okOf ok0 w0 w σ.hs β) w β v (a.eval x)
section
variable {P:Program} {n:Nat} {o:Oper} {σ σ':St} {x y:Operand} {v:AV} {T:TypeId}
theorem Ev.tmp {t:Nat} (h:tk σ.ts t=v):Ev P σ (.tmp t) v:=fun _ _ _ _ _ _ r=>h▸r.ts t
theorem bJ {d:TypeDesc} (hu:P.underlying T=some d) (hd:d.isRow=false):bW P T=false:=by
 unfold bW
 rw[hu]
 cases d<;>simp_all
theorem tC {fs:Array Field} (hu:P.underlying T=some (.struct fs)):bW P T=true:=by
 unfold bW
 rw[hu]
theorem ND {m:Nat} {E:TypeId} (hu:P.underlying T=some (.array m E)):bW P T=true:=by
 unfold bW
 rw[hu]
theorem RV.dat_one {ok:Nat→Prop} {w:World} {β:Nat→Option Value} {d:Dt} {x:Value} (hu:bW P T=false):RV P ok w β (.dat T d) x↔RD P ok w T d [x]:=by
 constructor
 ·intro h
  have:=h.2 (by simpa [AV.isAgg] using hu)
  cases this with
  |dat h=>exact h
 ·intro h
  exact⟨fun hi=>by simp[AV.isAgg,hu] at hi,fun _=> .dat h⟩
theorem RV.dat_agg {ok:Nat→Prop} {w:World} {β:Nat→Option Value} {d:Dt} {x:Value} (hu:bW P T=true):RV P ok w β (.dat T d) x↔∃cs:List Value,x= .agg cs.toArray∧RD P ok w T d cs:=by
 constructor
 ·intro h
  obtain⟨cs,e,h⟩:=h.1 (by simpa [AV.isAgg] using hu)
  cases h with
  |dat h=>exact⟨cs,e,h⟩
 ·rintro⟨cs,e,h⟩
  exact⟨fun _=>⟨cs,e,.dat h⟩,fun hi=>by simp[AV.isAgg,hu] at hi⟩
section
variable {ok:Nat→Prop} {w:World} {β:Nat→Option Value} {d:Dt} {x:Value}
theorem RV.int {k:IntKind} (hu:P.underlying T=some (.int k)) (h:RV P ok w β (.dat T d) x):d= .int d.toInt∧x= .int k d.toInt∧k.min≤d.toInt∧d.toInt≤k.max:=by
 have h':=(RV.dat_one (bJ hu rfl)).1 h
 obtain⟨h1,h2,h3⟩:=h'.int_inv hu
 exact⟨h1,by simpa using h2,h3⟩
theorem RV.bool (hu:P.underlying T=some .bool) (h:RV P ok w β (.dat T d) x):d= .bool d.toBool∧x= .bool d.toBool:=by
 have h':=(RV.dat_one (bJ hu rfl)).1 h
 obtain⟨h1,h2⟩:=h'.bool_inv hu
 exact⟨h1,by simpa using h2⟩
theorem RV.str (hu:P.underlying T=some .string) (h:RV P ok w β (.dat T d) x):d= .str d.toStr∧x= .string d.toStr∧d.toStr.size≤maxLen:=by
 have h':=(RV.dat_one (bJ hu rfl)).1 h
 obtain⟨h1,h2,h3⟩:=h'.str_inv hu
 exact⟨h1,by simpa using h2,h3⟩
theorem RV.mk_int {k:IntKind} {m:Int} (hu:P.underlying T=some (.int k)) (h1:k.min≤m) (h2:m≤k.max):RV P ok w β (.dat T (.int m)) (.int k m):=
 (RV.dat_one (bJ hu rfl)).2 (.int hu h1 h2)
theorem RV.mk_bool {b:Bool} (hu:P.underlying T=some .bool):RV P ok w β (.dat T (.bool b)) (.bool b):=
 (RV.dat_one (bJ hu rfl)).2 (.bool hu)
theorem RV.mk_str {s:ByteArray} (hu:P.underlying T=some .string) (hs:s.size≤maxLen):RV P ok w β (.dat T (.str s)) (.string s):=
 (RV.dat_one (bJ hu rfl)).2 (.str hu hs)
theorem RV.lst {E:TypeId} (hu:P.underlying T=some (.slice E)) (h:RV P ok w β (.dat T d) x):d= .lst d.toLst∧RD P ok w T d [x]∧∃(a:Option Addr) (cap:Nat),x= .slice a d.toLst.length cap∧d.toLst.length≤cap∧cap≤maxLen:=by
 have h':=(RV.dat_one (bJ hu rfl)).1 h
 obtain⟨h1,a,cap,ad,g,h2,h3,h4,_⟩:=h'.lst_inv hu
 exact⟨h1,h',a,cap,by simpa using h2,h3,h4⟩
end
theorem Ev.int {k:IntKind} {m:Int} (hu:P.underlying T=some (.int k)) (h1:k.min≤m) (h2:m≤k.max):Ev P σ (.const (.int k m)) (.dat T (.int m)):=
 fun _ _ _ _ _ _ _=>RV.mk_int hu h1 h2
theorem Ev.bool {b:Bool} (hu:P.underlying T=some .bool):Ev P σ (.const (.bool b)) (.dat T (.bool b)):=fun _ _ _ _ _ _ _=>RV.mk_bool hu
theorem Ev.str {s:ByteArray} (hu:P.underlying T=some .string) (hs:s.size≤maxLen):Ev P σ (.const (.string s)) (.dat T (.str s)):=fun _ _ _ _ _ _ _=>RV.mk_str hu hs
theorem Ev.fn {f:FuncId}:Ev P σ (.func f) (.fn f []):=fun _ _ _ _ _ _ _=>⟨fun h=>by simp[AV.isAgg] at h,fun _=> .fn (cv:= #[]) rfl fun i av h=>by simp at h⟩
theorem RD.nil {ok:Nat→Prop} {w:World} {E:TypeId} (hu:P.underlying T=some (.slice E)):RD P ok w T (.lst []) [.slice none 0 0]:=
 .lst ⟨0,0,none⟩ (fun _=>[]) hu rfl (Nat.le_refl _) (by unfold maxLen;omega) (fun h=>by omega) (fun i h=>by omega) (fun i d h=>by simp at h)
theorem Ev.nil {E:TypeId} (hu:P.underlying T=some (.slice E)):Ev P σ (.const (.slice none 0 0)) (.dat T (.lst [])):=
 fun _ _ _ _ _ _ _=>(RV.dat_one (bJ hu rfl)).2 (RD.nil hu)
theorem Ev.nils:Ev P σ (.const (.slice none 0 0)) (.nils T):=fun _ _ _ _ _ _ _=>⟨fun hi=>by simp[AV.isAgg] at hi,fun _=> .nils⟩
theorem Ev.zero {d:Dt} {fs:Array Field} {cs:List Value} (hu:P.underlying T=some (.struct fs)) (h:∀(ok:Nat→Prop) (w:World),RD P ok w T d cs):Ev P σ (.const (.agg cs.toArray)) (.dat T d):=
 fun _ _ _ _ _ _ _=>(RV.dat_agg (tC hu)).2 ⟨cs,rfl,h _ _⟩
theorem Ev.cint {k:IntKind} {d:Dt} (h:Ev P σ x (.dat T d)) (hu:P.underlying T=some (.int k)):Ev P σ x (.dat T (.int d.toInt)):=fun ok0 w0 n a w β r=>by
 have:=h ok0 w0 n a w β r
 have e:=(RV.int hu this).1
 rw[e] at this
 exact this
theorem Ev.cbool {d:Dt} (h:Ev P σ x (.dat T d)) (hu:P.underlying T=some .bool):Ev P σ x (.dat T (.bool d.toBool)):=fun ok0 w0 n a w β r=>by
 have:=h ok0 w0 n a w β r
 have e:=(RV.bool hu this).1
 rw[e] at this
 exact this
theorem Ev.cstr {d:Dt} (h:Ev P σ x (.dat T d)) (hu:P.underlying T=some .string):Ev P σ x (.dat T (.str d.toStr)):=fun ok0 w0 n a w β r=>by
 have:=h ok0 w0 n a w β r
 have e:=(RV.str hu this).1
 rw[e] at this
 exact this
theorem Ev.clst {E:TypeId} {d:Dt} (h:Ev P σ x (.dat T d)) (hu:P.underlying T=some (.slice E)):Ev P σ x (.dat T (.lst d.toLst)):=fun ok0 w0 n a w β r=>by
 have:=h ok0 w0 n a w β r
 have e:=(RV.lst hu this).1
 rw[e] at this
 exact this
theorem aG {d:Nat} (hd:o.dst=some d) (hn:d<n)
  (h:∀(ok0:OkX) (w0:World) (a:Act) (w:World) (β:Nat→Option Value),RelB P ok0 w0 n σ a w β→∃z,(execOp a.eval o).run P w= .ok (.value z) w∧RV P (okOf ok0 w0 w σ.hs β) w β v z):
  bn P n o σ (σ.put d v):=by
 rintro ok0 w0 a w ⟨β,r⟩ K Q hK
 obtain⟨z,hz,hv⟩:=h ok0 w0 a w β r
 unfold Oper.wp
 rw[hz,Oper.upon_value,hd]
 exact hK _ _ (Rel.put r hn hv)
theorem aj4 {d:Nat} (ho:o.op= .move x) (hd:o.dst=some d) (hn:d<n) (hx:Ev P σ x v):bn P n o σ (σ.put d v):=
 aG hd hn fun ok0 w0 a w β r=>⟨a.eval x,by simp[execOp,ho],hx _ _ _ _ _ _ r⟩
theorem adv {d:Nat} (ho:o.op= .assign x) (hd:o.dst=some d) (hn:d<n) (hx:Ev P σ x v):bn P n o σ (σ.put d v):=
 aG hd hn fun ok0 w0 a w β r=>⟨a.eval x,by simp[execOp,ho],hx _ _ _ _ _ _ r⟩
theorem TP {c z:Operand} {d:Nat} {TB:TypeId} (ho:o.op= .pick c x z) (hd:o.dst=some d) (hn:d<n) (hu:P.underlying TB=some .bool) (hc:Ev P σ c (.dat TB (.bool true))) (hx:Ev P σ x v):bn P n o σ (σ.put d v):=
 aG hd hn fun ok0 w0 a w β r=>⟨a.eval x,by
  have e:=(RV.bool hu (hc _ _ _ _ _ _ r)).2
  simp[execOp,ho,e,Dt.toBool,asBool],hx _ _ _ _ _ _ r⟩
theorem PW {c z:Operand} {d:Nat} {TB:TypeId} (ho:o.op= .pick c z x) (hd:o.dst=some d) (hn:d<n) (hu:P.underlying TB=some .bool) (hc:Ev P σ c (.dat TB (.bool false))) (hx:Ev P σ x v):bn P n o σ (σ.put d v):=
 aG hd hn fun ok0 w0 a w β r=>⟨a.eval x,by
  have e:=(RV.bool hu (hc _ _ _ _ _ _ r)).2
  simp[execOp,ho,e,Dt.toBool,asBool],hx _ _ _ _ _ _ r⟩
theorem amQ {d:Nat} {b:Bool} {T':TypeId} (ho:o.op= .unOp .not T' x) (hd:o.dst=some d) (hn:d<n) (hu:P.underlying T=some .bool) (hx:Ev P σ x (.dat T (.bool b))):bn P n o σ (σ.put d (.dat T (.bool (!b)))):=
 aG hd hn fun ok0 w0 a w β r=>⟨.bool (!b),by
  have e:=(RV.bool hu (hx _ _ _ _ _ _ r)).2
  simp[execOp,ho,e,Dt.toBool,Op.unary],RV.mk_bool hu⟩
theorem eH (k:IntKind) (m:Int):k.min≤k.wrap m∧k.wrap m≤k.max:=by
 cases k<;>simp only[IntKind.wrap,IntKind.min,IntKind.max,IntKind.bits,IntKind.signed]<;>simp<;>(try split)<;>omega
theorem gL {d:Nat} {k:IntKind} {op:BinOp} {T1 T2 T3 T4:TypeId} {p q:Int} {z:Value} (ho:o.op= .binOp op T1 x y T2) (hd:o.dst=some d) (hn:d<n)
  (hu:P.underlying T3=some (.int k)) (hu':P.underlying T4=some (.int k)) (hx:Ev P σ x (.dat T3 (.int p))) (hy:Ev P σ y (.dat T4 (.int q)))
  (hz:∀w,k.min≤p→p≤k.max→k.min≤q→q≤k.max→(binOp op T1 (.int k p) (.int k q)).run P w= .ok z w) (hv:∀(ok:Nat→Prop) (w:World) (β:Nat→Option Value),RV P ok w β v z):bn P n o σ (σ.put d v):=
 aG hd hn fun ok0 w0 a w β r=>by
  obtain⟨_,e1,b1,b2⟩:=RV.int hu (hx _ _ _ _ _ _ r)
  obtain⟨_,e2,b3,b4⟩:=RV.int hu' (hy _ _ _ _ _ _ r)
  simp only[Dt.toInt] at e1 e2 b1 b2 b3 b4
  refine⟨z,?_,hv _ _ _⟩
  have:=hz w b1 b2 b3 b4
  unfold execOp
  simp only[ho,e1,e2]
  rw[Sem.run_bind]
  have hg:(eqGuard op T1 x y (.int k p) (.int k q)).run P w= .ok () w:=by
   unfold eqGuard
   cases op<;>simp
  simp[Sem.run_bind,hg,this]
theorem amR {d:Nat} {k:IntKind} {T1 T2 T3 T4:TypeId} {p q:Int} (ho:o.op= .binOp .add T1 x y T2) (hd:o.dst=some d) (hn:d<n)
  (hu:P.underlying T3=some (.int k)) (hu':P.underlying T4=some (.int k)) (hx:Ev P σ x (.dat T3 (.int p))) (hy:Ev P σ y (.dat T4 (.int q))):bn P n o σ (σ.put d (.dat T3 (.int (k.wrap (p+q))))):=
 gL ho hd hn hu hu' hx hy (fun w _ _ _ _=>by simp[binOp,Op.intArith]) fun _ _ _=>RV.mk_int hu (eH k _).1 (eH k _).2
theorem amS {d:Nat} {k:IntKind} {T1 T2 T3 T4:TypeId} {p q:Int} (ho:o.op= .binOp .sub T1 x y T2) (hd:o.dst=some d) (hn:d<n)
  (hu:P.underlying T3=some (.int k)) (hu':P.underlying T4=some (.int k)) (hx:Ev P σ x (.dat T3 (.int p))) (hy:Ev P σ y (.dat T4 (.int q))):bn P n o σ (σ.put d (.dat T3 (.int (k.wrap (p-q))))):=
 gL ho hd hn hu hu' hx hy (fun w _ _ _ _=>by simp[binOp,Op.intArith]) fun _ _ _=>RV.mk_int hu (eH k _).1 (eH k _).2
theorem amT {d:Nat} {k:IntKind} {T1 T2 T3 T4:TypeId} {p q:Int} (ho:o.op= .binOp .mul T1 x y T2) (hd:o.dst=some d) (hn:d<n)
  (hu:P.underlying T3=some (.int k)) (hu':P.underlying T4=some (.int k)) (hx:Ev P σ x (.dat T3 (.int p))) (hy:Ev P σ y (.dat T4 (.int q))):bn P n o σ (σ.put d (.dat T3 (.int (k.wrap (p*q))))):=
 gL ho hd hn hu hu' hx hy (fun w _ _ _ _=>by simp[binOp,Op.intArith]) fun _ _ _=>RV.mk_int hu (eH k _).1 (eH k _).2
theorem amU {d:Nat} {k:IntKind} {T1 T2 T3 T4:TypeId} {p q:Int} (ho:o.op= .binOp .quo T1 x y T2) (hd:o.dst=some d) (hn:d<n)
  (hu:P.underlying T3=some (.int k)) (hu':P.underlying T4=some (.int k)) (hx:Ev P σ x (.dat T3 (.int p))) (hy:Ev P σ y (.dat T4 (.int q))) (hq:q≠0):bn P n o σ (σ.put d (.dat T3 (.int (k.wrap (p.tdiv q))))):=
 gL ho hd hn hu hu' hx hy (fun w _ _ _ _=>by simp[binOp,Op.intDiv,hq]) fun _ _ _=>RV.mk_int hu (eH k _).1 (eH k _).2
theorem ab0 (k:IntKind) (p q:Int) (h1:k.min≤p) (h2:p≤k.max):k.min≤p.tmod q∧p.tmod q≤k.max:=by
 have h0:k.min≤0∧0≤k.max:=by cases k<;>simp[IntKind.min,IntKind.max,IntKind.signed,IntKind.bits]
 rcases Int.le_total 0 p with hp|hp
 ·have a1:=Int.tmod_nonneg q hp
  have a2:p.tmod q≤p:=by
   have:=Int.natAbs_tmod p q
   have h3:p.natAbs%q.natAbs≤p.natAbs:=Nat.mod_le _ _
   omega
  omega
 ·have a1:p.tmod q≤0:=by
   have:=Int.tmod_nonneg q (a:= -p) (by omega)
   rw[Int.neg_tmod] at this
   omega
  have a2:p≤p.tmod q:=by
   have:=Int.natAbs_tmod p q
   have h3:p.natAbs%q.natAbs≤p.natAbs:=Nat.mod_le _ _
   omega
  omega
theorem amV {d:Nat} {k:IntKind} {T1 T2 T3 T4:TypeId} {p q:Int} (ho:o.op= .binOp .rem T1 x y T2) (hd:o.dst=some d) (hn:d<n)
  (hu:P.underlying T3=some (.int k)) (hu':P.underlying T4=some (.int k)) (hx:Ev P σ x (.dat T3 (.int p))) (hy:Ev P σ y (.dat T4 (.int q))) (hq:q≠0):bn P n o σ (σ.put d (.dat T3 (.int (p.tmod q)))):=
 aG hd hn fun ok0 w0 a w β r=>by
  obtain⟨_,e1,b1,b2⟩:=RV.int hu (hx _ _ _ _ _ _ r)
  obtain⟨_,e2,b3,b4⟩:=RV.int hu' (hy _ _ _ _ _ _ r)
  simp only[Dt.toInt] at e1 e2 b1 b2 b3 b4
  refine⟨.int k (p.tmod q),?_,RV.mk_int hu (ab0 k p q b1 b2).1 (ab0 k p q b1 b2).2⟩
  simp[execOp,ho,e1,e2,eqGuard,binOp,Op.intDiv,hq]
def andI (k:IntKind) (a b:Int):Int:=k.wrap (BitVec.ofInt k.bits a&&& BitVec.ofInt k.bits b).toNat
def orI (k:IntKind) (a b:Int):Int:=k.wrap (BitVec.ofInt k.bits a|||BitVec.ofInt k.bits b).toNat
def xorI (k:IntKind) (a b:Int):Int:=k.wrap (BitVec.ofInt k.bits a^^^BitVec.ofInt k.bits b).toNat
def bicI (k:IntKind) (a b:Int):Int:=k.wrap (BitVec.ofInt k.bits a&&& ~~~BitVec.ofInt k.bits b).toNat
def shlI (k:IntKind) (a:Int) (n:Int):Int:=k.wrap (a*2^(Nat.min n.toNat k.bits))
def shrI (k:IntKind) (a:Int) (n:Int):Int:=a.fdiv (2^(Nat.min n.toNat k.bits))
theorem amW {d:Nat} {k:IntKind} {T1 T2 T3 T4:TypeId} {p q:Int} (ho:o.op= .binOp .and T1 x y T2) (hd:o.dst=some d) (hn:d<n)
  (hu:P.underlying T3=some (.int k)) (hu':P.underlying T4=some (.int k)) (hx:Ev P σ x (.dat T3 (.int p))) (hy:Ev P σ y (.dat T4 (.int q))):bn P n o σ (σ.put d (.dat T3 (.int (andI k p q)))):=
 gL ho hd hn hu hu' hx hy (fun w _ _ _ _=>by simp[binOp,Op.intBits,andI]) fun _ _ _=>RV.mk_int hu (eH k _).1 (eH k _).2
theorem aqp {d:Nat} {k:IntKind} {T1 T2 T3 T4:TypeId} {p q:Int} (ho:o.op= .binOp .or T1 x y T2) (hd:o.dst=some d) (hn:d<n)
  (hu:P.underlying T3=some (.int k)) (hu':P.underlying T4=some (.int k)) (hx:Ev P σ x (.dat T3 (.int p))) (hy:Ev P σ y (.dat T4 (.int q))):bn P n o σ (σ.put d (.dat T3 (.int (orI k p q)))):=
 gL ho hd hn hu hu' hx hy (fun w _ _ _ _=>by simp[binOp,Op.intBits,orI]) fun _ _ _=>RV.mk_int hu (eH k _).1 (eH k _).2
theorem amX {d:Nat} {k:IntKind} {T1 T2 T3 T4:TypeId} {p q:Int} (ho:o.op= .binOp .xor T1 x y T2) (hd:o.dst=some d) (hn:d<n)
  (hu:P.underlying T3=some (.int k)) (hu':P.underlying T4=some (.int k)) (hx:Ev P σ x (.dat T3 (.int p))) (hy:Ev P σ y (.dat T4 (.int q))):bn P n o σ (σ.put d (.dat T3 (.int (xorI k p q)))):=
 gL ho hd hn hu hu' hx hy (fun w _ _ _ _=>by simp[binOp,Op.intBits,xorI]) fun _ _ _=>RV.mk_int hu (eH k _).1 (eH k _).2
theorem amY {d:Nat} {k:IntKind} {T1 T2 T3 T4:TypeId} {p q:Int} (ho:o.op= .binOp .andNot T1 x y T2) (hd:o.dst=some d) (hn:d<n)
  (hu:P.underlying T3=some (.int k)) (hu':P.underlying T4=some (.int k)) (hx:Ev P σ x (.dat T3 (.int p))) (hy:Ev P σ y (.dat T4 (.int q))):bn P n o σ (σ.put d (.dat T3 (.int (bicI k p q)))):=
 gL ho hd hn hu hu' hx hy (fun w _ _ _ _=>by simp[binOp,Op.intBits,bicI]) fun _ _ _=>RV.mk_int hu (eH k _).1 (eH k _).2
theorem ahJ (k:IntKind) (a n:Int) (h1:k.min≤a) (h2:a≤k.max):k.min≤shrI k a n∧shrI k a n≤k.max:=by
 have h0:k.min≤0∧0≤k.max:=by cases k<;>simp[IntKind.min,IntKind.max,IntKind.signed,IntKind.bits]
 unfold shrI
 have hp:(1:Int)≤2^(Nat.min n.toNat k.bits):=by
  have:0<2^(Nat.min n.toNat k.bits):=Nat.pow_pos (by omega)
  have h:((2^(Nat.min n.toNat k.bits):Nat):Int)=(2:Int)^(Nat.min n.toNat k.bits):=by simp
  omega
 generalize (2:Int)^(Nat.min n.toNat k.bits)=c at hp
 have hd:=Int.mul_fdiv_add_fmod a c
 have hm:=Int.fmod_nonneg_of_pos a (b:=c) (by omega)
 have hm2:=Int.fmod_lt_of_pos a (b:=c) (by omega)
 generalize a.fdiv c=t at hd
 generalize a.fmod c=u at*
 rcases Int.le_total 0 a with ha|ha
 ·have ht:0≤t:=by
   rcases Int.le_total 0 t with h|h
   ·exact h
   ·    rcases Int.lt_or_le t 0 with h4|h4
        ·have:=Int.mul_le_mul_of_nonneg_left (show t≤ -1 by omega) (show (0:Int)≤c by omega)
         omega
        ·exact h4
  have:=Int.mul_le_mul_of_nonneg_right hp ht
  omega
 ·have ht:t≤0:=by
   rcases Int.le_total t 0 with h|h
   ·exact h
   ·    rcases Int.lt_or_le 0 t with h4|h4
        ·have:=Int.mul_le_mul_of_nonneg_left (show 1≤t by omega) (show (0:Int)≤c by omega)
         omega
        ·exact h4
  have h3:=Int.mul_le_mul_of_nonpos_right hp ht
  refine⟨?_,by omega⟩
  rcases Int.lt_or_le t a with h|h
  ·exfalso
   have:=Int.mul_le_mul_of_nonneg_left (show t≤a-1 by omega) (show (0:Int)≤c by omega)
   have h5:=Int.mul_le_mul_of_nonpos_right hp ha
   rw[Int.mul_sub,Int.mul_one] at this
   omega
  ·omega
theorem alc {d:Nat} {k k':IntKind} {T1 T2 T3 T4:TypeId} {p q:Int} {op:BinOp} {z:Int} (ho:o.op= .binOp op T1 x y T2) (hd:o.dst=some d) (hn:d<n)
  (hu:P.underlying T3=some (.int k)) (hu':P.underlying T4=some (.int k')) (hx:Ev P σ x (.dat T3 (.int p))) (hy:Ev P σ y (.dat T4 (.int q))) (hq:0≤q) (hop:(op= .shl∧z=shlI k p q)∨(op= .shr∧z=shrI k p q)):bn P n o σ (σ.put d (.dat T3 (.int z))):=
 aG hd hn fun ok0 w0 a w β r=>by
  obtain⟨_,e1,b1,b2⟩:=RV.int hu (hx _ _ _ _ _ _ r)
  obtain⟨_,e2,b3,b4⟩:=RV.int hu' (hy _ _ _ _ _ _ r)
  simp only[Dt.toInt] at e1 e2 b1 b2 b3 b4
  have hq':¬q<0:=by omega
  rcases hop with⟨rfl,rfl⟩| ⟨rfl,rfl⟩
  ·exact⟨.int k (shlI k p q),by simp[execOp,ho,e1,e2,eqGuard,binOp,Op.shift,hq',shlI],RV.mk_int hu (eH k _).1 (eH k _).2⟩
  ·exact⟨.int k (shrI k p q),by simp[execOp,ho,e1,e2,eqGuard,binOp,Op.shift,hq',shrI],RV.mk_int hu (ahJ k p q b1 b2).1 (ahJ k p q b1 b2).2⟩
theorem amZ {d:Nat} {k:IntKind} {T1 T2 T3 T4 TB:TypeId} {p q:Int} (ho:o.op= .binOp .lss T1 x y T2) (hd:o.dst=some d) (hn:d<n) (hb:P.underlying TB=some .bool)
  (hu:P.underlying T3=some (.int k)) (hu':P.underlying T4=some (.int k)) (hx:Ev P σ x (.dat T3 (.int p))) (hy:Ev P σ y (.dat T4 (.int q))):bn P n o σ (σ.put d (.dat TB (.bool (decide (p<q))))):=
 gL ho hd hn hu hu' hx hy (fun w _ _ _ _=>by simp[binOp,Op.intCmp]) fun _ _ _=>RV.mk_bool hb
theorem am0 {d:Nat} {k:IntKind} {T1 T2 T3 T4 TB:TypeId} {p q:Int} (ho:o.op= .binOp .leq T1 x y T2) (hd:o.dst=some d) (hn:d<n) (hb:P.underlying TB=some .bool)
  (hu:P.underlying T3=some (.int k)) (hu':P.underlying T4=some (.int k)) (hx:Ev P σ x (.dat T3 (.int p))) (hy:Ev P σ y (.dat T4 (.int q))):bn P n o σ (σ.put d (.dat TB (.bool (decide (p≤q))))):=
 gL ho hd hn hu hu' hx hy (fun w _ _ _ _=>by simp[binOp,Op.intCmp]) fun _ _ _=>RV.mk_bool hb
theorem am1 {d:Nat} {k:IntKind} {T1 T2 T3 T4 TB:TypeId} {p q:Int} (ho:o.op= .binOp .gtr T1 x y T2) (hd:o.dst=some d) (hn:d<n) (hb:P.underlying TB=some .bool)
  (hu:P.underlying T3=some (.int k)) (hu':P.underlying T4=some (.int k)) (hx:Ev P σ x (.dat T3 (.int p))) (hy:Ev P σ y (.dat T4 (.int q))):bn P n o σ (σ.put d (.dat TB (.bool (decide (q<p))))):=
 gL ho hd hn hu hu' hx hy (fun w _ _ _ _=>by simp[binOp,Op.intCmp]) fun _ _ _=>RV.mk_bool hb
theorem am2 {d:Nat} {k:IntKind} {T1 T2 T3 T4 TB:TypeId} {p q:Int} (ho:o.op= .binOp .geq T1 x y T2) (hd:o.dst=some d) (hn:d<n) (hb:P.underlying TB=some .bool)
  (hu:P.underlying T3=some (.int k)) (hu':P.underlying T4=some (.int k)) (hx:Ev P σ x (.dat T3 (.int p))) (hy:Ev P σ y (.dat T4 (.int q))):bn P n o σ (σ.put d (.dat TB (.bool (decide (q≤p))))):=
 gL ho hd hn hu hu' hx hy (fun w _ _ _ _=>by simp[binOp,Op.intCmp]) fun _ _ _=>RV.mk_bool hb
theorem am3 {d:Nat} {k:IntKind} {T1 T2 T3 T4 TB:TypeId} {p q:Int} (ho:o.op= .binOp .eql T1 x y T2) (hd:o.dst=some d) (hn:d<n) (hb:P.underlying TB=some .bool)
  (hu:P.underlying T3=some (.int k)) (hu':P.underlying T4=some (.int k)) (hx:Ev P σ x (.dat T3 (.int p))) (hy:Ev P σ y (.dat T4 (.int q))):bn P n o σ (σ.put d (.dat TB (.bool (p==q)))):=
 gL ho hd hn hu hu' hx hy (fun w _ _ _ _=>by simp[binOp,Op.intCmp]) fun _ _ _=>RV.mk_bool hb
theorem am4 {d:Nat} {k:IntKind} {T1 T2 T3 T4 TB:TypeId} {p q:Int} (ho:o.op= .binOp .neq T1 x y T2) (hd:o.dst=some d) (hn:d<n) (hb:P.underlying TB=some .bool)
  (hu:P.underlying T3=some (.int k)) (hu':P.underlying T4=some (.int k)) (hx:Ev P σ x (.dat T3 (.int p))) (hy:Ev P σ y (.dat T4 (.int q))):bn P n o σ (σ.put d (.dat TB (.bool (p !=q)))):=
 gL ho hd hn hu hu' hx hy (fun w _ _ _ _=>by simp[binOp,Op.intCmp]) fun _ _ _=>RV.mk_bool hb
theorem BU {d:Nat} {op:BinOp} {T1 T2 T3 T4:TypeId} {p q:ByteArray} {z:Value} (ho:o.op= .binOp op T1 x y T2) (hd:o.dst=some d) (hn:d<n)
  (hu:P.underlying T3=some .string) (hu':P.underlying T4=some .string) (hx:Ev P σ x (.dat T3 (.str p))) (hy:Ev P σ y (.dat T4 (.str q)))
  (hz:∀w,p.size≤maxLen→q.size≤maxLen→(binOp op T1 (.string p) (.string q)).run P w= .ok z w) (hv:∀(ok:Nat→Prop) (w:World) (β:Nat→Option Value),RV P ok w β v z):bn P n o σ (σ.put d v):=
 aG hd hn fun ok0 w0 a w β r=>by
  obtain⟨_,e1,b1⟩:=RV.str hu (hx _ _ _ _ _ _ r)
  obtain⟨_,e2,b2⟩:=RV.str hu' (hy _ _ _ _ _ _ r)
  simp only[Dt.toStr] at e1 e2 b1 b2
  refine⟨z,?_,hv _ _ _⟩
  have:=hz w b1 b2
  unfold execOp
  simp only[ho,e1,e2]
  rw[Sem.run_bind]
  have hg:(eqGuard op T1 x y (.string p) (.string q)).run P w= .ok () w:=by
   unfold eqGuard
   cases op<;>simp
  simp[Sem.run_bind,hg,this]
theorem am5 {d:Nat} {T1 T2 T3 T4 TB:TypeId} {p q:ByteArray} (ho:o.op= .binOp .eql T1 x y T2) (hd:o.dst=some d) (hn:d<n) (hb:P.underlying TB=some .bool)
  (hu:P.underlying T3=some .string) (hu':P.underlying T4=some .string) (hx:Ev P σ x (.dat T3 (.str p))) (hy:Ev P σ y (.dat T4 (.str q))):bn P n o σ (σ.put d (.dat TB (.bool (p.toList==q.toList)))):=
 BU ho hd hn hu hu' hx hy (fun w _ _=>by simp[binOp,Op.stringOp]) fun _ _ _=>RV.mk_bool hb
theorem am6 {d:Nat} {T1 T2 T3 T4 TB:TypeId} {p q:ByteArray} (ho:o.op= .binOp .neq T1 x y T2) (hd:o.dst=some d) (hn:d<n) (hb:P.underlying TB=some .bool)
  (hu:P.underlying T3=some .string) (hu':P.underlying T4=some .string) (hx:Ev P σ x (.dat T3 (.str p))) (hy:Ev P σ y (.dat T4 (.str q))):bn P n o σ (σ.put d (.dat TB (.bool (!(p.toList==q.toList))))):=
 BU ho hd hn hu hu' hx hy (fun w _ _=>by simp[binOp,Op.stringOp]) fun _ _ _=>RV.mk_bool hb
theorem am7 {d:Nat} {T1 T2 T3 T4 TB:TypeId} {p q:ByteArray} (ho:o.op= .binOp .lss T1 x y T2) (hd:o.dst=some d) (hn:d<n) (hb:P.underlying TB=some .bool)
  (hu:P.underlying T3=some .string) (hu':P.underlying T4=some .string) (hx:Ev P σ x (.dat T3 (.str p))) (hy:Ev P σ y (.dat T4 (.str q))):bn P n o σ (σ.put d (.dat TB (.bool (Op.bytesLess p.toList q.toList)))):=
 BU ho hd hn hu hu' hx hy (fun w _ _=>by simp[binOp,Op.stringOp]) fun _ _ _=>RV.mk_bool hb
theorem am8 {d:Nat} {T1 T2 T3 T4:TypeId} {p q:ByteArray} (ho:o.op= .binOp .add T1 x y T2) (hd:o.dst=some d) (hn:d<n)
  (hu:P.underlying T3=some .string) (hu':P.underlying T4=some .string) (hx:Ev P σ x (.dat T3 (.str p))) (hy:Ev P σ y (.dat T4 (.str q))) (hs:p.size+q.size≤maxLen):bn P n o σ (σ.put d (.dat T3 (.str (p++q)))):=
 BU ho hd hn hu hu' hx hy (fun w _ _=>by
  have h63:¬(((p.size+q.size:Nat):Int)>IntKind.i64.max):=by
   unfold maxLen at hs
   simp only[IntKind.max,IntKind.signed,IntKind.bits]
   simp
   omega
  simp only[binOp,Op.stringOp,h63,if_false,Sem.run_pure]) fun _ _ _=>RV.mk_str hu (by rw[ByteArray.size_append];exact hs)
theorem run_equalIn_bool (w:World) {T1:TypeId} (h1:P.underlying T1=some .bool) (d:Nat) (p q:Bool):(Op.equalIn (d+1) T1 (.bool p) (.bool q)).run P w= .ok (p==q) w:=by
 simp[Op.equalIn,run_underlying h1]
theorem aj5 (w:World) {T1:TypeId} (h1:P.underlying T1=some .bool) (p q:Bool):(binOp .eql T1 (.bool p) (.bool q)).run P w= .ok (.bool (p==q)) w:=by
 simp only[binOp]
 simp[Op.equal,Op.maxDepth,run_equalIn_bool w h1 9999]
theorem aj6 (w:World) {T1:TypeId} (h1:P.underlying T1=some .bool) (p q:Bool):(binOp .neq T1 (.bool p) (.bool q)).run P w= .ok (.bool (!(p==q))) w:=by
 simp only[binOp]
 simp[Op.equal,Op.maxDepth,run_equalIn_bool w h1 9999]
theorem yZ (w:World) (op:BinOp) (T1:TypeId) (x y:Operand) (p q:Bool):(eqGuard op T1 x y (.bool p) (.bool q)).run P w= .ok () w:=by
 unfold eqGuard
 cases op<;>simp
theorem am9 {d:Nat} {T1 T2 T3 T4 TB:TypeId} {p q:Bool} (ho:o.op= .binOp .eql T1 x y T2) (hd:o.dst=some d) (hn:d<n) (hb:P.underlying TB=some .bool) (h1:P.underlying T1=some .bool)
  (hu:P.underlying T3=some .bool) (hu':P.underlying T4=some .bool) (hx:Ev P σ x (.dat T3 (.bool p))) (hy:Ev P σ y (.dat T4 (.bool q))):bn P n o σ (σ.put d (.dat TB (.bool (p==q)))):=
 aG hd hn fun ok0 w0 a w β r=>by
  have e1:=(RV.bool hu (hx _ _ _ _ _ _ r)).2
  have e2:=(RV.bool hu' (hy _ _ _ _ _ _ r)).2
  simp only[Dt.toBool] at e1 e2
  refine⟨.bool (p==q),?_,RV.mk_bool hb⟩
  simp only[execOp,ho,e1,e2,Sem.run_bind,yZ,Result.andThen_ok,aj5 w h1,Sem.run_pure]
theorem ana {d:Nat} {T1 T2 T3 T4 TB:TypeId} {p q:Bool} (ho:o.op= .binOp .neq T1 x y T2) (hd:o.dst=some d) (hn:d<n) (hb:P.underlying TB=some .bool) (h1:P.underlying T1=some .bool)
  (hu:P.underlying T3=some .bool) (hu':P.underlying T4=some .bool) (hx:Ev P σ x (.dat T3 (.bool p))) (hy:Ev P σ y (.dat T4 (.bool q))):bn P n o σ (σ.put d (.dat TB (.bool (!(p==q))))):=
 aG hd hn fun ok0 w0 a w β r=>by
  have e1:=(RV.bool hu (hx _ _ _ _ _ _ r)).2
  have e2:=(RV.bool hu' (hy _ _ _ _ _ _ r)).2
  simp only[Dt.toBool] at e1 e2
  refine⟨.bool (!(p==q)),?_,RV.mk_bool hb⟩
  simp only[execOp,ho,e1,e2,Sem.run_bind,yZ,Result.andThen_ok,aj6 w h1,Sem.run_pure]
theorem anb {d:Nat} {k:IntKind} {T1 T3:TypeId} {p:Int} (ho:o.op= .unOp .neg T1 x) (hd:o.dst=some d) (hn:d<n)
  (hu:P.underlying T3=some (.int k)) (hx:Ev P σ x (.dat T3 (.int p))):bn P n o σ (σ.put d (.dat T3 (.int (k.wrap (0-p))))):=
 aG hd hn fun ok0 w0 a w β r=>by
  obtain⟨_,e1,_⟩:=RV.int hu (hx _ _ _ _ _ _ r)
  simp only[Dt.toInt] at e1
  exact⟨_,by simp[execOp,ho,e1,Op.unary,Op.intArith],RV.mk_int hu (eH k _).1 (eH k _).2⟩
def complI (k:IntKind) (a:Int):Int:=xorI k (if k.signed then -1 else k.max) a
theorem ahK {d:Nat} {k:IntKind} {T1 T3:TypeId} {p:Int} (ho:o.op= .unOp .xor T1 x) (hd:o.dst=some d) (hn:d<n)
  (hu:P.underlying T3=some (.int k)) (hx:Ev P σ x (.dat T3 (.int p))):bn P n o σ (σ.put d (.dat T3 (.int (complI k p)))):=
 aG hd hn fun ok0 w0 a w β r=>by
  obtain⟨_,e1,_⟩:=RV.int hu (hx _ _ _ _ _ _ r)
  simp only[Dt.toInt] at e1
  exact⟨_,by simp[execOp,ho,e1,Op.unary,Op.intBits,complI,xorI],RV.mk_int hu (eH k _).1 (eH k _).2⟩
theorem WJ {d:Nat} {k k':IntKind} {S1 S2 T3:TypeId} {p:Int} (ho:o.op= .convert S1 S2 x) (hd:o.dst=some d) (hn:d<n) (h1:P.underlying S1=some (.int k)) (h2:P.underlying S2=some (.int k'))
  (hu:P.underlying T3=some (.int k)) (hx:Ev P σ x (.dat T3 (.int p))):bn P n o σ (σ.put d (.dat S2 (.int (k'.wrap p)))):=
 aG hd hn fun ok0 w0 a w β r=>by
  obtain⟨_,e1,_⟩:=RV.int hu (hx _ _ _ _ _ _ r)
  simp only[Dt.toInt] at e1
  exact⟨_,by simp[execOp,ho,e1,convert,run_underlying h1,run_underlying h2,Conv.intToInt],RV.mk_int h2 (eH k' _).1 (eH k' _).2⟩
theorem WK {d:Nat} {S1 S2 T3:TypeId} {p:ByteArray} (ho:o.op= .convert S1 S2 x) (hd:o.dst=some d) (hn:d<n) (h1:P.underlying S1=some .string) (h2:P.underlying S2=some .string)
  (hu:P.underlying T3=some .string) (hx:Ev P σ x (.dat T3 (.str p))):bn P n o σ (σ.put d (.dat S2 (.str p))):=
 aG hd hn fun ok0 w0 a w β r=>by
  obtain⟨_,e1,b1⟩:=RV.str hu (hx _ _ _ _ _ _ r)
  simp only[Dt.toStr] at e1 b1
  exact⟨_,by simp[execOp,ho,e1,convert,run_underlying h1,run_underlying h2],RV.mk_str h2 b1⟩
theorem xg {m:Nat} (h:m≤maxLen):IntKind.i64.min≤(m:Int)∧(m:Int)≤IntKind.i64.max:=by
 unfold maxLen at h
 simp only[IntKind.min,IntKind.max,IntKind.signed,IntKind.bits]
 simp
 omega
theorem ZE {d:Nat} {T3 TI T4:TypeId} {p:ByteArray} (ho:o.op= .call {callee:= .builtin .len,args:= #[x],argTypes:= #[T4]}) (hd:o.dst=some d) (hn:d<n)
  (hi:P.underlying TI=some (.int .i64)) (hu4:P.underlying T4=some .string) (hu:P.underlying T3=some .string) (hx:Ev P σ x (.dat T3 (.str p))):bn P n o σ (σ.put d (.dat TI (.int (p.size:Int)))):=
 aG hd hn fun ok0 w0 a w β r=>by
  obtain⟨_,e1,b1⟩:=RV.str hu (hx _ _ _ _ _ _ r)
  simp only[Dt.toStr] at e1 b1
  exact⟨.int .i64 (p.size:Int),by simp[execOp,ho,e1,resolve,invoke,builtin,Builtin.len_,run_underlying hu4,goInt],RV.mk_int hi (xg b1).1 (xg b1).2⟩
theorem NG {d:Nat} {T3 TI T4 E E':TypeId} {es:List Dt} (ho:o.op= .call {callee:= .builtin .len,args:= #[x],argTypes:= #[T4]}) (hd:o.dst=some d) (hn:d<n)
  (hi:P.underlying TI=some (.int .i64)) (hu4:P.underlying T4=some (.slice E')) (hu:P.underlying T3=some (.slice E)) (hx:Ev P σ x (.dat T3 (.lst es))):bn P n o σ (σ.put d (.dat TI (.int (es.length:Int)))):=
 aG hd hn fun ok0 w0 a w β r=>by
  obtain⟨_,_,a0,cap,e1,b1,b2⟩:=RV.lst hu (hx _ _ _ _ _ _ r)
  simp only[Dt.toLst] at e1 b1 b2
  exact⟨.int .i64 (es.length:Int),by simp[execOp,ho,e1,resolve,invoke,builtin,Builtin.len_,run_underlying hu4,goInt],RV.mk_int hi (xg (by omega)).1 (xg (by omega)).2⟩
theorem mQ {ok:Nat→Prop} {w:World} {β:Nat→Option Value} {l:Nat} {z:Value} (h:RV P ok w β (.row l) z):β l=some z:=by
 have h':=h.2 rfl
 cases h' with
 |row h=>exact h
theorem Ez {ok:Nat→Prop} {w:World} {β:Nat→Option Value} {es:List Dt} {z:Value} (h:ObOK P ok w β (.row T es) (some z)):∃(E:TypeId) (xs:List Value),P.underlying T=some (.slice E)∧w.ownsRow 0 E (P.cellsOf E) z es.length xs∧(∀c∈xs,c.oneCell'=true)∧
  ∀(i:Nat) (d:Dt),es[i]? =some d→RD P ok w E d ((xs.drop (i*P.cellsOf E)).take (P.cellsOf E)):=by
 obtain⟨E,z',xs,e,h⟩:=h
 cases e
 exact⟨E,xs,h⟩
theorem ZF {d l:Nat} {TI T4 E' T3:TypeId} {es:List Dt} (ho:o.op= .call {callee:= .builtin .len,args:= #[x],argTypes:= #[T4]}) (hd:o.dst=some d) (hn:d<n)
  (hi:P.underlying TI=some (.int .i64)) (hu4:P.underlying T4=some (.slice E')) (hx:Ev P σ x (.row l)) (hl:lk σ.hs l= .row T3 es):bn P n o σ (σ.put d (.dat TI (.int (es.length:Int)))):=
 aG hd hn fun ok0 w0 a w β r=>by
  have e1:=mQ (hx _ _ _ _ _ _ r)
  have hob:=r.hs l
  rw[hl,e1] at hob
  obtain⟨E,xs,_,hown,_⟩:=Ez hob
  have hz:∃a0 cap,a.eval x= .slice a0 es.length cap∧es.length≤maxLen:=by
   rcases hown.2 with⟨h1,h2⟩| ⟨g,cap,cur,h1,_,_,h3,h4,_⟩
   ·exact⟨none,0,by rw[h1,h2],by rw[h2];exact Nat.zero_le _⟩
   ·exact⟨_,cap,h1,by omega⟩
  obtain⟨a0,cap,e2,b⟩:=hz
  exact⟨.int .i64 (es.length:Int),by simp[execOp,ho,e2,resolve,invoke,builtin,Builtin.len_,run_underlying hu4,goInt],RV.mk_int hi (xg b).1 (xg b).2⟩
theorem Ev.frz {l:Nat} {es:List Dt} (h:Ev P σ x (.row l)) (hl:lk σ.hs l= .frz T es):Ev P σ x (.dat T (.lst es)):=fun ok0 w0 n a w β r=>by
 have e:=mQ (h _ _ _ _ _ _ r)
 have hob:=r.hs l
 rw[hl,e] at hob
 obtain⟨z,e2,hu,hr⟩:=hob
 cases e2
 exact(RV.dat_one hu).2 hr
theorem TW {d:Nat} {T3 T4 TI TU:TypeId} {p:ByteArray} {i:Int} {k:IntKind} (ho:o.op= .index T4 x y) (hd:o.dst=some d) (hn:d<n) (hi:P.underlying TI=some (.int k)) (hub:P.underlying TU=some (.int .u8))
  (hu4:P.underlying T4=some .string) (hu:P.underlying T3=some .string) (hx:Ev P σ x (.dat T3 (.str p))) (hy:Ev P σ y (.dat TI (.int i))) {c:UInt8} (h0:0≤i) (hc:p[i.toNat]? =some c):
  bn P n o σ (σ.put d (.dat TU (.int (c.toNat:Int)))):=
 aG hd hn fun ok0 w0 a w β r=>by
  obtain⟨_,e1,b1⟩:=RV.str hu (hx _ _ _ _ _ _ r)
  obtain⟨_,e2,_⟩:=RV.int hi (hy _ _ _ _ _ _ r)
  simp only[Dt.toStr,Dt.toInt] at e1 e2 b1
  refine⟨.int .u8 (c.toNat:Int),by simp[execOp,ho,e1,e2,Instr.index,asIntOf,run_underlying hu4,h0,hc],RV.mk_int hub ?_ ?_⟩
  ·simp[IntKind.min,IntKind.signed]
  ·have:=c.toNat_lt
   simp[IntKind.max,IntKind.signed,IntKind.bits]
   omega
theorem ZG {d i:Nat} {vs:List AV} (ho:o.op= .extract x i) (hd:o.dst=some d) (hn:d<n) (hx:Ev P σ x (.tup vs)) (hv:vs[i]? =some v) (ht:∀us,v≠ .tup us):bn P n o σ (σ.put d v):=
 aG hd hn fun ok0 w0 a w β r=>by
  obtain⟨arr,e,hs,h⟩:=hx _ _ _ _ _ _ r
  have hi:i<arr.size:=by rw[hs];exact(List.getElem?_eq_some_iff.1 hv).1
  refine⟨arr.getD i undef,?_,(h i v hv).toRV ht⟩
  simp[execOp,ho,e,Instr.extract,Array.getD,hi]
end
end Go.Am
namespace Go.Am
open Go.RowKit
section
variable {P:Program} {n:Nat} {o:Oper} {σ σ':St} {x y:Operand} {v:AV} {T:TypeId}
theorem RV1.cells {ok:Nat→Prop} {w:World} {β:Nat→Option Value} {z:Value} (h:RV1 P ok w β v z):RA P ok w β v z.cells.toList:=by
 cases hi:v.isAgg P with
 |true=>
  obtain⟨cs,rfl,hr⟩:=h.1 hi
  simpa [Value.cells] using hr
 |false=>
  have hr:=h.2 hi
  have h1:=hr.oneCell z (by simp)
  cases z<;>first|exact hr|simp[Value.oneCell'] at h1
theorem vP (w:World) (c:Array Value) (t:TypeId):(w.alloc (.cells c t)).heap[w.heap.size]? =some (.cells c t (0,0)):=heap_alloc_new w _
theorem Rel.newBox {ok0:OkX} {w0 w:World} {a:Act} {β:Nat→Option Value} (r:RelB P ok0 w0 n σ a w β) {l:Nat} (hf:lk σ.hs l= .free) (hk0:σ.k0≤l) {c:Array Value} (hs:c.size=P.cellsOf T)
  (hc:RA P (okOf ok0 w0 w σ.hs β) w β v c.toList):
  RelB P ok0 w0 n (σ.lay l (.box T v)) a (w.alloc (.cells c T)) (upB β l (some (.pointer (some ⟨w.heap.size,0,none⟩)))):=by
 have hfree:=r.hs l
 rw[hf] at hfree
 refine r.upd l (.box T v) _ _ (.inr ⟨hfree,hk0⟩) rfl rfl rfl (by simp) (fun b hb _=>Below.heap_alloc w _ b hb) (fun z b _ hz hb=> .inl (by cases hz;simp[blk] at hb;omega)) fun hx hk=>?_
 exact⟨w.heap.size,c,rfl,vP w c T,hs,hc.mono hk hx⟩
theorem ZH {ok:Nat→Prop} {w:World} {β:Nat→Option Value} {l b off:Nat} {path:List Nat} (h:β l=some (.pointer (some ⟨b,0,none⟩))):RV P ok w β (.ptr l path off) (.pointer (some ⟨b,off,none⟩)):=
 ⟨fun hi=>by simp[AV.isAgg] at hi,fun _=> .ptr h⟩
theorem anc {d l:Nat} (ho:o.op= .box T x) (hd:o.dst=some d) (hn:d<n) (hf:lk σ.hs l= .free) (hk0:σ.k0≤l) (hx:Ev P σ x v) (h0:v≠ .dead) (h1:∀vs,v≠ .tup vs)
  (hs:∀(ok:Nat→Prop) (w:World) (β:Nat→Option Value) (cs:List Value),RA P ok w β v cs→(v.isAgg P=false→cs.length=1)→cs.length=P.cellsOf T):
  bn P n o σ ((σ.lay l (.box T v)).put d (.ptr l [] 0)):=by
 rintro ok0 w0 a w ⟨β,r⟩ K Q hK
 have hv1:=RV.to1 h0 h1 (hx _ _ _ _ _ _ r)
 have hc:=hv1.cells
 have hsz:(a.eval x).cells.size=P.cellsOf T:=by
  have:=hs _ _ _ _ hc (fun hi=>by
   have hr:=hv1.2 hi
   have h1':=hr.oneCell (a.eval x) (by simp)
   generalize a.eval x=z at h1'
   cases z<;>simp_all [Value.cells,Value.oneCell'])
  simpa using this
 unfold Oper.wp execOp
 simp only[ho,Instr.box,newVar,newRow,newObj,Sem.run_bind]
 refine hK _ _ ?_
 rw[hd]
 exact Rel.put (Rel.newBox r hf hk0 hsz hc) hn (ZH (dP _ _ _))
structure Zero (P:Program) (T:TypeId) (d:Dt):Prop where
 ex:∃(i:TypeInfo) (z:Value),P.info? T=some i∧i.zero=some z∧z.cells.size=P.cellsOf T∧∀(ok:Nat→Prop) (w:World),RD P ok w T d z.cells.toList
structure ZeroA (P:Program) (T:TypeId) (v:AV):Prop where
 ex:∃(i:TypeInfo) (z:Value),P.info? T=some i∧i.zero=some z∧z.cells.size=P.cellsOf T∧∀(ok:Nat→Prop) (w:World) (β:Nat→Option Value),RA P ok w β v z.cells.toList
theorem ahL {d l:Nat} (ho:o.op= .alloc T) (hd:o.dst=some d) (hn:d<n) (hf:lk σ.hs l= .free) (hk0:σ.k0≤l) (hz:ZeroA P T v):
  bn P n o σ ((σ.lay l (.box T v)).put d (.ptr l [] 0)):=by
 rintro ok0 w0 a w ⟨β,r⟩ K Q hK
 obtain⟨i,zv,hi,hzv,hsz,hrd⟩:=hz.ex
 have hrun:(Instr.alloc T true (.tuple #[])).run P w= .ok (.pointer (some ⟨w.heap.size,0,none⟩)) (w.alloc (.cells zv.cells T)):=by
  simp[Instr.alloc,zeroValue,typeInfo,hi,hzv,newVar,newRow]
 unfold Oper.wp execOp
 simp only[ho,Sem.run_bind,hrun,Result.andThen_ok,Sem.run_pure]
 refine hK _ _ ?_
 rw[hd]
 exact Rel.put (Rel.newBox r hf hk0 hsz (hrd _ _ _)) hn (ZH (dP _ _ _))
theorem Bo (w:World) {S:TypeId} {fs:Array Field} {i:Nat} {f:Field} (hu:P.underlying S=some (.struct fs)) (hf:fs[i]? =some f) (hc:P.cellsOf f.type≠0) (ad:Addr):
  (Instr.fieldAt S (.pointer (some ad)) i).run P w= .ok (.pointer (some (ad.add f.offset))) w:=by
 cases hi:P.info? f.type with
 |none=>simp[Program.cellsOf,hi] at hc
 |some inf=>
  have hz:inf.size≠0:=by simpa [Program.cellsOf,hi] using hc
  simp[Instr.fieldAt,run_underlying hu,hf,Instr.sureAddr,fieldPlace,sizeOf,typeInfo,hi,hz]
theorem I6 {d l i off:Nat} {path:List Nat} {S:TypeId} {fs:Array Field} {f:Field} (ho:o.op= .fieldAddr S x i) (hd:o.dst=some d) (hn:d<n) (hu:P.underlying S=some (.struct fs)) (hf:fs[i]? =some f)
  (hc:P.cellsOf f.type≠0) (hx:Ev P σ x (.ptr l path off)):bn P n o σ (σ.put d (.ptr l (path++[i]) (off+f.offset))):=
 aG hd hn fun ok0 w0 a w β r=>by
  have h:=(hx _ _ _ _ _ _ r).2 rfl
  generalize hz:a.eval x=z at h
  cases h with
  | @ptr _ b _ _ hb=>
    refine⟨_,?_,ZH hb⟩
    simp only[execOp,ho,hz,Sem.run_bind,Bo w hu hf hc,Result.andThen_ok,Sem.run_pure,qJ]
theorem TY {ok:Nat→Prop} {w:World} {β:Nat→Option Value} {l i sz b m cap off:Nat} {path:List Nat} (h:β l=some (.slice (some ⟨b,0,none⟩) m cap)):RV P ok w β (.eptr l i sz path off) (.pointer (some ⟨b,i*sz+off,none⟩)):=
 ⟨fun hi=>by simp[AV.isAgg] at hi,fun _=> .eptr h⟩
theorem F5 {d l i j sz off:Nat} {path:List Nat} {S:TypeId} {fs:Array Field} {f:Field} (ho:o.op= .fieldAddr S x i) (hd:o.dst=some d) (hn:d<n) (hu:P.underlying S=some (.struct fs)) (hf:fs[i]? =some f)
  (hc:P.cellsOf f.type≠0) (hx:Ev P σ x (.eptr l j sz path off)):bn P n o σ (σ.put d (.eptr l j sz (path++[i]) (off+f.offset))):=
 aG hd hn fun ok0 w0 a w β r=>by
  have h:=(hx _ _ _ _ _ _ r).2 rfl
  generalize hz:a.eval x=z at h
  cases h with
  | @eptr _ _ _ b m cap _ _ hb=>
    refine⟨_,?_,TY hb⟩
    simp only[execOp,ho,hz,Sem.run_bind,Bo w hu hf hc,Result.andThen_ok,Sem.run_pure,qJ,Nat.add_assoc]
theorem KG {ok:Nat→Prop} {w:World} {β:Nat→Option Value} {d:Dt} {ad:Addr} {cs:List Value} (ho:ok ad.block) (hl:cs.length=P.cellsOf T) (hc:∀j v,cs[j]? =some v→w.cell? (ad.add j)=some v) (h:RD P ok w T d cs):
 RV P ok w β (.rptr T d) (.pointer (some ad)):=⟨fun hi=>by simp[AV.isAgg] at hi,fun _=> .rptr ho hl hc h⟩
theorem xk {d i:Nat} {S:TypeId} {fs:Array Field} {f:Field} {e:Dt} (ho:o.op= .fieldAddr S x i) (hd:o.dst=some d) (hn:d<n) (hu:P.underlying S=some (.struct fs)) (hf:fs[i]? =some f)
  (hc:P.cellsOf f.type≠0) (hb:f.offset+P.cellsOf f.type≤P.cellsOf S) (hx:Ev P σ x (.rptr S e)):bn P n o σ (σ.put d (.rptr f.type (e.fld i))):=
 aG hd hn fun ok0 w0 a w β r=>by
  have h:=(hx _ _ _ _ _ _ r).2 rfl
  generalize hz:a.eval x=z at h
  cases h with
  | @rptr _ _ ad cs hok hl hcell hrd=>
    obtain⟨_,hlen,_,hfld⟩:=hrd.agg_inv hu
    refine⟨_,?_,KG (ad:=ad.add f.offset) (cs:=(cs.drop f.offset).take (P.cellsOf f.type)) (by rw[block_add];exact hok) ?_ ?_ (hfld i f hf)⟩
    ·simp only[execOp,ho,hz,Sem.run_bind,Bo w hu hf hc,Result.andThen_ok,Sem.run_pure]
    ·simp only[List.length_take,List.length_drop];omega
    ·   intro j u hu'
        rw[List.getElem?_take] at hu'
        split at hu'
        ·rw[List.getElem?_drop] at hu'
         rw[add_add]
         exact hcell _ _ hu'
        ·cases hu'
theorem PX (w:World) {ad:Addr} {cs:List Value} {D:TypeDesc} (hu:P.underlying T=some D) (hl:cs.length=P.cellsOf T) (hc:∀j v,cs[j]? =some v→w.cell? (ad.add j)=some v):
  (bW P T=true→(Instr.loadAt T (.pointer (some ad))).run P w= .ok (.agg cs.toArray) w)∧(bW P T=false→∀v,cs=[v]→(Instr.loadAt T (.pointer (some ad))).run P w= .ok v w):=by
 constructor
 ·intro h
  have hd:D.isRow=true:=by
   unfold bW at h
   rw[hu] at h
   cases D<;>simp_all
  have hag:(isAgg T).run P w= .ok true w:=by
   unfold isAgg
   rw[Sem.run_bind,run_underlying hu w]
   cases D<;>simp_all
  have hinf:∃i,P.info? T=some i:=by
   unfold Program.underlying at hu
   cases hi:P.info? T with
   |none=>simp[hi] at hu
   |some i=>exact⟨i,rfl⟩
  obtain⟨i,hi⟩:=hinf
  have hs:i.size=cs.length:=by rw[hl];simp[Program.cellsOf,hi]
  have hld:=run_loadCells_list (P:=P) w ad cs hc
  simp[Instr.loadAt,Instr.sureAddr,loadVar,Sem.run_bind,hag,sizeOf,typeInfo,hi,hs,hld]
 ·intro h v hv
  subst hv
  have hd:D.isRow=false:=by
   unfold bW at h
   rw[hu] at h
   cases D<;>simp_all
  have hag:(isAgg T).run P w= .ok false w:=by
   unfold isAgg
   rw[Sem.run_bind,run_underlying hu w]
   cases D<;>simp_all
  have h0:w.cell? ad=some v:=by
   have:=hc 0 v (by simp)
   simpa [Addr.add] using this
  simp[Instr.loadAt,Instr.sureAddr,loadVar,Sem.run_bind,hag,load,Sem.run,h0]
theorem F6 {ok:Nat→Prop} {w:World} {β:Nat→Option Value} {ad:Addr} {cs:List Value} {D:TypeDesc} (hu:P.underlying T=some D) (hl:cs.length=P.cellsOf T) (hc:∀j v,cs[j]? =some v→w.cell? (ad.add j)=some v)
  (h1:bW P T=false→P.cellsOf T=1) (hi:v.isAgg P=bW P T) (h:RA P ok w β v cs) (ht:∀vs,v≠ .tup vs):∃z:Value,(Instr.loadAt T (.pointer (some ad))).run P w= .ok z w∧RV P ok w β v z:=by
 obtain⟨hA,hB⟩:=PX w hu hl hc
 cases hT:bW P T with
 |true=>
  refine⟨_,hA hT,RV1.toRV ⟨fun _=>⟨cs,rfl,h⟩,fun hf=>?_⟩ ht⟩
  rw[hi,hT] at hf;cases hf
 |false=>
  have hlen:=h1 hT
  rw[hlen] at hl
  match cs,hl with
  | [u],_=>exact⟨u,hB hT u rfl,RV1.toRV ⟨(fun hf=>by rw[hi,hT] at hf;cases hf),fun _=>h⟩ ht⟩
theorem T9 {d:Nat} {e:Dt} {D:TypeDesc} (ho:o.op= .load T x) (hd:o.dst=some d) (hn:d<n) (hu:P.underlying T=some D) (h1:bW P T=false→P.cellsOf T=1) (hx:Ev P σ x (.rptr T e)):bn P n o σ (σ.put d (.dat T e)):=
 aG hd hn fun ok0 w0 a w β r=>by
  have h:=(hx _ _ _ _ _ _ r).2 rfl
  generalize hz:a.eval x=z at h
  cases h with
  | @rptr _ _ ad cs hok hl hcell hrd=>
    obtain⟨z,hrun,hrv⟩:=F6 (ok:=okOf ok0 w0 w σ.hs β) (β:=β) (v:= .dat T e) hu hl hcell h1 rfl (.dat hrd) (by simp)
    exact⟨z,by simp only[execOp,ho,hz,Sem.run_bind,hrun,Result.andThen_ok,Sem.run_pure],hrv⟩
inductive GetAt (P:Program):TypeId→AV→List Nat→Nat→TypeId→AV→Prop where
 |nil {T:TypeId} {c:AV}:GetAt P T c [] 0 T c
 |agg {T T':TypeId} {fs:Array Field} {f:Field} {vs:List AV} {v r:AV} {i off:Nat} {p:List Nat} (hu:P.underlying T=some (.struct fs)) (hf:fs[i]? =some f) (hv:vs[i]? =some v) (hb:f.offset+P.cellsOf f.type≤P.cellsOf T)
  (h:GetAt P f.type v p off T' r):GetAt P T (.agg T vs) (i::p) (f.offset+off) T' r
 |dat {T T':TypeId} {fs:Array Field} {f:Field} {d:Dt} {r:AV} {i off:Nat} {p:List Nat} (hu:P.underlying T=some (.struct fs)) (hf:fs[i]? =some f) (hb:f.offset+P.cellsOf f.type≤P.cellsOf T)
  (h:GetAt P f.type (.dat f.type (d.fld i)) p off T' r):GetAt P T (.dat T d) (i::p) (f.offset+off) T' r
theorem KH (cs:List Value) (o1 n1 o2 n2:Nat) (h:o2+n2≤n1):((((cs.drop o1).take n1).drop o2).take n2)=(cs.drop (o1+o2)).take n2:=by
 rw[List.drop_take,List.take_take,List.drop_drop]
 congr 1
 omega
theorem GetAt.sound {ok:Nat→Prop} {w:World} {β:Nat→Option Value} {T':TypeId} {c r:AV} {p:List Nat} {off:Nat} (h:GetAt P T c p off T' r):∀{cs:List Value},RA P ok w β c cs→cs.length=P.cellsOf T→
   off+P.cellsOf T'≤P.cellsOf T∧RA P ok w β r ((cs.drop off).take (P.cellsOf T')):=by
 induction h with
 |nil=>intro cs hr hl;exact⟨by omega,by simpa [←hl] using hr⟩
 | @agg T T' fs f vs v r i off p hu hf hv hb _ ih=>
   intro cs hr hl
   cases hr with
   |agg hu' hl' hc h1 h=>
    rw[hu] at hu';cases hu'
    obtain⟨h2,h3⟩:=ih (h i f v hf hv) (by simp only[List.length_take,List.length_drop];omega)
    refine⟨by omega,?_⟩
    rw[KH _ _ _ _ _ h2] at h3
    exact h3
 | @dat T T' fs f d r i off p hu hf hb _ ih=>
   intro cs hr hl
   cases hr with
   |dat hrd=>
    obtain⟨_,_,_,hfld⟩:=hrd.agg_inv hu
    obtain⟨h2,h3⟩:=ih (.dat (hfld i f hf)) (by simp only[List.length_take,List.length_drop];omega)
    refine⟨by omega,?_⟩
    rw[KH _ _ _ _ _ h2] at h3
    exact h3
theorem adw {w:World} {b o m:Nat} {c:Array Value} {t:TypeId} {fr:Nat×Nat} (hb:w.heap[b]? =some (.cells c t fr)):∀j u,((c.toList.drop o).take m)[j]? =some u→w.cell? ((⟨b,o,none⟩:Addr).add j)=some u:=by
 intro j u hu
 rw[qJ,cell_of_row w b (o+j) c t fr hb]
 rw[List.getElem?_take] at hu
 split at hu
 ·rw[List.getElem?_drop] at hu
  simpa using hu
 ·cases hu
theorem WL {d l off:Nat} {path:List Nat} {S:TypeId} {c:AV} {D:TypeDesc} (ho:o.op= .load T x) (hd:o.dst=some d) (hn:d<n) (hu:P.underlying T=some D) (h1:bW P T=false→P.cellsOf T=1)
  (hx:Ev P σ x (.ptr l path off)) (hl:lk σ.hs l= .box S c) (hg:GetAt P S c path off T v) (hi:v.isAgg P=bW P T) (ht:∀vs,v≠ .tup vs):bn P n o σ (σ.put d v):=
 aG hd hn fun ok0 w0 a w β r=>by
  have h:=(hx _ _ _ _ _ _ r).2 rfl
  generalize hz:a.eval x=z at h
  cases h with
  | @ptr _ b _ _ hb=>
    have hob:=r.hs l
    rw[hl,hb] at hob
    obtain⟨b',cs,e,hblk,hsz,hra⟩:=hob
    cases e
    obtain⟨h2,h3⟩:=hg.sound hra (by simpa using hsz)
    obtain⟨z,hrun,hrv⟩:=F6 (β:=β) (v:=v) hu (by simp only[List.length_take,List.length_drop,Array.length_toList];omega) (adw (o:=off) (m:=P.cellsOf T) hblk) h1 hi h3 ht
    exact⟨z,by simp only[execOp,ho,hz,Sem.run_bind,hrun,Result.andThen_ok,Sem.run_pure],hrv⟩
def Bp (P:Program) (m:Nat):Nat→List Field→Bool
 |e,[]=>decide (e≤m)
 |e,f::r=>decide (e≤f.offset)&&Bp P m (f.offset+P.cellsOf f.type) r
def layB (P:Program) (T:TypeId) (fs:Array Field):Bool:=Bp P (P.cellsOf T) 0 fs.toList
theorem WM {m:Nat}:∀{fs:List Field} {e:Nat},Bp P m e fs=true→e≤m
 | [],e,h=>by simpa [Bp] using h
 |f::r,e,h=>by
  simp only[Bp,Bool.and_eq_true,decide_eq_true_eq] at h
  have:=WM h.2
  omega
theorem I7 {m:Nat}:∀{fs:List Field} {e:Nat},Bp P m e fs=true→∀(i:Nat) (f:Field),fs[i]? =some f→e≤f.offset∧f.offset+P.cellsOf f.type≤m
 | [],_,_,_,_,hf=>by simp at hf
 |g::r,e,h,0,f,hf=>by
  simp only[Bp,Bool.and_eq_true,decide_eq_true_eq] at h
  simp only[List.getElem?_cons_zero,Option.some.injEq] at hf
  subst hf
  exact⟨h.1,WM h.2⟩
 |g::r,e,h,i+1,f,hf=>by
  simp only[Bp,Bool.and_eq_true,decide_eq_true_eq] at h
  simp only[List.getElem?_cons_succ] at hf
  have:=I7 h.2 i f hf
  omega
theorem Bq {m:Nat}:∀{fs:List Field} {e:Nat},Bp P m e fs=true→∀(i j:Nat) (f g:Field),fs[i]? =some f→fs[j]? =some g→i<j→f.offset+P.cellsOf f.type≤g.offset
 | [],_,_,_,_,_,_,hf,_,_=>by simp at hf
 |x::r,e,h,0,j,f,g,hf,hg,hij=>by
  simp only[Bp,Bool.and_eq_true,decide_eq_true_eq] at h
  simp only[List.getElem?_cons_zero,Option.some.injEq] at hf
  subst hf
  obtain⟨j,rfl⟩:∃j',j=j'+1:=⟨j-1,by omega⟩
  simp only[List.getElem?_cons_succ] at hg
  exact(I7 h.2 j g hg).1
 |x::r,e,h,i+1,j,f,g,hf,hg,hij=>by
  simp only[Bp,Bool.and_eq_true,decide_eq_true_eq] at h
  obtain⟨j,rfl⟩:∃j',j=j'+1:=⟨j-1,by omega⟩
  simp only[List.getElem?_cons_succ] at hf hg
  exact Bq h.2 i j f g hf hg (by omega)
theorem ahM {fs:Array Field} (h:layB P T fs=true) {i:Nat} {f:Field} (hf:fs[i]? =some f):f.offset+P.cellsOf f.type≤P.cellsOf T:=(I7 h i f (by simpa using hf)).2
theorem adx {fs:Array Field} (h:layB P T fs=true) {i j:Nat} {f g:Field} (hf:fs[i]? =some f) (hg:fs[j]? =some g) (hij:i≠j):f.offset+P.cellsOf f.type≤g.offset∨g.offset+P.cellsOf g.type≤f.offset:=by
 rcases Nat.lt_or_gt_of_ne hij with h1|h1
 ·exact .inl (Bq h i j f g (by simpa using hf) (by simpa using hg) h1)
 ·exact .inr (Bq h j i g f (by simpa using hg) (by simpa using hf) h1)
def splice (cs:List Value) (off:Nat) (vs:List Value):List Value:=cs.take off++vs++cs.drop (off+vs.length)
theorem rU {cs:List Value} {off:Nat} {vs:List Value} (h:off+vs.length≤cs.length):(splice cs off vs).length=cs.length:=by
 simp only[splice,List.length_append,List.length_take,List.length_drop];omega
theorem jk {cs:List Value} {off:Nat} {vs:List Value} (h:off+vs.length≤cs.length) (k:Nat):(splice cs off vs)[k]? =if off≤k∧k<off+vs.length then vs[k-off]? else cs[k]? :=by
 unfold splice
 by_cases h1:k<off
 ·rw[List.append_assoc,List.getElem?_append_left (by simp;omega),if_neg (by omega),List.getElem?_take,if_pos h1]
 ·by_cases h2:k<off+vs.length
  ·rw[if_pos ⟨by omega,h2⟩,List.append_assoc,List.getElem?_append_right (by simp;omega),List.getElem?_append_left (by simp;omega)]
   congr 1
   simp;omega
  ·rw[if_neg (by omega),List.getElem?_append_right (by simp;omega),List.getElem?_drop]
   congr 1
   simp;omega
theorem jo (cs:List Value) (o1 m k:Nat):((cs.drop o1).take m)[k]? =if k<m then cs[o1+k]? else none:=by
 rw[List.getElem?_take,List.getElem?_drop]
theorem EA {cs:List Value} {off:Nat} {vs:List Value} (h:off+vs.length≤cs.length) {o1 m:Nat} (ha:o1+m≤off∨off+vs.length≤o1):((splice cs off vs).drop o1).take m=(cs.drop o1).take m:=by
 apply List.ext_getElem?
 intro k
 rw[jo,jo]
 split
 ·rw[jk h,if_neg (by omega)]
 ·rfl
theorem I8 {cs:List Value} {off:Nat} {vs:List Value} {o1 m:Nat} (h:off+vs.length≤m) (hm:o1+m≤cs.length):((splice cs (o1+off) vs).drop o1).take m=splice ((cs.drop o1).take m) off vs:=by
 apply List.ext_getElem?
 intro k
 rw[jk (by simp only[List.length_take,List.length_drop];omega),jo,jo]
 by_cases hk:k<m
 ·rw[if_pos hk,jk (by omega)]
  by_cases h1:off≤k∧k<off+vs.length
  ·rw[if_pos (by omega),if_pos h1]
   congr 1
   omega
  ·rw[if_neg (by omega),if_neg h1,if_pos hk]
 ·rw[if_neg hk,if_neg (by omega),if_neg hk]
theorem ZI {cs vs:List Value} (h:cs.length=vs.length):splice cs 0 vs=vs:=by
 simp[splice,←h]
def canD (P:Program) (T:TypeId) (d:Dt):Dt:=
 match P.underlying T with
 |some (.int _)=> .int d.toInt
 |some .bool=> .bool d.toBool
 |some .string=> .str d.toStr
 |some (.slice _)=> .lst d.toLst
 |_=>d
theorem F7 {ok:Nat→Prop} {w:World} {d:Dt} {cs:List Value} (h:RD P ok w T d cs):canD P T d=d:=by
 unfold canD
 split
 ·rename_i hu;exact(h.int_inv hu).1.symm
 ·rename_i hu;exact(h.bool_inv hu).1.symm
 ·rename_i hu;exact(h.str_inv hu).1.symm
 ·rename_i hu;exact(h.lst_inv hu).1.symm
 ·rfl
def Dj (P:Program):List Field→Nat→Dt→List AV
 | [],_,_=>[]
 |f::r,j,d=> .dat f.type (canD P f.type (d.fld j))::Dj P r (j+1) d
theorem QY:∀(fs:List Field) (j:Nat) (d:Dt),(Dj P fs j d).length=fs.length
 | [],_,_=>rfl
 |_::r,j,d=>by simp[Dj,QY r (j+1) d]
theorem QZ:∀(fs:List Field) (j:Nat) (d:Dt) (i:Nat) (f:Field),fs[i]? =some f→(Dj P fs j d)[i]? =some (.dat f.type (canD P f.type (d.fld (j+i))))
 | [],_,_,_,_,h=>by simp at h
 |g::r,j,d,0,f,h=>by simp only[List.getElem?_cons_zero,Option.some.injEq] at h;subst h;simp[Dj]
 |g::r,j,d,i+1,f,h=>by
  simp only[List.getElem?_cons_succ] at h
  have:=QZ r (j+1) d i f h
  simp only[Dj,List.getElem?_cons_succ,this]
  rw[show j+1+i=j+(i+1) by omega]
def expl (P:Program) (fs:Array Field) (d:Dt):List AV:=Dj P fs.toList 0 d
theorem RA.expl {ok:Nat→Prop} {w:World} {β:Nat→Option Value} {d:Dt} {cs:List Value} {fs:Array Field} (h:RA P ok w β (.dat T d) cs) (hu:P.underlying T=some (.struct fs)):RA P ok w β (.agg T (expl P fs d)) cs:=by
 cases h with
 |dat h=>
  obtain⟨_,hc,h1,hf⟩:=h.agg_inv hu
  refine .agg hu (by simp[Am.expl,QY]) hc h1 fun i f v hfi hv=>?_
  have:=QZ (P:=P) fs.toList 0 d i f (by simpa using hfi)
  rw[Am.expl,this] at hv
  simp only[Nat.zero_add,Option.some.injEq] at hv
  subst hv
  have hr:=hf i f hfi
  rw[F7 hr]
  exact .dat hr
inductive SetAt (P:Program) (v:AV) (T':TypeId):TypeId→AV→List Nat→Nat→AV→Prop where
 |nil {c:AV}:SetAt P v T' T' c [] 0 v
 |agg {T:TypeId} {fs:Array Field} {f:Field} {vs:List AV} {old new:AV} {i off:Nat} {p:List Nat} (hu:P.underlying T=some (.struct fs)) (hlay:layB P T fs=true) (hf:fs[i]? =some f) (hv:vs[i]? =some old)
  (h:SetAt P v T' f.type old p off new):SetAt P v T' T (.agg T vs) (i::p) (f.offset+off) (.agg T (vs.set i new))
 |dat {T:TypeId} {fs:Array Field} {d:Dt} {i off:Nat} {p:List Nat} {new:AV} (hu:P.underlying T=some (.struct fs)) (h:SetAt P v T' T (.agg T (expl P fs d)) (i::p) off new):SetAt P v T' T (.dat T d) (i::p) off new
theorem SetAt.sound {ok:Nat→Prop} {w:World} {β:Nat→Option Value} {T':TypeId} {c c':AV} {p:List Nat} {off:Nat} {us:List Value} (h:SetAt P v T' T c p off c') (hus:RA P ok w β v us) (hul:us.length=P.cellsOf T'):
   ∀{cs:List Value},RA P ok w β c cs→cs.length=P.cellsOf T→off+P.cellsOf T'≤P.cellsOf T∧RA P ok w β c' (splice cs off us):=by
 induction h with
 |nil=>intro cs _ hl;exact⟨by omega,by rw[ZI (by omega)];exact hus⟩
 | @agg T fs f vs old new i off p hu hlay hf hv _ ih=>
   intro cs hr hl
   cases hr with
   |agg  hu' hl' hc h1 h=>
    rw[hu] at hu';cases hu'
    have hin:=ahM hlay hf
    obtain⟨h2,h3⟩:=ih (h i f old hf hv) (by simp only[List.length_take,List.length_drop];omega)
    have hfit:f.offset+off+us.length≤cs.length:=by omega
    refine⟨by omega,.agg hu (by simpa using hl') (by rw[rU hfit];exact hc) ?_ ?_⟩
    ·   intro u hu2
        obtain⟨k,hk⟩:=List.getElem?_of_mem hu2
        rw[jk hfit] at hk
        split at hk
        ·exact hus.oneCell u (List.mem_of_getElem? hk)
        ·exact h1 u (List.mem_of_getElem? hk)
    ·   intro j g u hg hu2
        rw[List.getElem?_set] at hu2
        by_cases hij:i=j
        ·subst hij
         rw[hf] at hg
         cases hg
         have hlt:i<vs.length:=(List.getElem?_eq_some_iff.1 hv).1
         simp only[if_true,hlt,Option.some.injEq] at hu2
         subst hu2
         rw[I8 (by omega) (by omega)]
         exact h3
        ·rw[if_neg hij] at hu2
         have hgin:=ahM hlay hg
         rw[EA hfit (by rcases adx hlay hf hg hij with h4|h4<;>omega)]
         exact h j g u hg hu2
 | @dat T fs d i off p new hu _ ih=>
   intro cs hr hl
   exact ih (hr.expl hu) hl
theorem qO (w:World) {b off:Nat} {c:Array Value} {t:TypeId} (hb:w.heap[b]? =some (.cells c t (0,0))) {z:Value} (hs:z.cells.size=P.cellsOf T) (h0:P.cellsOf T≠0) (hfit:off+z.cells.size≤c.size) (h1:∀u∈z.cells.toList,u.oneCell'=true):
  (Instr.storeAt T (.pointer (some ⟨b,off,none⟩)) z).run P w= .ok () (w.setRow b (splice c.toList off z.cells.toList).toArray):=by
 have hst:=run_storeCells_at P b off t z.cells.toList 0 c w hb (by simpa using hfit) h1
 cases hi:P.info? T with
 |none=>simp[Program.cellsOf,hi] at h0
 |some i=>
  have hsz:z.cells.size=i.size:=by simpa [Program.cellsOf,hi] using hs
  simp only[Nat.add_zero] at hst
  simp[Instr.storeAt,Instr.sureAddr,storeVar,sizeOf,typeInfo,hi,hsz,hst,splice]
theorem Ua {l off:Nat} {path:List Nat} {S:TypeId} {c c':AV} (ho:o.op= .store T x y) (hd:o.dst=none) (h0:P.cellsOf T≠0)
   (hx:Ev P σ x (.ptr l path off)) (hy:Ev P σ y v) (hv0:v≠ .dead) (hv1:∀vs,v≠ .tup vs)
   (hs:∀(ok:Nat→Prop) (w:World) (β:Nat→Option Value) (cs:List Value),RA P ok w β v cs→(v.isAgg P=false→cs.length=1)→cs.length=P.cellsOf T)
   (hl:lk σ.hs l= .box S c) (hg:SetAt P v T S c path off c'):bn P n o σ (σ.lay l (.box S c')):=by
 rintro ok0 w0 a w ⟨β,r⟩ K Q hK
 have h:=(hx _ _ _ _ _ _ r).2 rfl
 generalize hz:a.eval x=z at h
 cases h with
 | @ptr _ b _ _ hb=>
   have hv:=RV.to1 hv0 hv1 (hy _ _ _ _ _ _ r)
   have hc:=hv.cells
   have hsz:(a.eval y).cells.size=P.cellsOf T:=by
    have:=hs _ _ _ _ hc (fun hi=>by
        have hr:=hv.2 hi
        have h1':=hr.oneCell (a.eval y) (by simp)
        generalize a.eval y=z at h1'
        cases z<;>simp_all [Value.cells,Value.oneCell'])
    simpa using this
   have hob:=r.hs l
   rw[hl,hb] at hob
   obtain⟨b',cs,e',hblk,hcsz,hra⟩:=hob
   obtain rfl:b=b':=by cases e';rfl
   obtain⟨h2,h3⟩:=hg.sound hc (by simpa using hsz) hra (by simpa using hcsz)
   have hrun:=qO (P:=P) (T:=T) (off:=off) w hblk hsz h0 (by omega) (fun u hu=>hc.oneCell u hu)
   unfold Oper.wp execOp
   simp only[ho,hz,Sem.run_bind,hrun,Result.andThen_ok,Sem.run_pure]
   refine hK _ _ ?_
   rw[hd]
   have hlen:(splice cs.toList off (a.eval y).cells.toList).length=cs.size:=by rw[rU (by simp;omega)];simp
   have how:owns σ.hs β l b:=⟨by rw[hl];rfl,_,hb,rfl⟩
   refine⟨_,r.upd l (.box S c') (β l) _ (.inl rfl) rfl rfl rfl (by simp) (fun b2 hb2 hne=>setRow_other w _ _ _ fun e=>hne (by rw[e];exact how)) (fun z2 b2 _ hz2 hb2=> .inr ⟨by rw[hl];rfl,z2,hz2,hb2⟩) fun hx hk=>?_⟩
   refine⟨b,(splice cs.toList off (a.eval y).cells.toList).toArray,hb,setRow_heap w b cs _ S _ hblk,by rw[List.size_toArray];exact hlen.trans hcsz,?_⟩
   exact RA.mono h3 hk hx
end
end Go.Am
namespace Go.Am
open Go.RowKit
section
variable {P:Program} {n:Nat} {o:Oper} {σ σ':St} {x y:Operand} {v:AV} {T:TypeId}
theorem ane {ok:Nat→Prop} {w:World} {z:Value} {E:TypeId} {es:List Dt} {xs:List Value} (hu:P.underlying T=some (.slice E)) (hown:w.ownsRow 0 E (P.cellsOf E) z es.length xs) (h1:∀c∈xs,c.oneCell'=true)
  (hrd:∀(i:Nat) (d:Dt),es[i]? =some d→RD P ok w E d ((xs.drop (i*P.cellsOf E)).take (P.cellsOf E))) {ok':Nat→Prop} (hok:∀b,ok b→ok' b) (hb:∀b,blk z=some b→ok' b):RD P ok' w T (.lst es) [z]:=by
 have hlen:=hown.1
 rcases hown.2 with⟨h2,h3⟩| ⟨g,cap,cur,h2,hg,hh,hnc,hcm,hsz,htk⟩
 ·have:es=[]:=List.eq_nil_of_length_eq_zero h3
  subst this
  rw[h2]
  exact RD.nil hu
 ·rw[   h2]
  refine .lst ⟨g,0,none⟩ (fun i=>(xs.drop (i*P.cellsOf E)).take (P.cellsOf E)) hu rfl hnc hcm (fun _=>⟨rfl,hb g (by rw[h2];rfl)⟩) (fun i hi=>⟨?_,?_,?_⟩) (fun i d hd=>(hrd i d hd).mono fun b hb'=>⟨hok b hb',rfl⟩)
  ·have:(i+1)*P.cellsOf E≤es.length*P.cellsOf E:=Nat.mul_le_mul_right _ hi
   rw[Nat.add_mul,Nat.one_mul] at this
   simp only[List.length_take,List.length_drop];omega
  ·intro c hc
   exact h1 c (List.mem_of_mem_drop (List.mem_of_mem_take hc))
  ·intro j u hj
   rw[jo] at hj
   split at hj
   ·    rw[qJ,Nat.zero_add,cell_of_row w g _ cur E (0,0) hh]
        rw[←htk,List.getElem?_take] at hj
        split at hj
        ·simpa using hj
        ·cases hj
   ·cases hj
theorem RelB.frz {ok0:OkX} {w0 w:World} {a:Act} {β:Nat→Option Value} (r:RelB P ok0 w0 n σ a w β) {l:Nat} {es:List Dt} (hl:lk σ.hs l= .row T es):RelB P ok0 w0 n (σ.lay l (.frz T es)) a w β:=by
 have hob:=r.hs l
 rw[hl] at hob
 obtain⟨E,z,xs,hz,hu,hown,h1,hrd⟩:=hob
 have hown2:∀k b,owns (dX σ.hs l (.frz T es)) β k b→k≠l∧owns σ.hs β k b:=by
  rintro k b ⟨h1,z,h2,h3⟩
  by_cases hkl:k=l
  ·subst hkl;rw[j5] at h1;cases h1
  ·rw[bX _ _ _ _ hkl] at h1;exact⟨hkl,h1,z,h2,h3⟩
 have hk:∀b,okOf ok0 w0 w σ.hs β b→okOf ok0 w0 w (dX σ.hs l (.frz T es)) β b∧w.heap[b]? =w.heap[b]? :=fun b hb=>⟨⟨hb.1,hb.2.1,fun k hk=>hb.2.2 k (hown2 k b hk).2⟩,rfl⟩
 have hold:∀b,blk z=some b→owns σ.hs β l b:=fun b hb=>⟨by rw[hl];rfl,z,hz,hb⟩
 refine⟨r.size,r.defers,r.below,fun k=>(r.ts k).mono hk (Ext.refl _),fun k=>?_,fun k k' b h1 h2=>r.sep k k' b (hown2 _ _ h1).2 (hown2 _ _ h2).2,fun k b h1=>r.own k b (hown2 _ _ h1).2,r.ext,r.kk,r.tab.mono hk⟩
 show ObOK P _ w β (lk (dX σ.hs l (.frz T es)) k) _
 by_cases hkl:k=l
 ·subst hkl
  rw[j5,hz]
  refine⟨z,rfl,bJ hu rfl,ane hu hown h1 hrd (fun b hb=>(hk b hb).1) fun b hb=>?_⟩
  refine⟨r.blk_lt (hold b hb),fun hlt=>?_,fun k' hk'=>?_⟩
  ·rcases r.own _ b (hold b hb) with h2|h2
   ·omega
   ·exact .inr h2
  ·obtain⟨h2,h3⟩:=hown2 k' b hk'
   exact h2 (r.sep _ _ _ h3 (hold b hb))
 ·rw[bX _ _ _ _ hkl]
  exact(r.hs k).mono hk (fun _ _ _ _ _=>rfl) (Ext.refl _)
theorem run_indexAt (w:World) {E:TypeId} (hu:P.underlying T=some (.slice E)) (h0:P.cellsOf E≠0) {ad:Addr} {len cap:Nat} {k:IntKind} {i:Int} (h1:0≤i) (h2:i<len):
  (Instr.indexAt T (.slice (some ad) len cap) (.int k i)).run P w= .ok (.pointer (some (ad.add (i.toNat*P.cellsOf E)))) w:=by
 cases hi:P.info? E with
 |none=>simp[Program.cellsOf,hi] at h0
 |some inf=>simp[Instr.indexAt,asIntOf,run_underlying hu,h1,h2,sizeOf,typeInfo,hi,Program.cellsOf]
theorem F8 {d:Nat} {T3 E TI:TypeId} {es:List Dt} {i:Int} {k:IntKind} {e:Dt} (ho:o.op= .indexAddr T x y) (hd:o.dst=some d) (hn:d<n) (hu:P.underlying T=some (.slice E)) (hu3:P.underlying T3=some (.slice E)) (h0:P.cellsOf E≠0)
  (hi:P.underlying TI=some (.int k)) (hx:Ev P σ x (.dat T3 (.lst es))) (hy:Ev P σ y (.dat TI (.int i))) (hi0:0≤i) (he:es[i.toNat]? =some e):bn P n o σ (σ.put d (.rptr E e)):=
 aG hd hn fun ok0 w0 a w β r=>by
  obtain⟨_,e2,_⟩:=RV.int hi (hy _ _ _ _ _ _ r)
  simp only[Dt.toInt] at e2
  have hrd:=(RV.dat_one (bJ hu3 rfl)).1 (hx _ _ _ _ _ _ r)
  obtain⟨_,ao,cap,ad,g,hcs,hlc,hm,ha,hg,hr⟩:=hrd.lst_inv hu3
  simp only[Dt.toLst] at hcs hlc ha hg hr
  have hlt:i.toNat<es.length:=(List.getElem?_eq_some_iff.1 he).1
  obtain⟨rfl,hok⟩:=ha (by omega)
  obtain⟨hgl,_,hgc⟩:=hg i.toNat hlt
  have ex:a.eval x= .slice (some ad) es.length cap:=by simpa using hcs
  refine⟨_,?_,KG (ad:=ad.add (i.toNat*P.cellsOf E)) (by rw[block_add];exact hok) hgl (fun j u hj=>by rw[add_add];exact hgc j u hj) (hr _ _ he)⟩
  simp only[execOp,ho,ex,e2,Sem.run_bind,run_indexAt w hu h0 hi0 (show i<(es.length:Int) by omega),Result.andThen_ok,Sem.run_pure]
theorem Ub {d l:Nat} {E TI T5:TypeId} {es:List Dt} {i:Int} {k:IntKind} (ho:o.op= .indexAddr T x y) (hd:o.dst=some d) (hn:d<n) (hu:P.underlying T=some (.slice E)) (h0:P.cellsOf E≠0)
  (hi:P.underlying TI=some (.int k)) (hx:Ev P σ x (.row l)) (hy:Ev P σ y (.dat TI (.int i))) (hl:lk σ.hs l= .row T5 es) (hu5:P.underlying T5=some (.slice E)) (hi0:0≤i) (he:i<es.length):bn P n o σ (σ.put d (.eptr l i.toNat (P.cellsOf E) [] 0)):=
 aG hd hn fun ok0 w0 a w β r=>by
  obtain⟨_,e2,_⟩:=RV.int hi (hy _ _ _ _ _ _ r)
  simp only[Dt.toInt] at e2
  have ex:=mQ (hx _ _ _ _ _ _ r)
  have hob:=r.hs l
  rw[hl,ex] at hob
  obtain⟨E',xs,hu',hown,_⟩:=Ez hob
  obtain rfl:E=E':=by rw[hu5] at hu';cases hu';rfl
  rcases hown.2 with⟨h2,h3⟩| ⟨g,cap,cur,h2,_⟩
  ·omega
  ·refine⟨_,?_,TY (by rw[ex,h2])⟩
   simp only[execOp,ho,h2,e2,Sem.run_bind,run_indexAt w hu h0 hi0 he,Result.andThen_ok,Sem.run_pure,qJ,Nat.zero_add,Nat.add_zero]
theorem Uc {d l i off:Nat} {path:List Nat} {E T5:TypeId} {es:List Dt} {e:Dt} {D:TypeDesc} (ho:o.op= .load T x) (hd:o.dst=some d) (hn:d<n) (hu:P.underlying T=some D) (h1:bW P T=false→P.cellsOf T=1)
  (hx:Ev P σ x (.eptr l i (P.cellsOf E) path off)) (hl:lk σ.hs l= .row T5 es) (hu5:P.underlying T5=some (.slice E)) (he:es[i]? =some e) (hg:GetAt P E (.dat E e) path off T v) (hi:v.isAgg P=bW P T) (ht:∀vs,v≠ .tup vs):bn P n o σ (σ.put d v):=
 aG hd hn fun ok0 w0 a w β r=>by
  have h:=(hx _ _ _ _ _ _ r).2 rfl
  generalize hz:a.eval x=z at h
  cases h with
  | @eptr _ _ _ b m cap _ _ hb=>
    have hob:=r.hs l
    rw[hl,hb] at hob
    obtain⟨E',xs,hu',hown,hone,hrd⟩:=Ez hob
    obtain rfl:E=E':=by rw[hu5] at hu';cases hu';rfl
    have hlen:=hown.1
    rcases hown.2 with⟨h2,_⟩| ⟨g,cap',cur,h2,hg2,hh,hnc,hcm,hsz,htk⟩
    ·cases h2
    ·   cases h2
        have hlt:i<es.length:=(List.getElem?_eq_some_iff.1 he).1
        have hmul:(i+1)*P.cellsOf E≤es.length*P.cellsOf E:=Nat.mul_le_mul_right _ hlt
        rw[Nat.add_mul,Nat.one_mul] at hmul
        obtain⟨q1,q2⟩:=hg.sound (.dat (hrd i e he)) (by simp only[List.length_take,List.length_drop];omega)
        rw[KH _ _ _ _ _ q1] at q2
        obtain⟨z,hrun,hrv⟩:=F6 (β:=β) (v:=v) (ad:=⟨b,i*P.cellsOf E+off,none⟩) hu (by simp only[List.length_take,List.length_drop];omega) (fun j u hj=>by
         rw[jo] at hj
         split at hj
         ·rw[qJ,cell_of_row w b _ cur E (0,0) hh]
          rw[←htk,List.getElem?_take] at hj
          split at hj
          ·simpa using hj
          ·cases hj
         ·cases hj) h1 hi q2 ht
        exact⟨z,by simp only[execOp,ho,hz,Sem.run_bind,hrun,Result.andThen_ok,Sem.run_pure],hrv⟩
theorem PY {l i off:Nat} {path:List Nat} {E T5:TypeId} {es:List Dt} {e e':Dt} {c':AV} (ho:o.op= .store T x y) (hd:o.dst=none) (h0:P.cellsOf T≠0)
   (hx:Ev P σ x (.eptr l i (P.cellsOf E) path off)) (hy:Ev P σ y v) (hv0:v≠ .dead) (hv1:∀vs,v≠ .tup vs)
   (hs:∀(ok:Nat→Prop) (w:World) (β:Nat→Option Value) (cs:List Value),RA P ok w β v cs→(v.isAgg P=false→cs.length=1)→cs.length=P.cellsOf T)
   (hl:lk σ.hs l= .row T5 es) (hu5:P.underlying T5=some (.slice E)) (he:es[i]? =some e) (hg:SetAt P v T E (.dat E e) path off c')
   (hpk:∀(ok0:OkX) (w0:World) (a:Act) (w:World) (β:Nat→Option Value),RelB P ok0 w0 n σ a w β→∀cs,RA P (okOf ok0 w0 w σ.hs β) w β c' cs→RD P (okOf ok0 w0 w σ.hs β) w E e' cs):bn P n o σ (σ.lay l (.row T5 (es.set i e'))):=by
 rintro ok0 w0 a w ⟨β,r⟩ K Q hK
 have h:=(hx _ _ _ _ _ _ r).2 rfl
 generalize hz:a.eval x=z at h
 cases h with
 | @eptr _ _  _ b m cap _ _ hb=>
   have hv:=RV.to1 hv0 hv1 (hy _ _ _ _ _ _ r)
   have hc:=hv.cells
   have hsz:(a.eval y).cells.size=P.cellsOf T:=by
    have:=hs _ _ _ _ hc (fun hi=>by
        have hr:=hv.2 hi
        have h1':=hr.oneCell (a.eval y) (by simp)
        generalize a.eval y=z at h1'
        cases z<;>simp_all [Value.cells,Value.oneCell'])
    simpa using this
   have hob:=r.hs l
   rw[hl,hb] at hob
   obtain⟨E',xs,hu',hown,hone,hrd⟩:=Ez hob
   obtain rfl:E=E':=by rw[hu5] at hu';cases hu';rfl
   have hlen:=hown.1
   rcases hown.2 with⟨h2,_⟩| ⟨g,cap',cur,h2,hg2,hh,hnc,hcm,hcsz,htk⟩
   ·cases h2
   ·obtain⟨   rfl,rfl,rfl⟩:b=g∧m=es.length∧cap=cap':=by cases h2;exact⟨rfl,rfl,rfl⟩
    have how:owns σ.hs β l b:=⟨by rw[hl];rfl,_,hb,rfl⟩
    have hilt:i<es.length:=(List.getElem?_eq_some_iff.1 he).1
    have hmul:(i+1)*P.cellsOf E≤es.length*P.cellsOf E:=Nat.mul_le_mul_right _ hilt
    have hmul2:es.length*P.cellsOf E≤cap*P.cellsOf E:=Nat.mul_le_mul_right _ hnc
    rw[Nat.add_mul,Nat.one_mul] at hmul
    have hseglen:((xs.drop (i*P.cellsOf E)).take (P.cellsOf E)).length=P.cellsOf E:=by simp only[List.length_take,List.length_drop];omega
    obtain⟨hq,hra⟩:=hg.sound hc (by simpa using hsz) (.dat (hrd i e he)) hseglen
    have hrd':=hpk _ _ _ _ _ r _ hra
    have hrun:=qO (P:=P) (T:=T) (off:=i*P.cellsOf E+off) w hh hsz h0 (by omega) (fun u hu=>hc.oneCell u hu)
    unfold Oper.wp execOp
    simp only[ho,hz,Sem.run_bind,hrun,Result.andThen_ok,Sem.run_pure]
    refine hK _ _ ?_
    rw[hd]
    have hfit:i*P.cellsOf E+off+(a.eval y).cells.toList.length≤cur.toList.length:=by simp;omega
    have hslen:=rU hfit
    refine⟨_,r.upd l (.row T5 (es.set i e')) (β l) _ (.inl rfl) rfl rfl rfl (by simp) (fun b2 hb2 hne=>setRow_other w _ _ _ fun e=>hne (by rw[e];exact how)) (fun z2 b2 _ hz2 hb2=> .inr ⟨by rw[hl];rfl,z2,hz2,hb2⟩) fun hx hk=>?_⟩
    have hfx:i*P.cellsOf E+off+(a.eval y).cells.toList.length≤xs.length:=by simp;omega
    refine⟨E,_,splice xs (i*P.cellsOf E+off) (a.eval y).cells.toList,hb,hu5,⟨?_,.inr ⟨b,cap,(splice cur.toList (i*P.cellsOf E+off) (a.eval y).cells.toList).toArray,?_,hg2,setRow_heap w b cur _ E _ hh,by simpa using hnc,hcm,?_,?_⟩⟩,?_,?_⟩
    ·rw[rU hfx];simpa using hlen
    ·simp
    ·rw[List.size_toArray,hslen];simpa using hcsz
    ·   apply List.ext_getElem?
        intro j
        simp only[List.length_set]
        rw[List.getElem?_take,jk hfx]
        split
        ·rw[jk hfit]
         split
         ·rfl
         ·rw[←htk,List.getElem?_take,if_pos (by assumption)]
        ·rw[if_neg (by simp;omega),List.getElem?_eq_none (by omega)]
    ·   intro u hu2
        obtain⟨j,hj⟩:=List.getElem?_of_mem hu2
        rw[jk hfx] at hj
        split at hj
        ·exact hc.oneCell u (List.mem_of_getElem? hj)
        ·exact hone u (List.mem_of_getElem? hj)
    ·   intro j d' hj
        rw[List.getElem?_set] at hj
        by_cases hij:i=j
        ·subst hij
         simp only[if_true,hilt,Option.some.injEq] at hj
         subst hj
         rw[I8 (by simp;omega) (by omega)]
         exact hrd'.mono hk
        ·rw[  if_neg hij] at hj
         have hjlt:j<es.length:=(List.getElem?_eq_some_iff.1 hj).1
         have hfar:j*P.cellsOf E+P.cellsOf E≤i*P.cellsOf E+off∨i*P.cellsOf E+off+(a.eval y).cells.toList.length≤j*P.cellsOf E:=by
           rcases Nat.lt_or_gt_of_ne hij with h5|h5
           ·  right
              have:(i+1)*P.cellsOf E≤j*P.cellsOf E:=Nat.mul_le_mul_right _ h5
              rw[Nat.add_mul,Nat.one_mul] at this
              simp;omega
           ·  left
              have:(j+1)*P.cellsOf E≤i*P.cellsOf E:=Nat.mul_le_mul_right _ h5
              rw[Nat.add_mul,Nat.one_mul] at this
              omega
         rw[EA hfx hfar]
         exact(hrd j d' hj).mono hk
end
end Go.Am
