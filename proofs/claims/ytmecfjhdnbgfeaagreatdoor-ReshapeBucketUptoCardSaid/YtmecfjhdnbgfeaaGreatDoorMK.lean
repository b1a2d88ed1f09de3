/- What the row's condition says of the package's tables: the blocks hold the cells that the machine's table lists.
The package's tables:what the rows' condition says is what the machine's table lists;a world that holds them. -/
import Derived.Test.YtmecfjhdnbgfeaaGreatDoorAm21
import Derived.Test.YtmecfjhdnbgfeaaGreatDoorProg
import Derived.Test.YtmecfjhdnbgfeaaGreatDoorRows
import Derived.LaidLaws
import Derived.ChangeArms
import Derived.Lib.LaidTab
import Derived.PinnedBridge
import Derived.MakeChecks
import Derived.Lib.LaidIn
set_option linter.unusedVariables false
set_option linter.unusedSimpArgs false
namespace Go.Proofs.YtmecfjhdnbgfeaaGreatDoor
open Go.Am
mutual
def gv {H:Type}:DataW H→List Value
 | .lit (.int k m)=>[.int k m]
 | .lit (.bool b)=>[.bool b]
 | .lit (.string s)=>[.string ⟨s.toArray⟩]
 | .agg ds=>gvL ds
 |_=>[]
def gvL {H:Type}:List (DataW H)→List Value
 | []=>[]
 |d::r=>gv d++gvL r
end
section
variable {H:Type} {enc:TypeId×Value→H} {P:Program} {w:World} {base:Nat} {sp:Nat→Bool} {held:Bool}
def Told (enc:TypeId×Value→H) (P:Program) (w:World) (base:Nat) (sp:Nat→Bool) (held:Bool) (e:TypeId):Prop:=∀(fuel:Nat) (cs:List Value) (x:DataW H×List MemPlace),DataW.trod enc P w base sp held fuel e cs=some x→cs=gv x.1
theorem UH {e:TypeId} {k:IntKind} (he:P.underlying e=some (.int k)):Told enc P w base sp held e:=fun fuel cs x h=>by
 obtain⟨z,rfl,rfl,_⟩:=DataW.trod_int he h
 rfl
theorem ad4 {e f:TypeId} {F0 F1:Field} (hu:P.underlying e=some (.struct #[F0,F1])) (h0:F0.offset=0) (h1:F1.offset=1) (hf0:F0.type=f) (hf1:F1.type=f) (hc:P.cellsOf e=2) (hcf:P.cellsOf f=1) (hf:Told enc P w base sp held f):Told enc P w base sp held e:=fun fuel cs x h=>by
 obtain⟨xs,m,_,rfl,hlen,hxl,hget⟩:=DataW.trod_struct hu h
 rw[hc] at hlen
 match cs,hlen with
 | [a,b],_=>
   have hx2:xs.length=2:=hxl
   match xs,hx2 with
   | [u,v],_=>
     have g0:=hget 0 F0 rfl
     have g1:=hget 1 F1 rfl
     rw[h0,hf0,hcf] at g0
     rw[h1,hf1,hcf] at g1
     have e0:=hf _ _ _ g0
     have e1:=hf _ _ _ g1
     show [a,b]=gv u.1++(gv v.1++[])
     rw[←e0,←e1]
     rfl
theorem aaj {n s:Nat}:∀{ds:List (DataW H)} {cs:List Value},cs.length=ds.length*s→(∀i D,ds[i]? =some D→(cs.drop (i*s)).take s=gv D)→cs=gvL ds
 | [],cs,hl,_=>by
   have:cs=[]:=List.eq_nil_of_length_eq_zero (by simpa using hl)
   subst this;rfl
 | d::r,cs,hl,h=>by
   have h0:=h 0 d rfl
   rw[Nat.zero_mul,List.drop_zero] at h0
   have hl':cs.length=r.length*s+s:=by rw[hl,List.length_cons,Nat.succ_mul]
   have ih:=aaj (n:=n) (s:=s) (ds:=r) (cs:=cs.drop s) (by rw[List.length_drop];omega) fun i D hD=>by
    have:=h (i+1) D (by simpa using hD)
    rw[List.drop_drop,show s+i*s=(i+1)*s by rw[Nat.succ_mul];omega]
    exact this
   show cs=gv d++gvL r
   rw[←h0,←ih,List.take_append_drop]
theorem UJ {t e:TypeId} {n:Nat} (ht:P.underlying t=some (.array n e)) (hct:P.cellsOf t=n*P.cellsOf e) (he:Told enc P w base sp held e):Told enc P w base sp held t:=fun fuel cs x h=>by
 cases fuel with
 |zero=>simp[DataW.trod] at h
 |succ fuel=>
  simp only[DataW.trod,ht] at h
  split at h
  ·rename_i hl
   obtain⟨xs,hm,rfl⟩:=Option.map_eq_some_iff.1 h
   have hxl:xs.length=n:=by simpa using Lib.mapM_length hm
   show cs=gvL (xs.map (·.1))
   refine aaj (n:=n) (s:=P.cellsOf e) (by rw[List.length_map,hxl];omega) fun i D hD=>?_
   rw[List.getElem?_map] at hD
   obtain⟨y,hy,rfl⟩:=Option.map_eq_some_iff.1 hD
   have hi:i<n:=by rw[←hxl];exact(List.getElem?_eq_some_iff.1 hy).1
   obtain⟨b,hb,hf⟩:=Lib.mapM_at hm i i (by simp[hi])
   rw[hy] at hb
   cases hb
   exact he _ _ _ hf
  ·cases h
end
theorem Ad {P:Program} {W:World}:∀{l:List (String×DataW Unit)} {ps:List MemPlace} {name:String} {d:DataW Unit} {g:Nat} {t:TypeId},DataW.LaidVars P W l ps→(name,d)∈l→P.globalNamed name=some g→(P.globals[g]?).map (·.type)=some t→Told (fun _=>()) P W 0 (fun _=>true) false t→
  W.var? P name=some (gv d).toArray
 | [],ps,name,d,g,t,_,hm,_,_,_=>by cases hm
 |(n,d')::r,ps,name,d,g,t,h,hm,hg,hty,ht=>by
  obtain⟨g',t',cs,fuel,p,q,hg',ht',hvar,hd,hr,rfl⟩:=h
  rcases List.mem_cons.1 hm with e|hm
  ·cases e
   obtain rfl:=Option.some.inj (hg.symm.trans hg')
   obtain rfl:=Option.some.inj (hty.symm.trans ht')
   have:=ht _ _ _ hd
   rw[hvar,←this]
  ·exact Ad hr hm hg hty ht
theorem EH {P:Program} {W:World} {name:String} {g:Nat} {cs:Array Value} (hg:P.globalNamed name=some g) (h:W.var? P name=some cs):∃(T:TypeId) (fr:Nat×Nat),W.heap[g]? =some (.cells cs T fr):=by
 unfold World.var? at h
 rw[hg] at h
 simp only[Option.bind_some] at h
 cases hb:W.heap[g]? with
 |none=>rw[hb] at h;simp at h
 |some o=>
  rw[hb] at h
  cases o with
  |cells c T fr=>simp only[Option.some.injEq] at h;subst h;exact⟨T,fr,rfl⟩
  |_=>simp at h
theorem aiW {W:World} {g:Nat} {cs:List Value} (h:∃(T:TypeId) (fr:Nat×Nat),W.heap[g]? =some (.cells cs.toArray T fr)):g<W.heap.size∧∃(T:TypeId) (fr:Nat×Nat),W.heap[g]? =some (.cells cs.toArray T fr):=by
 refine⟨?_,h⟩
 obtain⟨T,fr,h⟩:=h
 exact(Array.getElem?_eq_some_iff.1 h).1
end Go.Proofs.YtmecfjhdnbgfeaaGreatDoor
namespace Go.Proofs.YtmecfjhdnbgfeaaGreatDoor
open Go.Am
noncomputable def aak:List (String×DataW Unit):=[("unicode/utf8.acceptRanges",Rows.laid_unicode_utf8_acceptRanges),("unicode/utf8.first",Rows.laid_unicode_utf8_first)]
noncomputable def aqz:List (String×DataW Unit×Nat):=[("unicode/utf8.first",Rows.laid_unicode_utf8_first,1),("unicode/utf8.acceptRanges",Rows.laid_unicode_utf8_acceptRanges,2)]
set_option maxRecDepth 100000 in
theorem aiX:tabs=aqz.map fun q=>(q.2.2,gv q.2.1):=by kernel_rfl
section
variable {W:World}
theorem X6:Told (fun _=>()) Tryz.prog W 0 (fun _=>true) false 227:=UJ Tryz.underlying227 (by kernel_rfl) (UH Tryz.underlying5)
theorem ad5:Told (fun _=>()) Tryz.prog W 0 (fun _=>true) false 230:=UJ Tryz.underlying230 (by kernel_rfl) (ad4 (f:=5) Tryz.underlying229 rfl rfl rfl rfl (by kernel_rfl) (by kernel_rfl) (UH Tryz.underlying5))
set_option maxRecDepth 100000 in
theorem ad6 (h:laidMetH Tryz.prog aak W):TabOK (fun b=>b<W.heap.size) W:=by
 rw[Go.MakeChecks.laidMetH_plain _ _ _ (by kernel_rfl)] at h
 obtain⟨ps,hl,_⟩:=h
 refine⟨?_,fun g hg=>by have hg':g∈([]:List Nat):=hg;cases hg'⟩
 intro t ht
 rw[aiX] at ht
 obtain⟨q,hq,rfl⟩:=List.mem_map.1 ht
 have key:∃(T:TypeId) (fr:Nat×Nat),W.heap[q.2.2]? =some (.cells (gv q.2.1).toArray T fr):=by
  have hq':q∈[("unicode/utf8.first",Rows.laid_unicode_utf8_first,1),("unicode/utf8.acceptRanges",Rows.laid_unicode_utf8_acceptRanges,2)]:=hq
  rcases List.mem_cons.1 hq' with rfl|hq'
  ·exact EH (by kernel_rfl) (Ad hl (g:=1) (t:=227) (.tail _ (.head _)) (by kernel_rfl) (by kernel_rfl) X6)
  rcases List.mem_cons.1 hq' with rfl|hq'
  ·exact EH (by kernel_rfl) (Ad hl (g:=2) (t:=230) (.head _) (by kernel_rfl) (by kernel_rfl) ad5)
  cases hq'
 exact aiW key
end
noncomputable def yw (os:Os):World:=
 let w0:=World.holding Tryz.prog os ⟨#[],#[],[]⟩
 let put (h:Array Obj) (g:Nat) (cs:List Value):Array Obj:=h.modify g fun
  | .cells _ t frozen=> .cells cs.toArray t frozen
  |o=>o
 let h1:=put w0.heap 2 (gv (H:=Unit) Rows.laid_unicode_utf8_acceptRanges)
 let h2:=put h1 1 (gv Rows.laid_unicode_utf8_first)
 {w0 with heap:=h2}
set_option maxRecDepth 100000 in
theorem acN (os:Os) (args:Array Value):laidMet Tryz.prog aak ((yw os).forCall (fun _ _=>0) ⟨#[],args,[]⟩).memory:=
 (LaidIn.of_run (l:=aak) [2,1] 8 (by kernel_rfl) (by kernel_rfl) (by kernel_rfl) (by kernel_rfl)).met
end Go.Proofs.YtmecfjhdnbgfeaaGreatDoor
