/- The abstract machine, part 8: names are changed, slots are forgotten, rows become plain data.
The abstract machine,part 9:contracts of functions;calls.
The abstract machine:maps from strings.
The abstract machine,bytes:strings appended to rows of bytes,bytes as strings.
The abstract machine,part R:rows whose elements hold rows.
The abstract machine:equality of structs of two integers.
The abstract machine:pointers to memory that nobody changes any more,as plain data:nil is no element,else one.
The abstract machine,part D:rows whose elements own a slice each.
Maps from strings that own their slices. -/
import Derived.Test.YtmecfjhdnbgfeaaGreatDoorA1
import Derived.MapKept
import Derived.Lib.AppendStr
import Derived.Laws.BytesArg
import Derived.Laws.StructEq
import Derived.ChangeKeysEq
set_option linter.all false
namespace Go.Am
open Go.RowKit
mutual
def AV.ren(Z:Nat->Option Nat):AV->AV
 | .dat T d=> .dat T d
 | .agg T vs=> .agg T (AV.renL Z vs)
 |  .row l=>match Z l with
    |some k=> .row k
    |none=> .dead
 |  .ptr l p o=>match Z l with
    |some k=> .ptr k p o
    |none=> .dead
 |  .eptr l i z p o=>match Z l with
    |some k=> .eptr k i z p o
    |none=> .dead
 |  .sub l i z=>match Z l with
    |some k=> .sub k i z
    |none=> .dead
 | .rptr T d=> .rptr T d
 | .fn f caps=> .fn f (AV.renL Z caps)
 | .tup vs=> .tup (AV.renL Z vs)
 | .nils T=> .nils T
 | .nif b=> .nif b
 | .ifc T v=> .ifc T (AV.ren Z v)
 | .mth T m=> .mth T m
 | .dead=> .dead
def AV.renL(Z:Nat->Option Nat):List AV->List AV
 | []=>[]
 |v::r=>AV.ren Z v::AV.renL Z r
end
def Ob.ren(Z:Nat->Option Nat):Ob->Ob
 | .box T c=> .box T (c.ren Z)
 | .row T es=> .row T es
 | .rowA T vs=> .rowA T (AV.renL Z vs)
 | .frz T es=> .frz T es
 | .map T es=> .map T es
 |  .rowD T T2 c k es h=>match Z k,h with
    |some k',none=> .rowD T T2 c k' es none
    |some k',some (i,l)=>(match Z l with
     |some l'=> .rowD T T2 c k' es (some (i,l'))
     |none=> .gone)
    |none,_=> .gone
 | .tok T ls=> .tok T ls
 | .gone=> .gone
 | .free=> .free
theorem Ob.ren_own{Z:Nat->Option Nat}{o:Ob}(h:(o.ren Z).isOwn=true):o.isOwn=true:=by cases o<;>first|exact h|rfl
theorem AV.renL_len(Z:Nat->Option Nat):∀vs:List AV,(AV.renL Z vs).length=vs.length
 | []=>rfl
 |_::r=>by simp[AV.renL,AV.renL_len Z r]
theorem AV.renL_get(Z:Nat->Option Nat):∀(vs:List AV)(i:Nat),(AV.renL Z vs)[i]? =(vs[i]?).map (AV.ren Z)
 | [],i=>by simp[AV.renL]
 |v::r,0=>by simp[AV.renL]
 |v::r,i+1=>by simp[AV.renL,AV.renL_get Z r i]
theorem Ja(Z:Nat->Option Nat):∀(vs:List AV)(i:Nat),tk (AV.renL Z vs) i=(tk vs i).ren Z
 | [],i=>by simp[AV.renL,tk,AV.ren]
 |v::r,0=>by simp[AV.renL,tk]
 |v::r,i+1=>by simp[AV.renL,tk,Ja Z r i]
section
variable{P:Program}{ok:Nat->Prop}{w:World}{β β':Nat->Option Value}{Z:Nat->Option Nat}{v:AV}{cs:List Value}{z:Value}
def xg(Z:Nat->Option Nat)(β β':Nat->Option Value):Prop:=∀l k z,Z l=some k->β l=some z->β' k=some z
theorem AV.isAgg_ren_false(v:AV)(h:v.isAgg P=false):(v.ren Z).isAgg P=false:=by
 cases v with
 |row l=>simp only[AV.ren];split<;>rfl
 |ptr l p o=>simp only[AV.ren];split<;>rfl
 |eptr l i z p o=>simp only[AV.ren];split<;>rfl
 |sub l i z=>simp only[AV.ren];split<;>rfl
 |_=>exact h
theorem AV.isAgg_ren_true(v:AV)(h:v.isAgg P=true):(v.ren Z).isAgg P=true:=by
 cases v with
 |dat=>exact h
 |agg=>exact h
 |_=>simp[AV.isAgg]at h
theorem RA.ren(hr:xg Z β β')(h:RA P ok w β v cs):RA P ok w β' (v.ren Z) cs:=by
 induction h with
 |dat h=>exact .dat h
 |agg hu hl hc h1 _ ih=>
  refine .agg hu (by rw[AV.renL_len];exact hl) hc h1 fun i f v hf hv=>?_;rw[AV.renL_get]at hv;simp only[aW]at hv;obtain⟨v0,hv0,rfl⟩:=hv;exact ih i f v0 hf hv0
 |row h h1=>
  simp only[AV.ren];split;·rename_i k e;exact .row (hr _ _ _ e h) h1
  ·exact .dead (by simpa using h1)
 |ptr h=>
  simp only[AV.ren];split;·rename_i k e;exact .ptr (hr _ _ _ e h)
  ·exact .dead (by simp[Value.oneCell'])
 |eptr h=>
  simp only[AV.ren];split;·rename_i k e;exact .eptr (hr _ _ _ e h)
  ·exact .dead (by simp[Value.oneCell'])
 |sub h=>
  simp only[AV.ren];split;·rename_i k e;exact .sub (hr _ _ _ e h)
  ·exact .dead (by simp[Value.oneCell'])
 |eptrB h=>
  simp only[AV.ren];split;·rename_i k e;exact .eptrB (hr _ _ _ e h)
  ·exact .dead (by simp[Value.oneCell'])
 |rptr ho hl hc h=>exact .rptr ho hl hc h
 |fn hl _ ih=>
  refine .fn (by rw[AV.renL_len];exact hl) fun i av hv=>?_;rw[AV.renL_get]at hv;simp only[aW]at hv;obtain⟨v0,hv0,rfl⟩:=hv;exact ih i v0 hv0
 |nils=>exact .nils
 |nif=>exact .nif
 |nni=>exact .nni
 |mth=>exact .mth
 | @ifc1 T v z hi _ ih=>exact .ifc1 (AV.isAgg_ren_false v hi) ih
 | @ifcA T v cs hi _ ih=>exact .ifcA (AV.isAgg_ren_true v hi) ih
 |dead h=>exact .dead h
theorem RV1.ren(hr:xg Z β β')(h:RV1 P ok w β v z):RV1 P ok w β' (v.ren Z) z:=by
 refine⟨fun hi=>?_,fun hi=>?_⟩
 ·cases hv:v.isAgg P with
  |true=>obtain⟨cs,e,q⟩:=h.1 hv;exact⟨cs,e,q.ren hr⟩
  |false=>rw[AV.isAgg_ren_false v hv]at hi;cases hi
 ·cases hv:v.isAgg P with
  |true=>rw[AV.isAgg_ren_true v hv]at hi;cases hi
  |false=>exact(h.2 hv).ren hr
theorem RV.ren(hr:xg Z β β')(h:RV P ok w β v z):RV P ok w β' (v.ren Z) z:=by
 cases v with
 |dead=>trivial
 |tup vs=>
  obtain⟨arr,e,hs,h⟩:=h;refine⟨arr,e,by rw[AV.renL_len];exact hs,fun i av hv=>?_⟩;rw[AV.renL_get]at hv;simp only[aW]at hv;obtain⟨v0,hv0,rfl⟩:=hv;exact(h i v0 hv0).ren hr
 |row l=>
  refine RV1.toRV (RV1.ren hr h) fun us=>?_;simp only[AV.ren];split<;>simp
 |ptr l p o=>
  refine RV1.toRV (RV1.ren hr h) fun us=>?_;simp only[AV.ren];split<;>simp
 |eptr l i z p o=>
  refine RV1.toRV (RV1.ren hr h) fun us=>?_;simp only[AV.ren];split<;>simp
 |sub l i z=>
  refine RV1.toRV (RV1.ren hr h) fun us=>?_;simp only[AV.ren];split<;>simp
 |dat T d=>exact RV1.ren hr h
 |agg T d=>exact RV1.ren hr h
 |rptr T d=>exact RV1.ren hr h
 |fn T d=>exact RV1.ren hr h
 |nils T=>exact RV1.ren hr h
 |nif b=>exact RV1.ren hr h
 |mth T m=>exact RV1.ren hr h
 |ifc T v=>exact RV1.ren hr h
theorem ObOK.ren{o:Ob}{x:Option Value}(hr:xg Z β β')(h:ObOK P ok w β o x):ObOK P ok w β' (o.ren Z) x:=by
 cases o with
 |box T c=>obtain⟨b,cs,h1,h2,h3,h4⟩:=h;exact⟨b,cs,h1,h2,h3,h4.ren hr⟩
 |row E es=>exact h
 |rowA E vs=>
  obtain⟨E',z,xs,h1,h2,h3,h4,h5⟩:=h;refine⟨E',z,xs,h1,h2,by rw[AV.renL_len];exact h3,h4,fun i u hu=>?_⟩;rw[AV.renL_get]at hu;obtain⟨v,hv,rfl⟩:=aW.1 hu;exact(h5 i v hv).ren hr
 |rowD T T2 c k es h'=>
  simp only[Ob.ren];cases hk:Z k with
  |none=>cases h'<;>trivial
  |some k'=>
   cases h' with
   |    none=>
        rcases h with⟨E,E2,fo,z,xs,arr,q1,q2,q3,q4,q5,q6,q7,q8,q9⟩| ⟨q0,b,KT,E2,ents,clock,arr,q1,q2,q3,q4,q5,q6,q7,q8,q9⟩;·exact .inl ⟨E,E2,fo,z,xs,arr,q1,q2,q3,q4,q5,q6,hr _ _ _ hk q7,q8,fun i d hd=>⟨(q9 i d hd).1,fun e=>let ⟨a1,zi,a2,a3,_⟩:=(q9 i d hd).2 e;⟨a1,zi,a2,fun _=>a3 (fun _=>nofun),nofun⟩⟩⟩
        ·exact .inr ⟨q0,b,KT,E2,ents,clock,arr,q1,q2,q3,q4,q5,q6,hr _ _ _ hk q7,q8,fun i e d he hd=>let ⟨s,a1,a2,a3,a4,_⟩:=q9 i e d he hd;⟨s,a1,a2,a3,fun _=>a4 (fun _=>nofun),nofun⟩⟩
   |    some p=>
        obtain⟨i0,l⟩:=p;simp only;cases hl:Z l with
        |none=>trivial
        |some l'=>
         rcases h with⟨E,E2,fo,z,xs,arr,q1,q2,q3,q4,q5,q6,q7,q8,q9⟩| ⟨q0,b,KT,E2,ents,clock,arr,q1,q2,q3,q4,q5,q6,q7,q8,q9⟩
         ·refine .inl ⟨E,E2,fo,z,xs,arr,q1,q2,q3,q4,q5,q6,hr _ _ _ hk q7,q8,fun i d hd=>?_⟩;refine⟨(q9 i d hd).1,fun e0=>?_⟩;obtain⟨a1,zi,a2,a3,a4⟩:=(q9 i d hd).2 e0;refine⟨a1,zi,a2,fun h=>a3 fun l3 e=>?_,fun l3 e=>?_⟩;·cases e;exact h l' rfl
          ·cases e;exact hr _ _ _ hl (a4 l rfl)
         ·refine .inr ⟨q0,b,KT,E2,ents,clock,arr,q1,q2,q3,q4,q5,q6,hr _ _ _ hk q7,q8,fun i e d he hd=>?_⟩;obtain⟨s,a1,a2,a3,a4,a5⟩:=q9 i e d he hd;refine⟨s,a1,a2,a3,fun h=>a4 fun l3 e=>?_,fun l3 e=>?_⟩;·cases e;exact h l' rfl
          ·cases e;exact hr _ _ _ hl (a5 l rfl)
 |tok T ls=>exact h
 |frz E es=>exact h
 |map E es=>exact h
 |gone=>exact h
 |free=>exact h
end
def ix:List Nat->Nat->Option Nat
 | [],_=>none
 |a::r,l=>bif Nat.beq a l then some 0 else(ix r l).map (· +1)
theorem agH:∀{src:List Nat}{l k:Nat},ix src l=some k->src[k]? =some l
 | [],_,_,h=>by simp[ix]at h
 |a::r,l,k,h=>by
  simp only[ix]at h;cases hb:Nat.beq a l with
  |true=>
   rw[hb]at h;have:=aQ hb;subst this;simp only[cond_true,aA]at h;subst h;rfl
  |false=>
   rw[hb]at h;simp only[cond_false,aW]at h;obtain⟨k',h1,rfl⟩:=h;simpa using agH h1
def dZ:Nat->List Nat->Bool
 |_,[]=>false
 |a,b::r=>Nat.beq a b||dZ a r
theorem ko{a:Nat}:∀{l:List Nat},dZ a l=true↔a∈l
 | []=>by simp[dZ]
 |b::r=>by simp[dZ,ko (l:=r),Nat.beq_eq]
theorem mE{a:Nat}{l:List Nat}(h:dZ a l=false):a∉l:=fun hm=>by rw[ko.2 hm]at h;cases h
def nodupB:List Nat->Bool
 | []=>true
 |a::r=>!dZ a r&&nodupB r
theorem fF:∀{l:List Nat},nodupB l=true->l.Nodup
 | [],_=>List.nodup_nil
 |a::r,h=>by simp only[nodupB,aJ,Bool.not_eq_true']at h;exact List.nodup_cons.2 ⟨mE h.1,fF h.2⟩
def gT(Z:Nat->Option Nat)(hs:List Ob):List Nat->List Ob
 | []=>[]
 |l::r=>(lk hs l).ren Z::gT Z hs r
def Jb(Z:Nat->Option Nat)(hs:List Ob):Option Nat->Ob
 |some l=>(lk hs l).ren Z
 |none=> .free
theorem xV(Z:Nat->Option Nat)(hs:List Ob):∀(src:List Nat)(k:Nat),lk (gT Z hs src) k=Jb Z hs src[k]?
 | [],k=>by simp[gT,lk,Jb]
 |l::r,0=>by simp[gT,lk,Jb]
 |l::r,k+1=>by simp[gT,lk,xV Z hs r k]
def gU(src:List Nat)(β:Nat->Option Value)(k:Nat):Option Value:=match src[k]? with
 |some l=>β l
 |none=>none
theorem kM(src:List Nat)(β:Nat->Option Value):xg (ix src) β (gU src β):=fun l k z h1 h2=>by simp only[gU,agH h1];exact h2
theorem kr{src:List Nat}{Z:Nat->Option Nat}{hs:List Ob}{β:Nat->Option Value}{k b:Nat}(h:owns (gT Z hs src) (gU src β) k b):∃l,src[k]? =some l∧owns hs β l b:=by
 obtain⟨h1,z,h2,h3⟩:=h;rw[xV]at h1;simp only[gU]at h2;cases hk:src[k]? with
 |none=>rw[hk]at h1;cases h1
 |some l=>
  rw[hk]at h1 h2;exact⟨l,rfl,Ob.ren_own h1,z,h2,h3⟩
section
variable{P:Program}{n:Nat}{σ τ:St}{K:OkX}{w0 w:World}{a:Act}{β:Nat->Option Value}
theorem RelB.relabel(r:RelB P K w0 n σ a w β)(src:List Nat)(hnd:src.Nodup)(h0:∀i,i<σ.k0->src[i]? =some i)(ts':List AV)(ht:∀k,tk ts' k= .dead∨tk ts' k=(tk σ.ts k).ren (ix src)):
  RelB P K w0 n ⟨ts',gT (ix src) σ.hs src,σ.k0⟩ a w (gU src β):=by
 have hk:∀b,okOf K w0 w σ.hs β b->okOf K w0 w (gT (ix src) σ.hs src) (gU src β) b∧w.heap[b]? =w.heap[b]? :=by rintro b ⟨h1,h2,h3⟩;refine⟨⟨h1,h2,fun k hk=>?_⟩,rfl⟩;obtain⟨l,_,h5⟩:=kr hk;exact h3 l h5
 refine⟨r.size,r.defers,r.below,fun k=>?_,fun k=>?_,fun k k' b h1 h2=>?_,fun k b h1=>?_,fun k hk0=>?_,r.kk,r.tab.mono hk⟩
 ·rcases ht k with e|e
  ·show RV P _ w _ (tk ts' k) _;rw[e];trivial
  ·show RV P _ w _ (tk ts' k) _;rw[e];exact RV.ren (kM src β) ((r.ts k).mono hk (Ext.refl _))
 ·show ObOK P _ w _ (lk (gT (ix src) σ.hs src) k) _;rw[xV];simp only[gU];cases hs:src[k]? with
  |none=>rfl
  |some l=>exact ObOK.ren (kM src β) ((r.hs l).mono hk (fun _ _ _ _ _=>rfl) (Ext.refl _))
 ·obtain⟨l,e1,h3⟩:=kr h1;obtain⟨l',e2,h4⟩:=kr h2;have e:=r.sep l l' b h3 h4;subst e;have hlt:=(ak.1 e1).1;exact(List.getElem?_inj hlt hnd).1 (e1.trans e2.symm)
 ·obtain⟨l,_,h3⟩:=kr h1;exact r.own l b h3
 ·rw[r.kk]at hk0;simp only[gU,h0 k hk0];exact r.ext k (by rw[r.kk];exact hk0)
theorem Rel.congr(h1:∀k,tk τ.ts k= .dead∨tk τ.ts k=tk σ.ts k)(h2:∀l,lk τ.hs l=lk σ.hs l)(h3:τ.k0=σ.k0):Imp P n σ τ:=by
 rintro K w0 a w ⟨β,r⟩;have ho:∀l b,owns τ.hs β l b↔owns σ.hs β l b:=fun l b=>by simp only[owns,h2]
 have hk:∀b,okOf K w0 w σ.hs β b->okOf K w0 w τ.hs β b∧w.heap[b]? =w.heap[b]? :=fun b hb=>⟨⟨hb.1,hb.2.1,fun l hl=>hb.2.2 l ((ho l b).1 hl)⟩,rfl⟩;refine⟨β,r.size,r.defers,r.below,fun k=>?_,fun l=>?_,fun l l' b q1 q2=>r.sep l l' b ((ho _ _).1 q1) ((ho _ _).1 q2),fun l b q1=>r.own l b ((ho _ _).1 q1),r.ext,by rw[h3];exact r.kk,r.tab.mono hk⟩
 ·rcases h1 k with e|e;·rw[e];trivial
  ·rw[e];exact(r.ts k).mono hk (Ext.refl _)
 ·rw[h2];exact(r.hs l).mono hk (fun _ _ _ _ _=>rfl) (Ext.refl _)
def vW:List Nat->Nat
 | []=>0
 |a::r=>bif Nat.blt a (vW r)then vW r else a+1
def jA(keep:List Nat)(b:Nat):List AV->Nat->List AV
 | [],_=>[]
 |v::r,k=>bif Nat.blt k b then(bif dZ k keep then v else .dead)::jA keep b r (k+1)else[]
theorem UC(keep:List Nat)(b:Nat):∀(ts:List AV)(j k:Nat),tk (jA keep b ts j) k= .dead∨tk (jA keep b ts j) k=tk ts k
 | [],j,k=> .inl rfl
 |v::r,j,k=>by
  simp only[jA];cases Nat.blt j b with
  |false=>exact .inl rfl
  |true=>
   cases k with
   |    zero=>
        simp only[cond_true,tk];cases dZ j keep with
        |true=>exact .inr rfl
        |false=>exact .inl rfl
   |succ k=>simpa [tk]using UC keep b r (j+1) k
def frz1(hs:List Ob)(l:Nat):List Ob:=match lk hs l with
 | .row T es=>aV hs l (.frz T es)
 |_=>hs
def frzN(hs:List Ob):List Nat->List Ob
 | []=>hs
 |l::r=>frzN (frz1 hs l) r
theorem Imp.frz1(l:Nat):Imp P n σ ⟨σ.ts,frz1 σ.hs l,σ.k0⟩:=by
 rintro K w0 a w ⟨β,r⟩;unfold Am.frz1;split;·rename_i T es hl;exact⟨β,r.frz hl⟩
 ·exact⟨β,r⟩
theorem Imp.frzN:∀(ls:List Nat)(σ:St),Imp P n σ ⟨σ.ts,frzN σ.hs ls,σ.k0⟩
 | [],σ=>Imp.refl
 |l::r,σ=>(Imp.frz1 l).trans (Imp.frzN r ⟨σ.ts,Am.frz1 σ.hs l,σ.k0⟩)
def gon1(hs:List Ob)(l:Nat):List Ob:=match lk hs l with
 | .row _ _=>aV hs l .gone
 |_=>hs
def gonN(hs:List Ob):List Nat->List Ob
 | []=>hs
 |l::r=>gonN (gon1 hs l) r
theorem Imp.gon1(l:Nat):Imp P n σ ⟨σ.ts,gon1 σ.hs l,σ.k0⟩:=by
 rintro K w0 a w ⟨β,r⟩;unfold Am.gon1;split;·rename_i T es hl;exact⟨β,r.drop l (by rw[hl];simp)⟩
 ·exact⟨β,r⟩
theorem Imp.gonN:∀(ls:List Nat)(σ:St),Imp P n σ ⟨σ.ts,gonN σ.hs ls,σ.k0⟩
 | [],σ=>Imp.refl
 |l::r,σ=>(Imp.gon1 l).trans (Imp.gonN r ⟨σ.ts,Am.gon1 σ.hs l,σ.k0⟩)
theorem RelB.nilrow(r:RelB P K w0 n σ a w β){l:Nat}{T E:TypeId}(hu:P.underlying T=some (.slice E))(hf:lk σ.hs l= .free)(hk0:σ.k0<=l):RelB P K w0 n (σ.lay l (.row T [])) a w (upB β l (some (.slice none 0 0))):=by have hfree:=r.hs l;rw[hf]at hfree;exact r.upd l (.row T []) (some (.slice none 0 0)) w (.inr ⟨hfree,hk0⟩) rfl rfl rfl (aL _) (fun _ _ _=>rfl) (fun z b _ hz hb=>by cases hz;simp[Blk,blk]at hb) fun _ _=>⟨E,_,[],rfl,hu,World.ownsRow_nil _ _ _ _,fun c hc=>by simp at hc,fun i d hd=>by simp at hd⟩
mutual
def AV.n2r(P:Program):AV->Nat->AV×List TypeId
 |  .nils T,k=>match P.underlying T with
    |some (.slice _)=>(.row k,[T])
    |_=>(.nils T,[])
 | .agg T vs,k=>let r:=AV.n2rL P vs k;(.agg T r.1,r.2)
 |v,_=>(v,[])
def AV.n2rL(P:Program):List AV->Nat->List AV×List TypeId
 | [],_=>([],[])
 |v::vs,k=>let r:=AV.n2r P v k;let q:=AV.n2rL P vs (k+r.2.length);(r.1::q.1,r.2++q.2)
end
def kN(hs:List Ob)(k:Nat):List TypeId->List Ob
 | []=>hs
 |T::r=>kN (aV hs k (.row T [])) (k+1) r
def vX(β:Nat->Option Value)(k m:Nat):Prop:=∀i,k<=i->i<k+m->β i=some (.slice none 0 0)
theorem vX.left{β:Nat->Option Value}{k m q:Nat}(h:vX β k (m+q)):vX β k m:=fun i h1 h2=>h i h1 (by omega)
theorem vX.right{β:Nat->Option Value}{k m q:Nat}(h:vX β k (m+q)):vX β (k+m) q:=fun i h1 h2=>h i (by omega) (by omega)
theorem MG(P:Program):∀(vs:List AV)(k i:Nat)(u:AV),(AV.n2rL P vs k).1[i]? =some u->∃v j,vs[i]? =some v∧u=(AV.n2r P v j).1∧∀β:Nat->Option Value,vX β k (AV.n2rL P vs k).2.length->vX β j (AV.n2r P v j).2.length
 | [],k,i,u,h=>by simp[AV.n2rL]at h
 |v::vs,k,0,u,h=>by simp only[AV.n2rL,aO,aA]at h;exact⟨v,k,rfl,h.symm,fun β hb=>by simp only[AV.n2rL,aT]at hb;exact hb.left⟩
 |v::vs,k,i+1,u,h=>by simp only[AV.n2rL,aR]at h;obtain⟨v',j,h1,h2,h3⟩:=MG P vs _ i u h;exact⟨v',j,by simpa using h1,h2,fun β hb=>h3 β (by simp only[AV.n2rL,aT]at hb;exact hb.right)⟩
theorem MH(P:Program):∀(vs:List AV)(k:Nat),(AV.n2rL P vs k).1.length=vs.length
 | [],k=>rfl
 |v::vs,k=>by simp[AV.n2rL,MH P vs]
theorem RA.n2r{ok:Nat->Prop}{w:World}{β:Nat->Option Value}{v:AV}{cs:List Value}(h:RA P ok w β v cs):∀k,vX β k (AV.n2r P v k).2.length->RA P ok w β (AV.n2r P v k).1 cs:=by
 induction h with
 |nils=>
  intro k hb;simp only[AV.n2r]at hb ⊢
  split at hb;·exact .row (hb k (aL _) (by simp)) rfl
  ·exact .nils
 |agg hu hl hc h1 _ ih=>
  intro k hb;simp only[AV.n2r]at hb ⊢
  refine .agg hu (by rw[MH];exact hl) hc h1 fun i f u hf hu2=>?_;obtain⟨v,j,q1,q2,q3⟩:=MG P _ k i u hu2;subst q2;exact ih i f v hf q1 j (q3 β hb)
 |dat h=>intro k hb;exact .dat h
 |nif=>intro k hb;exact .nif
 |nni=>intro k hb;exact .nni
 |mth=>intro k hb;exact .mth
 |row h h1=>intro k hb;exact .row h h1
 |ptr h=>intro k hb;exact .ptr h
 |eptr h=>intro k hb;exact .eptr h
 |eptrB h=>intro k hb;exact .eptrB h
 |sub h=>intro k hb;exact .sub h
 |rptr h1 h2 h3 h4=>intro k hb;exact .rptr h1 h2 h3 h4
 |fn h1 h2=>intro k hb;exact .fn h1 h2
 |ifc1 h1 h2=>intro k hb;exact .ifc1 h1 h2
 |ifcA h1 h2=>intro k hb;exact .ifcA h1 h2
 |dead h=>intro k hb;exact .dead h
theorem UD(v:AV)(k:Nat):(AV.n2r P v k).1.isAgg P=v.isAgg P:=by
 cases v with
 |nils T=>simp only[AV.n2r];split<;>rfl
 |agg T vs=>rfl
 |_=>rfl
theorem anj{v:AV}{k:Nat}{us:List AV}(h:(AV.n2r P v k).1= .tup us):v= .tup us:=by
 cases v with
 |nils T=>simp only[AV.n2r]at h;split at h<;>cases h
 |agg T vs=>simp[AV.n2r]at h
 |tup vs=>simpa [AV.n2r]using h
 |_=>simp[AV.n2r]at h
theorem RV.n2r{ok:Nat->Prop}{w:World}{β:Nat->Option Value}{v:AV}{z:Value}(h:RV P ok w β v z)(k:Nat)(hb:vX β k (AV.n2r P v k).2.length):RV P ok w β (AV.n2r P v k).1 z:=by
 by_cases hd:v= .dead;·subst hd;trivial
 ·by_cases ht:∃us,v= .tup us
  ·obtain⟨us,rfl⟩:=ht;exact h
  ·have h1:=RV.to1 hd (fun us e=>ht ⟨us,e⟩) h;refine RV1.toRV ⟨fun hi=>?_,fun hi=>?_⟩ fun us e=>ht ⟨us,anj e⟩
   ·    rw[UD]at hi;obtain⟨cs,e,q⟩:=h1.1 hi;exact⟨cs,e,q.n2r k hb⟩
   ·    rw[UD]at hi;exact(h1.2 hi).n2r k hb
theorem Ri(P:Program)(v:AV)(k:Nat):∀T∈(AV.n2r P v k).2,∃E,P.underlying T=some (.slice E):=by
 refine AV.rec (motive_1:=fun v=>∀k,∀T∈(AV.n2r P v k).2,∃E,P.underlying T=some (.slice E)) (motive_2:=fun vs=>∀k,∀T∈(AV.n2rL P vs k).2,∃E,P.underlying T=some (.slice E)) ?_ ?_ ?_ ?_ ?_ ?_ ?_ ?_ ?_ ?_ ?_ ?_ ?_ ?_ ?_ ?_ v k;·intro T d k T' h;simp[AV.n2r]at h
 ·intro T vs ih k T' h;exact ih k T' h
 ·intro l k T' h;simp[AV.n2r]at h
 ·intro l p o k T' h;simp[AV.n2r]at h
 ·intro l i z p o k T' h;simp[AV.n2r]at h
 ·intro l i z k T' h;simp[AV.n2r]at h
 ·intro T d k T' h;simp[AV.n2r]at h
 ·intro f c _ k T' h;simp[AV.n2r]at h
 ·intro vs _ k T' h;simp[AV.n2r]at h
 ·intro T k T' h;simp only[AV.n2r]at h;split at h
  ·rename_i E hu;simp only[List.mem_singleton]at h;subst h;exact⟨E,hu⟩
  ·simp at h
 ·intro b k T' h;simp[AV.n2r]at h
 ·intro T v _ k T' h;simp[AV.n2r]at h
 ·intro T m k T' h;simp[AV.n2r]at h
 ·intro k T' h;simp[AV.n2r]at h
 ·intro k T' h;simp[AV.n2rL]at h
 ·intro v vs h1 h2 k T' h;simp only[AV.n2rL,List.mem_append]at h;rcases h with h|h;·exact h1 _ T' h
  ·exact h2 _ T' h
theorem Jc(hs:List Ob):∀(Ts:List TypeId)(σ:St)(K:OkX)(w0 w:World)(a:Act)(β:Nat->Option Value)(k:Nat),RelB P K w0 n σ a w β->(∀T∈Ts,∃E,P.underlying T=some (.slice E))->(∀i,k<=i->lk σ.hs i= .free)->σ.k0<=k->
  ∃β',RelB P K w0 n ⟨σ.ts,kN σ.hs k Ts,σ.k0⟩ a w β'∧Ext β β'∧vX β' k Ts.length
 | [],σ,K,w0,w,a,β,k,r,_,_,_=>⟨β,r,Ext.refl _,fun i h1 h2=>by simp at h2;omega⟩
 |T::Ts,σ,K,w0,w,a,β,k,r,hT,hf,hk=>by
  obtain⟨E,hu⟩:=hT T (by simp);have hfk:=hf k (aL _);have r1:=r.nilrow hu hfk hk;obtain⟨β',r2,e2,n2⟩:=Jc hs Ts (σ.lay k (.row T [])) K w0 w a _ (k+1) r1 (fun T' h=>hT T' (by simp[h])) (fun i hi=>by show lk (aV σ.hs k _) i= .free;rw[aS _ _ _ _ (by omega)];exact hf i (by omega)) (by show σ.k0<=k+1;omega)
  have hb:β k=none:=by have:=r.hs k;rw[hfk]at this;exact this
  have e1:Ext β (upB β k (some (.slice none 0 0))):=fun i z hz=>by
   by_cases hik:i=k;·subst hik;rw[hb]at hz;cases hz
   ·rw[bO _ _ _ _ hik];exact hz
  refine⟨β',r2,e1.trans e2,fun i h1 h2=>?_⟩;by_cases hik:i=k;·subst hik;exact e2 _ _ (bJ _ _ _)
  ·exact n2 i (by omega) (by simp at h2 ⊢;omega)
theorem dF:∀(hs:List Ob)(i:Nat),hs.length<=i->lk hs i= .free
 | [],_,_=>rfl
 |_::r,0,h=>by simp at h
 |_::r,i+1,h=>by simp only[lk];exact dF r i (by simpa using h)
def nilSlot(P:Program)(σ:St)(s:Nat):St:=
 let r:=AV.n2r P (tk σ.ts s) σ.hs.length
 match r.2 with
 | []=>σ
 |_::_=>bif Nat.ble σ.k0 σ.hs.length then⟨jW σ.ts s r.1,kN σ.hs σ.hs.length r.2,σ.k0⟩else σ
theorem Imp.nilSlot(s:Nat):Imp P n σ (nilSlot P σ s):=by
 rintro K w0 a w ⟨β,r⟩;unfold Am.nilSlot;simp only;split;·exact⟨β,r⟩
 ·rename_i x y hxy;cases hb:Nat.ble σ.k0 σ.hs.length with
  |false=>exact⟨β,r⟩
  |true=>
   obtain⟨β',r2,e2,n2⟩:=Jc σ.hs _ σ K w0 w a β σ.hs.length r (Ri P (tk σ.ts s) σ.hs.length) (fun i hi=>dF _ _ hi) (aI hb);refine⟨β',r2.size,r2.defers,r2.below,fun k=>?_,r2.hs,r2.sep,r2.own,r2.ext,r2.kk,r2.tab⟩;show RV P _ w β' (tk (jW σ.ts s _) k) _;rw[iD];by_cases hk:k=s;·subst hk;rw[if_pos rfl];exact(r2.ts k).n2r _ n2
   ·rw[if_neg hk];exact r2.ts k
def nilBox(P:Program)(σ:St)(b:Nat):St:=
 match lk σ.hs b with
 |  .box T c=>
    let r:=AV.n2r P c σ.hs.length
    match r.2 with
    | []=>σ
    |_::_=>bif Nat.ble σ.k0 σ.hs.length then⟨σ.ts,aV (kN σ.hs σ.hs.length r.2) b (.box T r.1),σ.k0⟩else σ
 |_=>σ
theorem UE:∀(Ts:List TypeId)(hs:List Ob)(k i:Nat),i<k->lk (kN hs k Ts) i=lk hs i
 | [],hs,k,i,h=>rfl
 |T::Ts,hs,k,i,h=>by rw[kN,UE Ts _ (k+1) i (by omega),aS _ _ _ _ (by omega)]
theorem Imp.nilBox(b:Nat):Imp P n σ (nilBox P σ b):=by
 rintro K w0 a w ⟨β,r⟩;unfold Am.nilBox;split
 ·rename_i T c hl;simp only;split;·exact⟨β,r⟩
  ·rename_i x y hxy;cases hb:Nat.ble σ.k0 σ.hs.length with
   |false=>exact⟨β,r⟩
   |    true=>
        obtain⟨β',r2,e2,n2⟩:=Jc σ.hs _ σ K w0 w a β σ.hs.length r (Ri P c σ.hs.length) (fun i hi=>dF _ _ hi) (aI hb);have hlt:b<σ.hs.length:=by
         rcases Nat.lt_or_ge b σ.hs.length with h|h;·exact h
         ·rw[dF _ _ h]at hl;cases hl
        have hl2:lk (kN σ.hs σ.hs.length (AV.n2r P c σ.hs.length).2) b= .box T c:=by rw[UE _ _ _ _ hlt];exact hl
        refine⟨_,r2.upd b (.box T (AV.n2r P c σ.hs.length).1) (β' b) w (.inl rfl) rfl rfl rfl (aL _) (fun _ _ _=>rfl) (fun z b2 _ hz hb2=> .inr ⟨by show (lk (kN _ _ _) b).isOwn=true;rw[hl2];rfl,z,hz,hb2⟩) fun hx hk=>?_⟩;have hob:=r2.hs b;have hl3:lk (St.mk σ.ts (kN σ.hs σ.hs.length (AV.n2r P c σ.hs.length).2) σ.k0).hs b= .box T c:=hl2;rw[hl3]at hob;obtain⟨g,cs,h1,h3,h4,h5⟩:=hob;exact⟨g,cs,h1,h3,h4,(h5.n2r _ n2).mono hk hx⟩
 ·exact⟨β,r⟩
end
inductive RVsX (P:Program) (ok:Nat->Prop) (w:World) (β:Nat->Option Value):List AV->List Value->Prop where
 |nil:RVsX P ok w β [] []
 |cons {v:AV} {x:Value} {vs:List AV} {xs:List Value} (h:RV P ok w β v x) (r:RVsX P ok w β vs xs):RVsX P ok w β (v::vs) (x::xs)
def XO(hs:List Ob)(β:Nat->Option Value)(b:Nat):Prop:=∃l,owns hs β l b
structure FinX (P:Program) (ok:Nat->Prop) (w w':World) (β β':Nat->Option Value) (hs hs':List Ob):Prop where
 below:BelowX (XO hs β) w w'
 obs:∀l,ObOK P (okOf ⟨ok,XO hs β,β,hs.length⟩ w w' hs' β') w' β' (lk hs' l) (β' l)
 sep:∀l l' b,owns hs' β' l b->owns hs' β' l' b->l=l'
 own:∀l b,owns hs' β' l b->w.heap.size<=b∨XO hs β b
 ext:∀l,l<hs.length->β' l=β l
def FX(P:Program)(f:FuncId)(args:List AV)(hs:List Ob)(res:AV)(hs':List Ob):Prop:=
 ∀(ok:Nat->Prop)(w:World)(β:Nat->Option Value)(vs:List Value),
    (∀b,ok b->b<w.heap.size∧¬XO hs β b)->
    (∀l,ObOK P ok w β (lk hs l) (β l))->
    (∀l l' b,owns hs β l b->owns hs β l' b->l=l')->
    RVsX P ok w β args vs->
    TabOK ok w->
    Calls P f vs.toArray w fun e w'=>∃v β',e= .returned v∧FinX P ok w w' β β' hs hs'∧RV P (okOf ⟨ok,XO hs β,β,hs.length⟩ w w' hs' β') w' β' res v
def CP(P:Program)(T:TypeId):Bool:=match P.underlying T with
 |some (.interface _)=>false
 |some (.pointer _)=>false
 |some _=>true
 |none=>false
def xk(P:Program)(T:TypeId)(name:String):Option FuncId:=bif CP P T then(match P.info? T with
 |  some i=>match i.methods.find? (·.name==name)with
    |some m=>match m.path.toList with
     | []=>match m.func with
       |some (f,false)=>some f
       |_=>none
     |_=>none
    |none=>none
 |none=>none)else none
section
variable{P:Program}{n:Nat}{o:Oper}{σ τ:St}{x y:Operand}{v res:AV}{T:TypeId}{ok:Nat->Prop}{w w0:World}{β β':Nat->Option Value}{K:OkX}{a:Act}
theorem RVsX.len{vs:List AV}{xs:List Value}(h:RVsX P ok w β vs xs):xs.length=vs.length:=by
 induction h with
 |nil=>rfl
 |cons _ _ ih=>simp[ih]
theorem RVsX.get{vs:List AV}{xs:List Value}(h:RVsX P ok w β vs xs):∀(i:Nat)(v:AV),vs[i]? =some v->∃x,xs[i]? =some x∧RV P ok w β v x:=by
 induction h with
 |nil=>intro i v hv;simp at hv
 | @cons v x vs xs h _ ih=>
   intro i v' hv;cases i with
   |zero=>simp only[aO,aA]at hv;subst hv;exact⟨x,rfl,h⟩
   |succ i=>simp only[aR]at hv;obtain⟨x',h1,h2⟩:=ih i v' hv;exact⟨x',by simpa using h1,h2⟩
theorem RVsX.tk{vs:List AV}{xs:List Value}(h:RVsX P ok w β vs xs)(k:Nat):RV P ok w β (tk vs k) (xs.getD k undef):=by
 induction h generalizing k with
 |nil=>exact trivial
 |cons h _ ih=>
  cases k with
  |zero=>exact h
  |succ k=>simpa [Am.tk]using ih k
theorem RVsX.app{vs us:List AV}{xs ys:List Value}(h:RVsX P ok w β vs xs)(h2:RVsX P ok w β us ys):RVsX P ok w β (vs++us) (xs++ys):=by
 induction h with
 |nil=>exact h2
 |cons h _ ih=>exact .cons h ih
theorem RVsX.ren{Z:Nat->Option Nat}{vs:List AV}{xs:List Value}(hr:xg Z β β')(h:RVsX P ok w β vs xs):RVsX P ok w β' (AV.renL Z vs) xs:=by
 induction h with
 |nil=>exact .nil
 |cons h _ ih=>exact .cons (h.ren hr) ih
theorem RVsX.of_get:∀{vs:List AV}{xs:List Value},xs.length=vs.length->(∀(i:Nat)(v:AV),vs[i]? =some v->RV P ok w β v (xs.getD i undef))->RVsX P ok w β vs xs
 | [],[],_,_=> .nil
 |v::vs,x::xs,hl,h=> .cons (by simpa using h 0 v rfl) (RVsX.of_get (by simpa using hl) fun i v' hv=>by simpa using h (i+1) v' (by simpa using hv))
structure HasBody (P:Program) (f:FuncId):Prop where
 ex:∃fn,P.funcs[f]? =some fn∧fn.body.isNone=false∧(fn.name== "runtime.NumGoroutine")=false
theorem sS{f:FuncId}(hb:HasBody P f)(w:World)(args:Array Value):(callFunc f args).run P w= .ok (.enter f args) w:=by obtain⟨fn,h1,h2,h3⟩:=hb.ex;simp only[callFunc,Sem.run_bind,program];simp only[Sem.run,Result.andThen_ok,h1,h3,h2,Bool.false_eq_true,if_false,Sem.run_pure]
theorem Gm{xs:List Operand}{ts:Array TypeId}{g:Operand}{f:FuncId}{cv:Array Value}(ho:o.op= .call {callee:= .value g,args:=xs.toArray,argTypes:=ts})(hb:HasBody P f)(a:Act)(w:World)(hg:a.eval g= .func (.func f) #[] cv):
  (execOp a.eval o).run P w= .ok (.enter f (xs.map a.eval++cv.toList).toArray) w:=by
 simp only[execOp,ho,resolve,Sem.run_bind,Deferred.ofValue,hg,Sem.run_pure,Result.andThen_ok,invoke,Array.empty_append,List.map_toArray,sS hb];congr 2;apply Array.ext';simp
theorem MI{f:FuncId}{caps:List AV}{z:Value}(h:RV P ok w β (.fn f caps) z)(hc:∀v∈caps,v.isAgg P=false∧∀us,v≠ .tup us):∃cv:Array Value,z= .func (.func f) #[] cv∧RVsX P ok w β caps cv.toList:=by
 have h':=h.2 rfl;cases h' with
 | @fn _ _ cv hl hr=>
   refine⟨cv,rfl,RVsX.of_get (by simpa using hl) fun i v hv=>?_⟩;have hm:=hc v (aM hv);have hri:=hr i v hv;have e:cv.toList.getD i undef=cv.getD i undef:=by simp[List.getD,Array.getD_eq_getD_getElem?]
   rw[e];exact RV1.toRV ⟨(fun hi=>by rw[hm.1]at hi;cases hi),fun _=>hri⟩ hm.2
inductive EvXs (P:Program) (σ:St):List Operand->List AV->Prop where
 |nil:EvXs P σ [] []
 |cons {x:Operand} {v:AV} {xs:List Operand} {vs:List AV} (h:Ev P σ x v) (r:EvXs P σ xs vs):EvXs P σ (x::xs) (v::vs)
theorem EvXs.rvs{xs:List Operand}{vs:List AV}(h:EvXs P σ xs vs)(r:RelB P K w0 n σ a w β):RVsX P (okOf K w0 w σ.hs β) w β vs (xs.map a.eval):=by
 induction h with
 |nil=>exact .nil
 |cons h _ ih=>exact .cons (h _ _ _ _ _ _ r) ih
def bkN(src:List Nat)(nm j:Nat):Option Nat:=match src[j]? with
 |some l=>some l
 |none=>some (nm+(j-src.length))
def bkB(src:List Nat)(nm m:Nat)(β β':Nat->Option Value)(c:Nat):Option Value:=if nm<=c∧c<nm+m then β' (src.length+(c-nm))else β c
structure BackH (src:List Nat) (nm:Nat) (hs objs' hs'':List Ob):Prop where
 old:∀i l,src[i]? =some l->lk hs'' l=(lk objs' i).ren (bkN src nm)
 new:∀j,src.length<=j->j<objs'.length->lk hs'' (nm+(j-src.length))=(lk objs' j).ren (bkN src nm)
 rest:∀c,c∉src->¬(nm<=c∧c<nm+(objs'.length-src.length))->lk hs'' c=lk hs c
theorem Yf{src:List Nat}{nm:Nat}{objs objs' hs'':List Ob}(r:RelB P K w0 n σ a w β)(hnd:src.Nodup)(hol:objs.length=src.length)(hobj:∀i l,src[i]? =some l->lk objs i=(lk σ.hs l).ren (ix src))
  (hfree:∀j,j<objs'.length-src.length->lk σ.hs (nm+j)= .free)(hk0:σ.k0<=nm)(hsf:∀l∈src,lk σ.hs l≠ .free)(hback:BackH src nm σ.hs objs' hs''){w':World}{β':Nat->Option Value}
  (fin:FinX P (okOf K w0 w σ.hs β) w w' (gU src β) β' objs objs'){z:Value}(hz:RV P (okOf ⟨okOf K w0 w σ.hs β,XO objs (gU src β),gU src β,objs.length⟩ w w' objs' β') w' β' res z):
  ∃β'',RelB P K w0 n ⟨σ.ts,hs'',σ.k0⟩ a w' β''∧RV P (okOf K w0 w' hs'' β'') w' β'' (res.ren (bkN src nm)) z:=by
 have hβnew:∀j,j<objs'.length-src.length->β (nm+j)=none:=fun j hj=>by have:=r.hs (nm+j);rw[hfree j hj]at this;exact this
 have hsrcnew:∀l∈src,¬(nm<=l∧l<nm+(objs'.length-src.length)):=fun l hl hc=>hsf l hl (by
  have:=hfree (l-nm) (by omega)
  rwa [show nm+(l-nm)=l by omega]at this)
 have hob:∀i l,src[i]? =some l->β' i=β l:=fun i l hi=>by have hlt:=(ak.1 hi).1;rw[fin.ext i (by omega)];simp only[gU,hi]
 have hext:Ext β (bkB src nm (objs'.length-src.length) β β'):=fun l z' hl=>by
  unfold bkB;split
  ·rename_i hc;have:=hβnew (l-nm) (by omega);rw[show nm+(l-nm)=l by omega,hl]at this;cases this
  ·exact hl
 have hren:xg (bkN src nm) β' (bkB src nm (objs'.length-src.length) β β'):=fun j c z' hj hz'=>by
  unfold bkN at hj;split at hj
  ·rename_i l hl;cases hj;rw[hob j c hl]at hz';exact hext _ _ hz'
  ·rename_i hl;cases hj;have hjl:src.length<=j:=List.getElem?_eq_none_iff.1 hl;have hj2:j<objs'.length:=by
        rcases Nat.lt_or_ge j objs'.length with h|h;·exact h
        ·have:=fin.obs j;rw[dF _ _ h]at this;have e:β' j=none:=this;rw[e]at hz';cases hz'
   unfold bkB;rw[if_pos (by omega),show src.length+(nm+(j-src.length)-nm)=j by omega];exact hz'
 have hXO:∀b,XO objs (gU src β) b->∃l,l∈src∧owns σ.hs β l b:=by
  rintro b ⟨i,h1,z',h2,h3⟩;simp only[gU]at h2;cases hs:src[i]? with
  |none=>rw[hs]at h2;cases h2
  |some l=>
   rw[hs]at h2;rw[hobj i l hs]at h1;replace h1:=Ob.ren_own h1
   exact⟨l,aM hs,h1,z',h2,h3⟩
 have hcls:∀c b,owns hs'' (bkB src nm (objs'.length-src.length) β β') c b->(∃j,bkN src nm j=some c∧owns objs' β' j b)∨(c∉src∧owns σ.hs β c b):=by
  rintro c b ⟨h1,z',h2,h3⟩;by_cases hc:nm<=c∧c<nm+(objs'.length-src.length)
  ·left;unfold bkB at h2;rw[if_pos hc]at h2;have hnw:=hback.new (src.length+(c-nm)) (by omega) (by omega);rw[show nm+(src.length+(c-nm)-src.length)=c by omega]at hnw;rw[hnw]at h1;replace h1:=Ob.ren_own h1
   refine⟨src.length+(c-nm),?_,h1,z',h2,h3⟩;unfold bkN;rw[List.getElem?_eq_none (by omega)];simp only;congr 1;omega
  ·unfold bkB at h2;rw[if_neg hc]at h2;by_cases hm:c∈src
   ·    left;obtain⟨i,hi⟩:=List.getElem?_of_mem hm;rw[hback.old i c hi]at h1;replace h1:=Ob.ren_own h1
        exact⟨i,by unfold bkN;rw[hi],h1,z',by rw[hob i c hi];exact h2,h3⟩
   ·    right;rw[hback.rest c hm hc]at h1;exact⟨hm,h1,z',h2,h3⟩
 have hunch:∀b,b<w.heap.size->¬XO objs (gU src β) b->w'.heap[b]? =w.heap[b]? :=fun b h1 h2=>fin.below.block b h1 h2;have hnXO:∀b,okOf K w0 w σ.hs β b->¬XO objs (gU src β) b:=fun b hb hx=>by obtain⟨l,_,hl⟩:=hXO b hx;exact hb.2.2 l hl
 have hk:∀b,okOf K w0 w σ.hs β b->okOf K w0 w' hs'' (bkB src nm (objs'.length-src.length) β β') b∧w'.heap[b]? =w.heap[b]? :=by
  intro b hb;refine⟨⟨Nat.lt_of_lt_of_le hb.1 fin.below.size,hb.2.1,fun c hc=>?_⟩,hunch b hb.1 (hnXO b hb)⟩;rcases hcls c b hc with⟨j,_,hj⟩| ⟨_,hc2⟩
  ·rcases fin.own j b hj with h1|h1;·have:=hb.1;omega
   ·exact hnXO b hb h1
  ·exact hb.2.2 c hc2
 have hk2:∀b,okOf ⟨okOf K w0 w σ.hs β,XO objs (gU src β),gU src β,objs.length⟩ w w' objs' β' b->okOf K w0 w' hs'' (bkB src nm (objs'.length-src.length) β β') b∧w'.heap[b]? =w'.heap[b]? :=by
  rintro b ⟨h1,h2,h3⟩;refine⟨⟨h1,fun hlt=>?_,fun c hc=>?_⟩,rfl⟩
  ·rcases h2 (Nat.lt_of_lt_of_le hlt r.below.size)with h4|h4;·exact h4.2.1 hlt
   ·    obtain⟨l,_,hl⟩:=hXO b h4;rcases r.own l b hl with h5|h5;·omega
        ·exact .inr h5
  ·rcases hcls c b hc with⟨j,_,hj⟩| ⟨hm,hc2⟩;·exact h3 j hj
   ·    rcases h2 (r.blk_lt hc2)with h4|h4;·exact h4.2.2 c hc2
        ·obtain⟨l,hl1,hl⟩:=hXO b h4;have:=r.sep c l b hc2 hl;subst this;exact hm hl1
 refine⟨_,⟨r.size,r.defers,?_,fun k=>(r.ts k).mono hk hext,fun c=>?_,fun c c' b h1 h2=>?_,fun c b h1=>?_,fun l hl=>?_,r.kk,r.tab.mono hk⟩,(hz.mono hk2 (Ext.refl _)).ren hren⟩
 ·refine⟨fin.below.os.trans r.below.os,fin.below.tape.trans r.below.tape,fin.below.output.trans r.below.output,Nat.le_trans r.below.size fin.below.size,fun b hb hx=>(hunch b (Nat.lt_of_lt_of_le hb r.below.size) fun h=>?_).trans (r.below.block b hb hx)⟩;obtain⟨l,_,hl⟩:=hXO b h;rcases r.own l b hl with h1|h1;·omega
  ·exact hx h1
 ·show ObOK P _ w' _ (lk hs'' c) _;by_cases hc:nm<=c∧c<nm+(objs'.length-src.length)
  ·have hnw:=hback.new (src.length+(c-nm)) (by omega) (by omega);rw[show nm+(src.length+(c-nm)-src.length)=c by omega]at hnw;rw[hnw];have e:bkB src nm (objs'.length-src.length) β β' c=β' (src.length+(c-nm)):=by unfold bkB;rw[if_pos hc]
   rw[e];exact ObOK.ren hren ((fin.obs _).mono hk2 (fun _ _ _ _ _=>rfl) (Ext.refl _))
  ·have e:bkB src nm (objs'.length-src.length) β β' c=β c:=by unfold bkB;rw[if_neg hc]
   rw[e];by_cases hm:c∈src
   ·    obtain⟨i,hi⟩:=List.getElem?_of_mem hm;rw[hback.old i c hi,←hob i c hi];exact ObOK.ren hren ((fin.obs _).mono hk2 (fun _ _ _ _ _=>rfl) (Ext.refl _))
   ·    rw[hback.rest c hm hc];refine(r.hs c).mono hk (fun z' b h1 h2 h3=>hunch b (r.blk_lt ⟨h1,z',h2,h3⟩) fun hx=>?_) hext;obtain⟨l,hl1,hl⟩:=hXO b hx;have:=r.sep c l b ⟨h1,z',h2,h3⟩ hl;subst this;exact hm hl1
 ·have hinj:∀j j' c,bkN src nm j=some c->bkN src nm j'=some c->owns objs' β' j b->owns objs' β' j' b->True:=fun _ _ _ _ _ _ _=>trivial;rcases hcls c b h1 with⟨j,e1,hj⟩| ⟨hm,hc2⟩
  ·rcases hcls c' b h2 with⟨j',e2,hj'⟩| ⟨hm',hc2'⟩
   ·    have:=fin.sep j j' b hj hj';subst this;rw[e1]at e2;cases e2;rfl
   ·    exfalso;rcases fin.own j b hj with h3|h3;·have:=r.blk_lt hc2';omega
        ·obtain⟨l,hl1,hl⟩:=hXO b h3;have:=r.sep c' l b hc2' hl;subst this;exact hm' hl1
  ·rcases hcls c' b h2 with⟨j',e2,hj'⟩| ⟨hm',hc2'⟩
   ·    exfalso;rcases fin.own j' b hj' with h3|h3;·have:=r.blk_lt hc2;omega
        ·obtain⟨l,hl1,hl⟩:=hXO b h3;have:=r.sep c l b hc2 hl;subst this;exact hm hl1
   ·exact r.sep c c' b hc2 hc2'
 ·rcases hcls c b h1 with⟨j,_,hj⟩| ⟨_,hc2⟩
  ·rcases fin.own j b hj with h3|h3;·exact .inl (Nat.le_trans r.below.size h3)
   ·    obtain⟨l,_,hl⟩:=hXO b h3;exact r.own l b hl
  ·exact r.own c b hc2
 ·have hlt:l<nm:=by have:=r.kk;omega
  unfold bkB;rw[if_neg (by omega)];exact r.ext l hl
theorem rC{T:TypeId}(h:CP P T=true):∃D,P.underlying T=some D∧(∀ms,D≠ .interface ms)∧∀e,D≠ .pointer e:=by
 unfold CP at h;cases hu:P.underlying T with
 |none=>rw[hu]at h;cases h
 |some D=>
  rw[hu]at h;refine⟨D,rfl,?_,?_⟩<;>(intro q e;subst e;cases h)
theorem Rj{T:TypeId}{name:String}{f:FuncId}(hm:xk P T name=some f)(k:Nat)(z:Value)(w:World):(method (k+1) T z name).run P w= .ok (f,z) w:=by
 unfold xk at hm;cases hc:CP P T with
 |false=>rw[hc]at hm;cases hm
 |true=>
  rw[hc,cond_true]at hm;obtain⟨D,hu,h1,h2⟩:=rC hc;cases hi:P.info? T with
  |none=>rw[hi]at hm;cases hm
  |some i=>
   rw[hi]at hm;simp only at hm;cases hf:i.methods.find? (·.name==name)with
   |none=>rw[hf]at hm;cases hm
   |    some m=>
        rw[hf]at hm;simp only at hm;cases hp:m.path.toList with
        |cons a r=>rw[hp]at hm;cases hm
        |nil=>
         rw[hp]at hm;simp only at hm;cases hg:m.func with
         |none=>rw[hg]at hm;cases hm
         |some q=>
          obtain⟨f',b⟩:=q;rw[hg]at hm;cases b with
          |true=>cases hm
          | false=>
            cases hm;have hti:(typeInfo T).run P w= .ok i w:=by unfold typeInfo;rw[Sem.run_bind,show (program).run P w= .ok P w from rfl,Result.andThen_ok,hi];rfl
            unfold method;rw[Sem.run_bind,hti,Result.andThen_ok,hf];simp only;rw[hp,Sem.run_bind,show (follow [] T (.val z)).run P w= .ok (T,.val z) w from rfl,Result.andThen_ok];simp only[hg];rw[Sem.run_bind];unfold receiverAt;rw[Sem.run_bind,run_underlying hu,Result.andThen_ok];cases D with
            |interface ms=>exact absurd rfl (h1 ms)
            |pointer e=>exact absurd rfl (h2 e)
            |_=>rfl
theorem Jd{T:TypeId}{name:String}{f:FuncId}(hm:xk P T name=some f)(k:Nat)(z:Value)(w:World):(nilAhead (k+1) T z name).run P w= .ok (some false) w:=by
 unfold xk at hm;cases hc:CP P T with
 |false=>rw[hc]at hm;cases hm
 |true=>
  rw[hc,cond_true]at hm;obtain⟨D,hu,h1,h2⟩:=rC hc;cases hi:P.info? T with
  |none=>rw[hi]at hm;cases hm
  |some i=>
   rw[hi]at hm;simp only at hm;cases hf:i.methods.find? (·.name==name)with
   |none=>rw[hf]at hm;cases hm
   |    some m=>
        rw[hf]at hm;simp only at hm;cases hp:m.path.toList with
        |cons a r=>rw[hp]at hm;cases hm
        |nil=>
         rw[hp]at hm;simp only at hm;cases hg:m.func with
         |none=>rw[hg]at hm;cases hm
         |some q=>
          obtain⟨f',b⟩:=q;rw[hg]at hm;cases b with
          |true=>cases hm
          | false=>
            cases hm;have hti:(typeInfo T).run P w= .ok i w:=by unfold typeInfo;rw[Sem.run_bind,show (program).run P w= .ok P w from rfl,Result.andThen_ok,hi];rfl
            unfold nilAhead;rw[Sem.run_bind,hti,Result.andThen_ok,hf];simp only;rw[hp,Sem.run_bind,show (followBlind [] T (some z)).run P w= .ok (.ok (T,some z)) w from rfl,Result.andThen_ok];simp only[hg];rw[Sem.run_bind,run_underlying hu,Result.andThen_ok];cases D with
            |interface ms=>exact absurd rfl (h1 ms)
            |pointer e=>exact absurd rfl (h2 e)
            |_=>rfl
theorem CQ{xs:List Operand}{ts:Array TypeId}{g:Operand}{name:String}{f:FuncId}{T:TypeId}{z:Value}(ho:o.op= .call {callee:= .invoke g name,args:=xs.toArray,argTypes:=ts})(hb:HasBody P f)(hm:xk P T name=some f)(a:Act)(w:World)(hg:a.eval g= .iface T z):(execOp a.eval o).run P w= .ok (.enter f (z::xs.map a.eval).toArray) w:=by
 have e0:(#[Value.iface T z]++Array.map a.eval xs.toArray)[0]? =some (.iface T z):=by simp
 have e1:(#[Value.iface T z]++Array.map a.eval xs.toArray).extract 1 (#[Value.iface T z]++Array.map a.eval xs.toArray).size=(xs.map a.eval).toArray:=by apply Array.ext';simp;exact List.take_of_length_le (by simp)
 simp only[execOp,ho,resolve,Sem.run_bind,Sem.run_pure,Result.andThen_ok,invoke,hg,callMethod,e0,e1,program];simp only[Sem.run,Result.andThen_ok];rw[show P.types.size+Made.depth=(P.types.size+(Made.depth-1))+1 from rfl,Rj hm,Result.andThen_ok,sS hb];congr 2;apply Array.ext';simp
theorem UF{T:TypeId}{z:Value}(h:RV P ok w β (.ifc T v) z)(ht:∀us,v≠ .tup us):∃z',z= .iface T z'∧RV P ok w β v z':=by
 have h':=h.2 rfl;cases h' with
 | @ifc1 _ _ z' hi h1=>exact⟨z',rfl,RV1.toRV ⟨fun hi'=>(by rw[hi]at hi';cases hi'),fun _=>h1⟩ ht⟩
 | @ifcA _ _ cs hi h1=>exact⟨_,rfl,RV1.toRV ⟨fun _=>⟨cs,rfl,h1⟩,fun hi'=>by rw[hi]at hi';cases hi'⟩ ht⟩
theorem aua{z:Value}(hn:v≠ .dead)(ht:∀us,v≠ .tup us)(h:RV P ok w β v z):RV P ok w β (.ifc T v) (.iface T z):=by
 have h1:=RV.to1 hn ht h;refine⟨fun hi=>(by cases hi),fun _=>?_⟩;cases hv:v.isAgg P with
 |true=>
  obtain⟨cs,rfl,h2⟩:=h1.1 hv;exact .ifcA hv h2
 |false=>exact .ifc1 hv (h1.2 hv)
theorem agI{d:Nat}(ho:o.op= .makeInterface T x)(hd:o.dst=some d)(hn:d<n)(hc:CP P T=true)(hx:Ev P σ x v)(h1:v≠ .dead)(h2:∀us,v≠ .tup us):bD P n o σ (σ.put d (.ifc T v)):=
 bf hd hn fun ok0 w0 a w β r=>by
  obtain⟨D,hu,hi,_⟩:=rC hc;refine⟨.iface T (a.eval x),?_,aua h1 h2 (hx _ _ _ _ _ _ r)⟩;simp only[execOp,ho,Instr.makeInterface,Sem.run_bind,run_underlying hu,Result.andThen_ok];cases D with
  |interface ms=>exact absurd rfl (hi ms)
  |_=>rfl
theorem agJ{f:FuncId}{as:List AV}{zs:List Value}{src:List Nat}{nm:Nat}{objs objs' hs'':List Ob}
  (hrun:(execOp a.eval o).run P w= .ok (.enter f zs.toArray) w)
  (hnd:src.Nodup)(hol:objs.length=src.length)(hobj:∀i l,src[i]? =some l->lk objs i=(lk σ.hs l).ren (ix src))(hf:FX P f (AV.renL (ix src) as) objs res objs')
  (hfree:∀j,j<objs'.length-src.length->lk σ.hs (nm+j)= .free)(hk0:σ.k0<=nm)(hsf:∀l∈src,lk σ.hs l≠ .free)(hback:BackH src nm σ.hs objs' hs'')
  (r:RelB P K w0 n σ a w β)(ha:RVsX P (okOf K w0 w σ.hs β) w β as zs)(Kt:Act->World->Prop)(Q:Exit->Act->World->Prop)
  (hK:∀z w' β'',RelB P K w0 n ⟨σ.ts,hs'',σ.k0⟩ a w' β''->RV P (okOf K w0 w' hs'' β'') w' β'' (res.ren (bkN src nm)) z->Kt (a.put o.dst z) w'):o.wp P a w Kt Q:=by
 have hargs:=ha.ren (kM src β);have hXO:∀b,XO objs (gU src β) b->∃l,l∈src∧owns σ.hs β l b:=by
  rintro b ⟨i,h1,z',h2,h3⟩;simp only[gU]at h2;cases hs:src[i]? with
  |none=>rw[hs]at h2;cases h2
  |some l=>
   rw[hs]at h2;rw[hobj i l hs]at h1;replace h1:=Ob.ren_own h1
   exact⟨l,aM hs,h1,z',h2,h3⟩
 have hcall:=hf (okOf K w0 w σ.hs β) w (gU src β) _ (fun b hb=>⟨hb.1,fun hx=>by obtain⟨l,_,hl⟩:=hXO b hx;exact hb.2.2 l hl⟩) (fun i=>by
   simp only[gU];cases hs:src[i]? with
   |    none=>
        rw[dF _ _ (by rw[hol];exact List.getElem?_eq_none_iff.1 hs)];rfl
   |    some l=>
        rw[hobj i l hs];exact ObOK.ren (kM src β) (r.hs l)) (fun i i' b h1 h2=>by
   have key:∀i,owns objs (gU src β) i b->∃l,src[i]? =some l∧owns σ.hs β l b:=by
        rintro i ⟨h1,z',h2,h3⟩;simp only[gU]at h2;cases hs:src[i]? with
        |none=>rw[hs]at h2;cases h2
        |some l=>
         rw[hs]at h2;rw[hobj i l hs]at h1;replace h1:=Ob.ren_own h1
         exact⟨l,rfl,h1,z',h2,h3⟩
   obtain⟨l,e1,q1⟩:=key i h1;obtain⟨l',e2,q2⟩:=key i' h2;have e:=r.sep l l' b q1 q2;subst e;have hlt:=(ak.1 e1).1;exact(List.getElem?_inj hlt hnd).1 (e1.trans e2.symm)) hargs r.tab
 unfold Oper.wp;rw[hrun,Oper.upon_enter];refine hcall.mono ?_;rintro e w' ⟨z,β',rfl,hfin,hz⟩;obtain⟨β'',h1,h2⟩:=Yf r hnd hol hobj hfree hk0 hsf hback hfin hz;exact hK z w' β'' h1 h2
end
end Go.Am
namespace Go.Am
open Go.RowKit Dt
theorem fT(a b:ByteArray):(a==b)=true↔a=b:=by
 cases a with|mk x=>cases b with|mk y=>
 show (x==y)=true↔_;simp
theorem d9(a:ByteArray):(a==a)=true:=(fT a a).2 rfl
theorem ku{a b:ByteArray}(h:a≠b):(a==b)=false:=by
 cases e:(a==b)with
 |false=>rfl
 |true=>exact absurd ((fT a b).1 e) h
def mget:List Dt->ByteArray->Option Dt
 | [],_=>none
 |e::r,s=>bif (e.S 0)==s then some (e.fld 1)else mget r s
def mgetD(es:List Dt)(s:ByteArray)(z:Dt):Dt:=(mget es s).getD z
def mhas(es:List Dt)(s:ByteArray):Bool:=(mget es s).isSome
def mput:List Dt->ByteArray->Dt->List Dt
 | [],s,v=>[.agg [.str s,v]]
 |e::r,s,v=>bif (e.S 0)==s then .agg [.str s,v]::r else e::mput r s v
section
variable{P:Program}{n:Nat}{o:Oper}{σ τ:St}{x y:Operand}{v res:AV}{T:TypeId}
def ank(P:Program)(ok:Nat->Prop)(w:World)(VT:TypeId)(e:MapEntry)(d:Dt):Prop:=∃(s:ByteArray)(x:Dt),d= .agg [.str s,x]∧s.size<=maxLen∧e.key= .string s∧RD P ok w VT x [e.val]
theorem mF{ok:Nat->Prop}{w:World}{VT:TypeId}(s:ByteArray):∀(arr:List MapEntry)(es:List Dt)(i:Nat),arr.length=es.length->(∀(j:Nat)(e:MapEntry)(d:Dt),arr[j]? =some e->es[j]? =some d->ank P ok w VT e d)->
  (Instr.findNow .string (.string s) arr i=some none∧mget es s=none∧∀v,mput es s v=es++[.agg [.str s,v]])∨
  ∃(j:Nat)(e:MapEntry)(x:Dt),Instr.findNow .string (.string s) arr i=some (some (i+j,e.val))∧arr[j]? =some e∧e.key= .string s∧es[j]? =some (.agg [.str s,x])∧RD P ok w VT x [e.val]∧mget es s=some x∧∀v,mput es s v=es.set j (.agg [.str s,v])
 | [],[],i,_,_=> .inl ⟨rfl,rfl,fun v=>rfl⟩
 | [],d::es,i,hl,_=>by simp at hl
 |e::arr,[],i,hl,_=>by simp at hl
 |e::arr,d::es,i,hl,h=>by
  obtain⟨s',x,rfl,hs,hk,hr⟩:=h 0 e d rfl rfl;have ih:=mF s arr es (i+1) (by simpa using hl) (fun j e d h1 h2=>h (j+1) e d (by simpa using h1) (by simpa using h2));by_cases hb:s=s'
  ·subst hb;refine .inr ⟨0,e,x,?_,rfl,hk,rfl,hr,?_,fun v=>?_⟩;·simp[Instr.findNow,hk,Instr.sameNow,d9]
   ·simp[mget,S,fld,toStr,d9]
   ·simp[mput,S,fld,toStr,d9]
  ·have h1:(s==s')=false:=ku hb;have h2:(s'==s)=false:=ku (Ne.symm hb);have e1:Instr.findNow .string (.string s) (e::arr) i=Instr.findNow .string (.string s) arr (i+1):=by simp[Instr.findNow,hk,Instr.sameNow,h1]
   have e2:mget (agg [.str s',x]::es) s=mget es s:=by simp[mget,S,fld,toStr,h2]
   have e3:∀v,mput (agg [.str s',x]::es) s v=agg [.str s',x]::mput es s v:=fun v=>by simp[mput,S,fld,toStr,h2]
   rcases ih with⟨q1,q2,q3⟩| ⟨j,e',x',q1,q2,q3,q4,q5,q6,q7⟩;·exact .inl ⟨e1.trans q1,e2.trans q2,fun v=>by rw[e3,q3];rfl⟩
   ·    refine .inr ⟨j+1,e',x',?_,by simpa using q2,q3,by simpa using q4,q5,e2.trans q6,fun v=>by rw[e3,q7];rfl⟩;rw[e1,q1];congr 3;omega
theorem xW{K:OkX}{w0 w:World}{a:Act}{β:Nat->Option Value}{l:Nat}{T5:TypeId}{es:List Dt}(r:RelB P K w0 n σ a w β)(hx:Ev P σ x (.row l))(hl:lk σ.hs l= .map T5 es):
  ∃(b:Nat)(KT VT:TypeId)(arr:List MapEntry)(clock:Nat),a.eval x= .map (some b)∧β l=some (.map (some b))∧P.underlying T5=some (.map KT VT)∧P.underlying KT=some .string∧w.heap[b]? =some (.map arr.toArray clock)∧arr.length=es.length∧
   ∀(i:Nat)(e:MapEntry)(d:Dt),arr[i]? =some e->es[i]? =some d->ank P (okOf K w0 w σ.hs β) w VT e d:=by
 have h:=(hx _ _ _ _ _ _ r).2 rfl;generalize hz:a.eval x=z at h;cases h with
 |row h1 h2=>
  have hob:=r.hs l;rw[hl,h1]at hob;obtain⟨b,KT,VT,arr,clock,e,q1,q2,q3,q4,q5⟩:=hob;cases e;exact⟨b,KT,VT,arr,clock,rfl,h1,q1,q2,q3,q4,q5⟩
theorem fU{w:World}{b:Nat}{KT VT:TypeId}{arr:Array MapEntry}{clock:Nat}{s:ByteArray}{ok2:Bool}{r:Option (Nat×Value)}{z:Value}(hu:P.underlying T=some (.map KT VT))(hk:P.underlying KT=some .string)(hb:w.heap[b]? =some (.map arr clock))
  (hf:Instr.findNow .string (.string s) arr.toList 0=some r)(hz:(zeroValue VT).run P w= .ok z w):
  (Instr.lookup T (.map (some b)) (.string s) ok2).run P w= .ok (if ok2 then .tuple #[(match r with|some (_,v)=>v|none=>z),.bool r.isSome]else(match r with|some (_,v)=>v|none=>z)) w:=by
 have h1:=MapKept.run_getObj_map (P:=P) hb;have h2:∀e,(Instr.checkKey e 10000 KT (.string s)).run P w= .ok () w:=fun e=>by unfold Instr.checkKey;simp[run_underlying hk]
 have h3:=MapKept.run_findKey (w:=w) hk hf;unfold Instr.lookup;cases r with
 |none=>cases ok2<;>simp[run_underlying hu,h1,h2,h3,hz]
 |some p=>cases ok2<;>simp[run_underlying hu,h1,h2,h3]
theorem Gn{d l:Nat}{KT VT T5 TS:TypeId}{es:List Dt}{s:ByteArray}{z:Dt}(ho:o.op= .lookup T x y false)(hd:o.dst=some d)(hn:d<n)(hu:P.underlying T=some (.map KT VT))(hk:P.underlying KT=some .string)(ha:bS P VT=false)
  (hz:∃(i:TypeInfo)(zv:Value),P.info? VT=some i∧i.zero=some zv∧∀(ok:Nat->Prop)(w:World),RD P ok w VT z [zv])
  (hs:P.underlying TS=some .string)(hx:Ev P σ x (.row l))(hy:Ev P σ y (.dat TS (.str s)))(hl:lk σ.hs l= .map T5 es)(h5:P.underlying T5=some (.map KT VT)):bD P n o σ (σ.put d (.dat VT (mgetD es s z))):=by
 refine bf hd hn fun ok0 w0 a w β r=>?_;obtain⟨b,KT',VT',arr,clock,e1,e2,e3,e4,e5,e6,e7⟩:=xW r hx hl;rw[h5]at e3;cases e3
 obtain⟨i,zv,hi,hzv,hzr⟩:=hz;have ey:=(RV.str hs (hy _ _ _ _ _ _ r)).2.1;simp only[toStr]at ey;have hzr0:(zeroValue VT).run P w= .ok zv w:=by simp[zeroValue,typeInfo,hi,hzv]
 rcases mF s arr es 0 e6 e7 with⟨q1,q2,_⟩| ⟨j,e,x',q1,q2,q3,q4,q5,q6,_⟩
 ·refine⟨zv,?_,(RV.dat_one ha).2 (by rw[mgetD,q2];exact hzr _ _)⟩;unfold execOp;simp only[ho,e1,ey,Sem.run_bind,fU hu hk e5 q1 hzr0];simp
 ·refine⟨e.val,?_,(RV.dat_one ha).2 (by rw[mgetD,q6];exact q5)⟩;unfold execOp;simp only[ho,e1,ey,Sem.run_bind,fU hu hk e5 q1 hzr0];simp
theorem Rk{d l:Nat}{KT VT T5 TS:TypeId}{es:List Dt}{s:ByteArray}(ho:o.op= .lookup T x y false)(hd:o.dst=some d)(hn:d<n)(hu:P.underlying T=some (.map KT VT))(hk:P.underlying KT=some .string)
  (hz:∃(i:TypeInfo),P.info? VT=some i∧i.zero=some (.slice none 0 0))
  (hs:P.underlying TS=some .string)(hx:Ev P σ x (.row l))(hy:Ev P σ y (.dat TS (.str s)))(hl:lk σ.hs l= .map T5 es)(h5:P.underlying T5=some (.map KT VT))(hm:mhas es s=false):bD P n o σ (σ.put d (.nils VT)):=by
 refine bf hd hn fun ok0 w0 a w β r=>?_;obtain⟨b,KT',VT',arr,clock,e1,e2,e3,e4,e5,e6,e7⟩:=xW r hx hl;rw[h5]at e3;cases e3
 obtain⟨i,hi,hzv⟩:=hz;have ey:=(RV.str hs (hy _ _ _ _ _ _ r)).2.1;simp only[toStr]at ey;have hzr0:(zeroValue VT).run P w= .ok (.slice none 0 0) w:=by simp[zeroValue,typeInfo,hi,hzv]
 rcases mF s arr es 0 e6 e7 with⟨q1,q2,_⟩| ⟨j,e,x',q1,q2,q3,q4,q5,q6,_⟩
 ·refine⟨.slice none 0 0,?_,⟨fun hi=>by simp[AV.isAgg]at hi,fun _=> .nils⟩⟩;unfold execOp;simp only[ho,e1,ey,Sem.run_bind,fU hu hk e5 q1 hzr0];simp
 ·unfold mhas at hm;rw[q6]at hm;simp at hm
theorem Rl{d l:Nat}{KT VT T5 TS TB:TypeId}{es:List Dt}{s:ByteArray}{z:Dt}(ho:o.op= .lookup T x y true)(hd:o.dst=some d)(hn:d<n)(hu:P.underlying T=some (.map KT VT))(hk:P.underlying KT=some .string)(ha:bS P VT=false)(hB:P.underlying TB=some .bool)
  (hz:∃(i:TypeInfo)(zv:Value),P.info? VT=some i∧i.zero=some zv∧∀(ok:Nat->Prop)(w:World),RD P ok w VT z [zv])
  (hs:P.underlying TS=some .string)(hx:Ev P σ x (.row l))(hy:Ev P σ y (.dat TS (.str s)))(hl:lk σ.hs l= .map T5 es)(h5:P.underlying T5=some (.map KT VT)):bD P n o σ (σ.put d (.tup [.dat VT (mgetD es s z),.dat TB (.bool (mhas es s))])):=by
 refine bf hd hn fun ok0 w0 a w β r=>?_;obtain⟨b,KT',VT',arr,clock,e1,e2,e3,e4,e5,e6,e7⟩:=xW r hx hl;rw[h5]at e3;cases e3
 obtain⟨i,zv,hi,hzv,hzr⟩:=hz;have ey:=(RV.str hs (hy _ _ _ _ _ _ r)).2.1;simp only[toStr]at ey;have hzr0:(zeroValue VT).run P w= .ok zv w:=by simp[zeroValue,typeInfo,hi,hzv]
 have hbA:bS P TB=false:=bQ hB rfl;have key:∀(u:Value)(x':Dt)(q:Bool),RD P (okOf ok0 w0 w σ.hs β) w VT x' [u]->RV P (okOf ok0 w0 w σ.hs β) w β (.tup [.dat VT x',.dat TB (.bool q)]) (.tuple #[u,.bool q]):=fun u x' q hr=>by
  refine⟨_,rfl,rfl,fun i av hv=>?_⟩;match i with
  |0=>simp only[aO,aA]at hv;subst hv;exact(RV.dat_one ha).2 hr
  |1=>simp only[aR,aO,aA]at hv;subst hv;exact(RV.dat_one hbA).2 (.bool hB)
  |i+2=>simp at hv
 rcases mF s arr es 0 e6 e7 with⟨q1,q2,_⟩| ⟨j,e,x',q1,q2,q3,q4,q5,q6,_⟩
 ·refine⟨.tuple #[zv,.bool false],?_,?_⟩
  ·unfold execOp;simp only[ho,e1,ey,Sem.run_bind,fU hu hk e5 q1 hzr0];simp
  ·rw[mgetD,mhas,q2];exact key _ _ _ (hzr _ _)
 ·refine⟨.tuple #[e.val,.bool true],?_,?_⟩
  ·unfold execOp;simp only[ho,e1,ey,Sem.run_bind,fU hu hk e5 q1 hzr0];simp
  ·rw[mgetD,mhas,q6];exact key _ _ _ q5
theorem aub{ok:Nat->Prop}{w:World}{β:Nat->Option Value}{l b:Nat}(h:β l=some (.map (some b))):RV P ok w β (.row l) (.map (some b)):=
 ⟨fun hi=>by simp[AV.isAgg]at hi,fun _=> .row h rfl⟩
theorem CS{d l:Nat}{KT VT:TypeId}(ho:o.op= .makeMap T none)(hd:o.dst=some d)(hn:d<n)(hu:P.underlying T=some (.map KT VT))(hk:P.underlying KT=some .string)(hf:lk σ.hs l= .free)(hk0:σ.k0<=l):
  bD P n o σ ((σ.lay l (.map T [])).put d (.row l)):=by
 rintro ok0 w0 a w ⟨β,r⟩ K Q hK;have hrun:(Instr.makeMap T none).run P w= .ok (.map (some w.heap.size)) (w.alloc (.map #[] 0)):=by unfold Instr.makeMap newObj;rfl
 unfold Oper.wp execOp;simp only[ho,Option.map_none,Sem.run_bind,hrun,Result.andThen_ok,Sem.run_pure];refine hK _ _ ?_;rw[hd];have hfree:=r.hs l;rw[hf]at hfree;refine Rel.put (r.upd l (.map T []) (some (.map (some w.heap.size))) (w.alloc (.map #[] 0)) (.inr ⟨hfree,hk0⟩) rfl rfl rfl (by simp) (fun b hb _=>Below.heap_alloc w _ b hb) (fun z b _ hz hb=> .inl (by cases hz;simp[Blk,blk]at hb;omega)) fun hx hk'=>?_) hn (aub (bJ _ _ _));exact⟨w.heap.size,KT,VT,[],0,rfl,hu,hk,(MapKept.heap_alloc w _).1,rfl,fun i e d he=>by simp at he⟩
theorem Je{l:Nat}{u:Operand}{KT VT K5 V5 T5 TS TV:TypeId}{es:List Dt}{s:ByteArray}{x':Dt}(ho:o.op= .mapUpdate T x y u)(hd:o.dst=none)(hu:P.underlying T=some (.map KT VT))(hk:P.underlying KT=some .string)(h5:P.underlying T5=some (.map K5 V5))(ha:bS P TV=false)(hcm:compat P TV V5=true)
  (hs:P.underlying TS=some .string)(hx:Ev P σ x (.row l))(hy:Ev P σ y (.dat TS (.str s)))(hv:Ev P σ u (.dat TV x'))(hl:lk σ.hs l= .map T5 es):bD P n o σ (σ.lay l (.map T5 (mput es s x'))):=by
 rintro ok0 w0 a w ⟨β,r⟩ K Q hK;obtain⟨b,KT',VT',arr,clock,e1,e2,e3,e4,e5,e6,e7⟩:=xW r hx hl;rw[h5]at e3;cases e3
 have ey0:=RV.str hs (hy _ _ _ _ _ _ r);have ey:=ey0.2.1;have es':=ey0.2.2;simp only[toStr]at ey es';have hrd:=((RV.dat_one ha).1 (hv _ _ _ _ _ _ r)).compat hcm;generalize hz:a.eval u=z at hrd;have h1:=MapKept.run_getObj_map (P:=P) e5;have h2:∀e,(Instr.checkKey e 10000 KT (.string s)).run P w= .ok () w:=fun e=>by unfold Instr.checkKey;simp[run_underlying hk]
 have h4:=fun o'=>MapKept.run_setObj_map (P:=P) o' e5;have hblt:b<w.heap.size:=(Array.getElem?_eq_some_iff.1 e5).1;have how:owns σ.hs β l b:=⟨by rw[hl];rfl,_,e2,.inl rfl⟩;have fin:∀(arr':List MapEntry)(clock':Nat)(es2:List Dt),arr'.length=es2.length->(∀(ok:Nat->Prop)(w':World),(∀c,okOf ok0 w0 w σ.hs β c->ok c∧w'.heap[c]? =w.heap[c]?)->∀(i:Nat)(e:MapEntry)(d:Dt),arr'[i]? =some e->es2[i]? =some d->ank P ok w' V5 e d)->
   Rel P ok0 w0 n (σ.lay l (.map T5 es2)) a {w with heap:=w.heap.setIfInBounds b (.map arr'.toArray clock')}:=fun arr' clock' es2 hlen hen=>by
  refine⟨_,r.upd l (.map T5 es2) (β l) _ (.inl rfl) rfl rfl rfl (by simp) (fun b2 hb2 hne=>?_) (fun z2 b2 _ hz2 hb2=> .inr ⟨by rw[hl];rfl,z2,hz2,hb2⟩) fun hx hk'=>?_⟩;·exact(MapKept.heap_set e5 (o':= .map arr'.toArray clock')).2 b2 fun e=>hne (by rw[e];exact how)
  ·exact⟨b,K5,V5,arr',clock',e2,h5,e4,(MapKept.heap_set e5).1,hlen,fun i e d he hd=>hen _ _ hk' i e d he hd⟩
 have old:∀(ok:Nat->Prop)(w':World),(∀c,okOf ok0 w0 w σ.hs β c->ok c∧w'.heap[c]? =w.heap[c]?)->∀(i:Nat)(e:MapEntry)(d:Dt),arr[i]? =some e->es[i]? =some d->ank P ok w' V5 e d:=fun ok w' hk' i e d he hd=>by obtain⟨s2,x2,p1,p2,p3,p4⟩:=e7 i e d he hd;exact⟨s2,x2,p1,p2,p3,p4.mono hk'⟩
 rcases mF s arr es 0 e6 e7 with⟨q1,q2,q7⟩| ⟨j,e,x2,q1,q2,q3,q4,q5,q6,q7⟩
 ·have h3:=MapKept.run_findKey (w:=w) hk q1;have hrun:(Instr.mapUpdate T (.map (some b)) (.string s) z).run P w= .ok () {w with heap:=w.heap.setIfInBounds b (.map (arr++[({key:= .string s,val:=z,born:=clock}:MapEntry)]).toArray (clock+1))}:=by unfold Instr.mapUpdate;simp[run_underlying hu,h1,h2,h3,h4]
  unfold Oper.wp execOp;simp only[ho,e1,ey,hz,Sem.run_bind,hrun,Result.andThen_ok,Sem.run_pure];refine hK _ _ ?_;rw[hd,q7];refine fin _ _ _ (by simp[e6]) fun ok w' hk' i e d he hd=>?_;rcases Nat.lt_or_ge i arr.length with hlt|hge
  ·rw[List.getElem?_append_left hlt]at he;rw[List.getElem?_append_left (by omega)]at hd;exact old ok w' hk' i e d he hd
  ·rw[List.getElem?_append_right hge]at he;rw[List.getElem?_append_right (by omega)]at hd;have e0:i-arr.length=0:=by have:=(ak.1 he).1;simp at this;omega
   rw[e0]at he;rw[←e6,e0]at hd;cases he;cases hd;exact⟨s,x',rfl,es',rfl,hrd.mono hk'⟩
 ·have h3:=MapKept.run_findKey (w:=w) hk q1;simp only[Nat.zero_add]at h3;have hj:j<arr.length:=(ak.1 q2).1;have hgk:(((arr.toArray)[j]?.map (·.key)).getD (.string s))= .string s:=by simp[q2,q3]
  have hks:(Instr.keyThatStays (.string s) (.string s)).run P w= .ok (.string s) w:=by unfold Instr.keyThatStays;simp[Instr.sameBits,d9]
  have hrun:(Instr.mapUpdate T (.map (some b)) (.string s) z).run P w= .ok () {w with heap:=w.heap.setIfInBounds b (.map (arr.set j {e with key:= .string s,val:=z}).toArray clock)}:=by
   unfold Instr.mapUpdate;have em:(arr.toArray.modify j fun e0=>{e0 with key:= .string s,val:=z})=(arr.set j {e with key:= .string s,val:=z}).toArray:=by
        apply Array.ext_getElem?;intro k;simp only[Array.getElem?_modify,List.getElem?_toArray,List.getElem?_set];by_cases hk2:j=k
        ·subst hk2;have e9:=(ak.1 q2).2;simp[hj,e9]
        ·simp[hk2]
   simp only[Sem.run_bind,run_underlying hu,Result.andThen_ok,h1,h2,h3,hgk,hks,h4,em]
  unfold Oper.wp execOp;simp only[ho,e1,ey,hz,Sem.run_bind,hrun,Result.andThen_ok,Sem.run_pure];refine hK _ _ ?_;rw[hd,q7];refine fin _ _ _ (by simp[e6]) fun ok w' hk' i e1 d he hd=>?_;rw[List.getElem?_set]at he hd;by_cases hk2:j=i
  ·subst hk2;simp[hj]at he;simp[show j<es.length by omega]at hd;subst he;subst hd
   exact⟨s,x',rfl,es',rfl,hrd.mono hk'⟩
  ·simp only[hk2,if_false]at he hd;exact old ok w' hk' i e1 d he hd
end
end Go.Am
namespace Go.Am
open Go.RowKit Go.Lib
section
variable{P:Program}{n:Nat}{o:Oper}{σ τ:St}{x y:Operand}{v:AV}{T:TypeId}
def bytesD(s:ByteArray):List Dt:=s.data.toList.map fun b=>Dt.int (b.toNat:Int)
theorem rD(s:ByteArray):(bytesD s).length=s.size:=by rw[bytesD,List.length_map,Array.length_toList];rfl
theorem CU(w:World)(t u ty e:TypeId)(i:TypeInfo)(ht:P.underlying t=some (.slice e))(hu:P.underlying u=some .string)(hi:P.info? e=some i)(hz:i.zero=some (.int .u8 0))
  (hsize:i.size=1)(hby:i.bytes=1)(v:Value)(n:Nat)(xs:List Value)(hown:w.ownsRow 0 e 1 v n xs)(s:ByteArray)(hb:n+s.size<=137438953472):
  ∃v' w',(Builtin.append_ #[t,u] ty #[v,.string s]).run P w= .ok v' w'∧w'.ownsRow 0 e 1 v' (n+s.size) (xs++strCells s)∧w.grownBy w' v.ownBlock∧(v'.ownBlock=v.ownBlock∨v'.ownBlock=some w.heap.size):=by
 obtain⟨v',w',h1,h2,h3,h4⟩:=run_append_own_string (P:=P) w 0 t u ty e i ht hu hi hz hsize hby v n xs hown s (by unfold maxLen;omega) (by omega) (aN _);refine⟨v',w',h1,h2,h3,?_⟩;have hxl:xs.length=n:=by simpa using hown.1
 rcases hown.2 with⟨rfl,rfl⟩| ⟨g,cap,cur,rfl,hbg,hg,hnc,hcm,hcs,htake⟩
 ·by_cases hm:s.size=0
  ·left;rw[h4.2 ⟨rfl,hm⟩]
  ·right;have hr:=run_append_nil_string (P:=P) w t u ty e i (.int .u8 0) ht hu hi hz s (by omega) (by omega) (by rw[hby];omega);rw[h1]at hr;cases hr;rfl
 ·by_cases hroom:n+s.size<=cap
  ·left;have hcs':cur.size=cap:=by simpa using hcs
   have hr:=run_append_room_string (P:=P) w t u ty e i ht hu hi hsize g n cap cur hg s hroom (by omega);rw[h1]at hr;cases hr;rfl
  ·right;have holds:∀j u,xs[j]? =some u->w.cell? ((⟨g,0,none⟩:Addr).add j)=some u:=hown.cells (g:=g) rfl;have hr:=run_append_grow_string (P:=P) w t u ty e i (.int .u8 0) ht hu hi hz ⟨g,0,none⟩ n cap xs (by rw[hsize];simpa using hxl) holds s (by omega) (by omega) (by rw[hby];exact growslice_fits (by omega) (by omega));rw[h1]at hr;cases hr;rfl
theorem axj{ok:Nat->Prop}{w:World}{E:TypeId}(hu:P.underlying E=some (.int .u8))(b:UInt8):RD P ok w E (.int (b.toNat:Int)) [.int .u8 (b.toNat:Int)]:=by have:=b.toNat_lt;refine .int hu ?_ ?_<;>simp[IntKind.min,IntKind.max,IntKind.bits,IntKind.signed]<;>omega
theorem D5{d l l':Nat}{E T5 T' T2:TypeId}{es:List Dt}{s:ByteArray}{i:TypeInfo}(ho:o.op= .call {callee:= .builtin .append,args:= #[x,y],argTypes:= #[T,T']})(hd:o.dst=some d)(hn:d<n)(hu:P.underlying T=some (.slice E))(hu5:P.underlying T5=some (.slice E))(hu':P.underlying T'=some .string)(hu2:P.underlying T2=some .string)
  (he:P.underlying E=some (.int .u8))(hi:P.info? E=some i)(hz:i.zero=some (.int .u8 0))(hsize:i.size=1)(hby:i.bytes=1)(hx:Ev P σ x (.row l))(hl:lk σ.hs l= .row T5 es)(hf:lk σ.hs l'= .free)(hk0:σ.k0<=l')(hy:Ev P σ y (.dat T2 (.str s)))(hlim:es.length+(bytesD s).length<=137438953472):
  bD P n o σ (((σ.lay l .gone).lay l' (.row T5 (es++bytesD s))).put d (.row l')):=by
 rintro ok0 w0 a w ⟨β,r⟩ K Q hK;have hc1:P.cellsOf E=1:=by simp[Program.cellsOf,hi,hsize]
 have ey:=(RV.str hu2 (hy _ _ _ _ _ _ r)).2.1;rw[rD]at hlim;refine Br (ys:=strCells s) (ds:=bytesD s) ho hd hn hu5 r (bZ (hx _ _ _ _ _ _ r)) hl hf hk0 ey (by rw[strCells_length,rD,hc1,Nat.mul_one]) (strCells_oneCell s) (fun i' d' hd'=>?_) (fun bl xs _ hown=>?_) K Q hK
 ·rw[hc1,Nat.mul_one];simp only[bytesD,List.getElem?_map,aW]at hd';obtain⟨b,hb,rfl⟩:=hd';have hlt:i'<s.data.toList.length:=(ak.1 hb).1;have hbe:s.data.toList[i']=b:=(ak.1 hb).2;have e:((strCells s).drop i').take 1=[Value.int .u8 (b.toNat:Int)]:=by rw[strCells,ay (by rw[List.length_map];exact hlt),List.getElem_map,hbe];rfl
  rw[e];exact axj he b
 ·rw[hc1]at hown ⊢
  rw[rD];exact CU w T T' o.type E i hu hu' hi hz hsize hby bl es.length xs hown s hlim
def Rm(ds:List Dt):ByteArray:=strOfNums (ds.map Dt.toInt)
def axk(ds:List Dt):Option ByteArray:=bif Nat.ble ds.length 137438953472 then some (Rm ds)else none
theorem D6{d:Nat}{E S1 S2:TypeId}{ds:List Dt}(ho:o.op= .convert S1 S2 x)(hd:o.dst=some d)(hn:d<n)(h1:P.underlying S1=some (.slice E))(h2:P.underlying S2=some .string)(he:P.underlying E=some (.int .u8))(hc:P.cellsOf E=1)(hs:rY P σ x E ds)(hlen:ds.length<=137438953472):
  bD P n o σ (σ.put d (.dat S2 (.str (Rm ds)))):=
 bf hd hn fun ok0 w0 a w β r=>by
  obtain⟨A,c,ys,ey,hyl,_,hyc,hynone,hyrd⟩:=hs _ _ _ _ _ _ r;rw[hc,Nat.mul_one]at hyl;have hb:(Rm ds).size<=maxLen:=by unfold Rm maxLen;rw[strOfNums_size,List.length_map];omega
  have hys:ys=(ds.map Dt.toInt).map (Value.int .u8):=by
   apply List.ext_getElem?;intro i;rw[List.getElem?_map,List.getElem?_map];by_cases hi:i<ds.length
   ·    have hd':ds[i]? =some ds[i]:=aB hi;have h:=hyrd i _ hd';rw[hc,Nat.mul_one]at h;have e:(ys.drop i).take 1=[ys[i]'(by omega)]:=by rw[ay (by omega)];rfl
        rw[e]at h;obtain⟨q1,q2,_,_⟩:=h.int_inv he;rw[aB (by omega),hd'];simp only[Option.map_some];injection q2 with q3;rw[q3]
   ·rw[List.getElem?_eq_none (by omega),List.getElem?_eq_none (by omega)];rfl
  have hrun:(convert S1 S2 (.slice A ds.length c)).run P w= .ok (.string (Rm ds)) w:=by
   cases A with
   |    none=>
        have h0:=hynone rfl;have e:ds=[]:=List.eq_nil_of_length_eq_zero h0;subst e;exact run_convert_bytes_nil w S1 E h1 he _ c S2 h2
   |    some ad=>
        have hl:(loadCells ad ds.length).run P w= .ok ((ds.map Dt.toInt).map (Value.int .u8)).toArray w:=by
         have:=run_loadCells_list (P:=P) w ad ((ds.map Dt.toInt).map (Value.int .u8)) (fun j v hj=>by rw[←hys]at hj;have hjl:j<ys.length:=(ak.1 hj).1;obtain⟨ad',ea,hcell⟩:=hyc (by omega);cases ea;exact hcell j v hj)
         simpa using this
        rw[run_convert_bytes_string w S1 S2 E _ ds.length c h1 he h2,run_bytesToString w ad ds.length c _ hl,foldl_push_bytes];simp[Rm,strOfNums,ByteArray.empty,ByteArray.emptyWithCapacity];rfl
  refine⟨.string (Rm ds),?_,RV.mk_str h2 hb⟩;simp[execOp,ho,ey,hrun]
theorem kX(w:World){T1:TypeId}{ms:Array (String×TypeId)}(h1:P.underlying T1=some (.interface ms))(d:Nat):(Op.equalIn (d+1) T1 .nilIface .nilIface).run P w= .ok true w:=by simp[Op.equalIn,run_underlying h1]
theorem anl(w:World){T1:TypeId}{ms:Array (String×TypeId)}(h1:P.underlying T1=some (.interface ms)):(binOp .eql T1 .nilIface .nilIface).run P w= .ok (.bool true) w:=by simp only[binOp];simp[Op.equal,Op.maxDepth,kX w h1 9999]
theorem anm(w:World){T1:TypeId}{ms:Array (String×TypeId)}(h1:P.underlying T1=some (.interface ms)):(binOp .neq T1 .nilIface .nilIface).run P w= .ok (.bool false) w:=by simp only[binOp];simp[Op.equal,Op.maxDepth,kX w h1 9999]
theorem kY(w:World){T1 T:TypeId}{z:Value}{ms:Array (String×TypeId)}(h1:P.underlying T1=some (.interface ms))(d:Nat):(Op.equalIn (d+1) T1 (.iface T z) .nilIface).run P w= .ok false w:=by simp[Op.equalIn,run_underlying h1]
theorem ano(w:World){T1 T:TypeId}{z:Value}{ms:Array (String×TypeId)}(h1:P.underlying T1=some (.interface ms)):(binOp .eql T1 (.iface T z) .nilIface).run P w= .ok (.bool false) w:=by simp only[binOp];simp[Op.equal,Op.maxDepth,kY w h1 9999]
theorem anp(w:World){T1 T:TypeId}{z:Value}{ms:Array (String×TypeId)}(h1:P.underlying T1=some (.interface ms)):(binOp .neq T1 (.iface T z) .nilIface).run P w= .ok (.bool true) w:=by simp only[binOp];simp[Op.equal,Op.maxDepth,kY w h1 9999]
theorem Yg{d:Nat}{T1 T2 TB:TypeId}{b:Bool}{ms:Array (String×TypeId)}(ho:o.op= .binOp .eql T1 x (.const .nilIface) T2)(hd:o.dst=some d)(hn:d<n)(hb:P.underlying TB=some .bool)(h1:P.underlying T1=some (.interface ms))(hx:Ev P σ x (.nif b)):bD P n o σ (σ.put d (.dat TB (.bool b))):=
 bf hd hn fun ok0 w0 a w β r=>by
  have h2:=(hx _ _ _ _ _ _ r).2 rfl;have e2:a.eval (.const .nilIface)= .nilIface:=rfl;refine⟨.bool b,?_,RV.mk_bool hb⟩;generalize e1:a.eval x=q at h2;cases h2 with
  |nif=>simp[execOp,ho,e1,e2,eqGuard,anl w h1]
  |nni=>simp[execOp,ho,e1,e2,eqGuard,ano w h1]
theorem Yh{d:Nat}{T1 T2 TB:TypeId}{b:Bool}{ms:Array (String×TypeId)}(ho:o.op= .binOp .neq T1 x (.const .nilIface) T2)(hd:o.dst=some d)(hn:d<n)(hb:P.underlying TB=some .bool)(h1:P.underlying T1=some (.interface ms))(hx:Ev P σ x (.nif b)):bD P n o σ (σ.put d (.dat TB (.bool (!b)))):=
 bf hd hn fun ok0 w0 a w β r=>by
  have h2:=(hx _ _ _ _ _ _ r).2 rfl;have e2:a.eval (.const .nilIface)= .nilIface:=rfl;refine⟨.bool (!b),?_,RV.mk_bool hb⟩;generalize e1:a.eval x=q at h2;cases h2 with
  |nif=>simp[execOp,ho,e1,e2,eqGuard,anm w h1]
  |nni=>simp[execOp,ho,e1,e2,eqGuard,anp w h1]
end
end Go.Am
namespace Go.Am
open Go.RowKit
section
variable{P:Program}{n:Nat}{o:Oper}{σ σ':St}{x y:Operand}{v:AV}{T:TypeId}
def sU(P:Program)(E:TypeId)(ob:Ob)(vs:List AV):Prop:=(∃T es,ob= .row T es∧P.underlying T=some (.slice E)∧vs=es.map (.dat E))∨∃T,ob= .rowA T vs∧P.underlying T=some (.slice E)
theorem sU.own{E:TypeId}{ob:Ob}{vs:List AV}(h:sU P E ob vs):ob.isOwn=true∧ob≠ .free:=by rcases h with⟨T,es,rfl,_⟩| ⟨T,rfl,_⟩<;>exact⟨rfl,by simp⟩
theorem sU.ob{ok:Nat->Prop}{w:World}{β:Nat->Option Value}{E:TypeId}{ob:Ob}{vs:List AV}{z:Value}(h:sU P E ob vs)(hb:ObOK P ok w β ob (some z)):∃(xs:List Value),w.ownsRow 0 E (P.cellsOf E) z vs.length xs∧(∀c∈xs,c.oneCell'=true)∧
   ∀(i:Nat)(u:AV),vs[i]? =some u->RA P ok w β u ((xs.drop (i*P.cellsOf E)).take (P.cellsOf E)):=by
 rcases h with⟨T,es,rfl,hu,rfl⟩| ⟨T,rfl,hu⟩
 ·obtain⟨E',z',xs,e,hu',hown,hone,hr⟩:=hb;cases e;obtain rfl:E=E':=by rw[hu]at hu';cases hu';rfl
  refine⟨xs,by simpa using hown,hone,fun i u hu2=>?_⟩;rw[List.getElem?_map]at hu2;obtain⟨d,hd,rfl⟩:=aW.1 hu2;exact .dat (hr i d hd)
 ·obtain⟨E',z',xs,e,hu',hown,hone,hr⟩:=hb;cases e;obtain rfl:E=E':=by rw[hu]at hu';cases hu';rfl
  exact⟨xs,hown,hone,hr⟩
theorem MJ{d l:Nat}{TI T4 E' T3 E:TypeId}{vs:List AV}(ho:o.op= .call {callee:= .builtin .len,args:= #[x],argTypes:= #[T4]})(hd:o.dst=some d)(hn:d<n)
  (hi:P.underlying TI=some (.int .i64))(hu4:P.underlying T4=some (.slice E'))(hx:Ev P σ x (.row l))(hl:lk σ.hs l= .rowA T3 vs):bD P n o σ (σ.put d (.dat TI (.int (vs.length:Int)))):=
 bf hd hn fun ok0 w0 a w β r=>by
  have e1:=bZ (hx _ _ _ _ _ _ r);have hob:=r.hs l;rw[hl,e1]at hob;obtain⟨E2,z,xs,ez,_,hown,_⟩:=hob;cases ez;have hz:∃a0 cap,a.eval x= .slice a0 vs.length cap∧vs.length<=maxLen:=by
   rcases hown.2 with⟨h1,h2⟩| ⟨g,cap,cur,h1,_,_,h3,h4,_⟩;·exact⟨none,0,by rw[h1,h2],by rw[h2];exact aN _⟩
   ·exact⟨_,cap,h1,by omega⟩
  obtain⟨a0,cap,e2,b⟩:=hz;exact⟨.int .i64 (vs.length:Int),by simp[execOp,ho,e2,resolve,invoke,builtin,Builtin.len_,run_underlying hu4,goInt],RV.mk_int hi (gI b).1 (gI b).2⟩
theorem D7{d l:Nat}{E TI T5:TypeId}{vs:List AV}{i:Int}{k:IntKind}(ho:o.op= .indexAddr T x y)(hd:o.dst=some d)(hn:d<n)(hu:P.underlying T=some (.slice E))(h0:P.cellsOf E≠0)
  (hi:P.underlying TI=some (.int k))(hx:Ev P σ x (.row l))(hy:Ev P σ y (.dat TI (.int i)))(hl:lk σ.hs l= .rowA T5 vs)(hi0:0<=i)(he:i<vs.length):bD P n o σ (σ.put d (.eptr l i.toNat (P.cellsOf E) [] 0)):=
 bf hd hn fun ok0 w0 a w β r=>by
  obtain⟨_,e2,_⟩:=RV.int hi (hy _ _ _ _ _ _ r);simp only[Dt.toInt]at e2;have ex:=bZ (hx _ _ _ _ _ _ r);have hob:=r.hs l;rw[hl,ex]at hob;obtain⟨E',z,xs,ez,_,hown,_⟩:=hob;cases ez;rcases hown.2 with⟨h2,h3⟩| ⟨g,cap,cur,h2,_⟩;·omega
  ·refine⟨_,?_,xJ (by rw[ex,h2])⟩;simp only[execOp,ho,h2,e2,Sem.run_bind,run_indexAt w hu h0 hi0 he,Result.andThen_ok,Sem.run_pure,eP,Nat.zero_add,Nat.add_zero]
theorem D8{d l i off:Nat}{path:List Nat}{E T5:TypeId}{vs:List AV}{e:AV}{D:TypeDesc}(ho:o.op= .load T x)(hd:o.dst=some d)(hn:d<n)(hu:P.underlying T=some D)(h1:bS P T=false->P.cellsOf T=1)
  (hx:Ev P σ x (.eptr l i (P.cellsOf E) path off))(hl:lk σ.hs l= .rowA T5 vs)(hu5:P.underlying T5=some (.slice E))(he:vs[i]? =some e)(hg:GetAt P E e path off T v)(hi:v.isAgg P=bS P T)(ht:∀vs,v≠ .tup vs):bD P n o σ (σ.put d v):=
 bf hd hn fun ok0 w0 a w β r=>by
  have h:=(hx _ _ _ _ _ _ r).2 rfl;generalize hz:a.eval x=z at h;cases h with
  | @eptrB _ _ _ _ _ _ hb=>exact(ObOK.np (r.hs l) (.inr (.inl ⟨_,_,hl⟩)) hb).elim
  | @eptr _ _ _ b m cap _ _ hb=>
    have hob:=r.hs l;rw[hl,hb]at hob;obtain⟨xs,hown,hone,hrd⟩:=sU.ob (.inr ⟨T5,rfl,hu5⟩) hob;have hlen:=hown.1;rcases hown.2 with⟨h2,_⟩| ⟨g,cap',cur,h2,hg2,hh,hnc,hcm,hsz,htk⟩;·cases h2
    ·   cases h2;have hlt:i<vs.length:=(ak.1 he).1;have hmul:(i+1)*P.cellsOf E<=vs.length*P.cellsOf E:=aH _ hlt;rw[Nat.add_mul,Nat.one_mul]at hmul;obtain⟨q1,q2⟩:=hg.sound (hrd i e he) (by simp only[List.length_take,List.length_drop];omega);rw[xL _ _ _ _ _ q1]at q2;obtain⟨z,hrun,hrv⟩:=kH (β:=β) (v:=v) (ad:=⟨b,i*P.cellsOf E+off,none⟩) hu (by simp only[List.length_take,List.length_drop];omega) (fun j u hj=>by
         rw[cO]at hj;split at hj
         ·rw[eP,cell_of_row w b _ cur E (0,0) hh];rw[←htk,List.getElem?_take]at hj;split at hj;·simpa using hj
          ·cases hj
         ·cases hj) h1 hi q2 ht
        exact⟨z,by simp only[execOp,ho,hz,Sem.run_bind,hrun,Result.andThen_ok,Sem.run_pure],hrv⟩
theorem CV{l i off:Nat}{path:List Nat}{E T5:TypeId}{vs:List AV}{e c':AV}(ho:o.op= .store T x y)(hd:o.dst=none)(h0:P.cellsOf T≠0)
   (hx:Ev P σ x (.eptr l i (P.cellsOf E) path off))(hy:Ev P σ y v)(hv0:v≠ .dead)(hv1:∀vs,v≠ .tup vs)
   (hs:∀(ok:Nat->Prop)(w:World)(β:Nat->Option Value)(cs:List Value),RA P ok w β v cs->(v.isAgg P=false->cs.length=1)->cs.length=P.cellsOf T)
   (hl:lk σ.hs l= .rowA T5 vs)(hu5:P.underlying T5=some (.slice E))(he:vs[i]? =some e)(hg:SetAt P v T E e path off c'):bD P n o σ (σ.lay l (.rowA T5 (vs.set i c'))):=by
 rintro ok0 w0 a w ⟨β,r⟩ K Q hK;have h:=(hx _ _ _ _ _ _ r).2 rfl;generalize hz:a.eval x=z at h;cases h with
 | @eptrB _ _ _ _ _ _ hb=>exact(ObOK.np (r.hs l) (.inr (.inl ⟨_,_,hl⟩)) hb).elim
 | @eptr _ _  _ b m cap _ _ hb=>
   have hv:=RV.to1 hv0 hv1 (hy _ _ _ _ _ _ r);have hc:=hv.cells;have hsz:(a.eval y).cells.size=P.cellsOf T:=by
    have:=hs _ _ _ _ hc (fun hi=>by have hr:=hv.2 hi;have h1':=hr.oneCell (a.eval y) (by simp);generalize a.eval y=z at h1';cases z<;>simp_all [Value.cells,Value.oneCell'])
    simpa using this
   have hob:=r.hs l;rw[hl,hb]at hob;obtain⟨xs,hown,hone,hrd⟩:=sU.ob (.inr ⟨T5,rfl,hu5⟩) hob;have hlen:=hown.1;rcases hown.2 with⟨h2,_⟩| ⟨g,cap',cur,h2,hg2,hh,hnc,hcm,hcsz,htk⟩;·cases h2
   ·obtain⟨   rfl,rfl,rfl⟩:b=g∧m=vs.length∧cap=cap':=by cases h2;exact⟨rfl,rfl,rfl⟩
    have how:owns σ.hs β l b:=⟨by rw[hl];rfl,_,hb,.inl rfl⟩;have hilt:i<vs.length:=(ak.1 he).1;have hmul:(i+1)*P.cellsOf E<=vs.length*P.cellsOf E:=aH _ hilt;have hmul2:vs.length*P.cellsOf E<=cap*P.cellsOf E:=aH _ hnc;rw[Nat.add_mul,Nat.one_mul]at hmul;have hseglen:((xs.drop (i*P.cellsOf E)).take (P.cellsOf E)).length=P.cellsOf E:=by simp only[List.length_take,List.length_drop];omega
    obtain⟨hq,hra⟩:=hg.sound hc (by simpa using hsz) (hrd i e he) hseglen;have hrun:=eX (P:=P) (T:=T) (off:=i*P.cellsOf E+off) w hh hsz h0 (by omega) (fun u hu=>hc.oneCell u hu);unfold Oper.wp execOp;simp only[ho,hz,Sem.run_bind,hrun,Result.andThen_ok,Sem.run_pure];refine hK _ _ ?_;rw[hd];have hfit:i*P.cellsOf E+off+(a.eval y).cells.toList.length<=cur.toList.length:=by simp;omega
    have hslen:=dN hfit;refine⟨_,r.upd l (.rowA T5 (vs.set i c')) (β l) _ (.inl rfl) rfl rfl rfl (by simp) (fun b2 hb2 hne=>setRow_other w _ _ _ fun e=>hne (by rw[e];exact how)) (fun z2 b2 _ hz2 hb2=> .inr ⟨by rw[hl];rfl,z2,hz2,hb2⟩) fun hx hk=>?_⟩;have hfx:i*P.cellsOf E+off+(a.eval y).cells.toList.length<=xs.length:=by simp;omega
    refine⟨E,_,splice xs (i*P.cellsOf E+off) (a.eval y).cells.toList,hb,hu5,⟨?_,.inr ⟨b,cap,(splice cur.toList (i*P.cellsOf E+off) (a.eval y).cells.toList).toArray,?_,hg2,setRow_heap w b cur _ E _ hh,by simpa using hnc,hcm,?_,?_⟩⟩,?_,?_⟩;·rw[dN hfx];simpa using hlen
    ·simp
    ·rw[List.size_toArray,hslen];simpa using hcsz
    ·   apply List.ext_getElem?;intro j;simp only[List.length_set];rw[List.getElem?_take,bM hfx];split
        ·rw[bM hfit];split;·rfl
         ·rw[←htk,List.getElem?_take,if_pos (by assumption)]
        ·rw[if_neg (by simp;omega),List.getElem?_eq_none (by omega)]
    ·   intro u hu2;obtain⟨j,hj⟩:=List.getElem?_of_mem hu2;rw[bM hfx]at hj;split at hj;·exact hc.oneCell u (aM hj)
        ·exact hone u (aM hj)
    ·   intro j u hj;rw[List.getElem?_set]at hj;by_cases hij:i=j
        ·subst hij;simp only[if_true,hilt,aA]at hj;subst hj;rw[jY (by simp;omega) (by omega)];exact hra.mono hk hx
        ·simp only[hij,if_false]at hj;have hjlt:j<vs.length:=(ak.1 hj).1;have hmulj:(j+1)*P.cellsOf E<=vs.length*P.cellsOf E:=aH _ hjlt;rw[Nat.add_mul,Nat.one_mul]at hmulj;have hap:j*P.cellsOf E+P.cellsOf E<=i*P.cellsOf E+off∨i*P.cellsOf E+off+(a.eval y).cells.toList.length<=j*P.cellsOf E:=by
           rcases Nat.lt_or_gt_of_ne hij with h|h
           ·  right;have:=aH (P.cellsOf E) (show i+1<=j from h);rw[Nat.add_mul,Nat.one_mul]at this;have:(a.eval y).cells.toList.length=P.cellsOf T:=by simpa using hsz
              omega
           ·  left;have:=aH (P.cellsOf E) (show j+1<=i from h);rw[Nat.add_mul,Nat.one_mul]at this;omega
         rw[gG hfx hap];exact(hrd j u hj).mono hk hx
inductive EvLA (P:Program) (σ:St) (E:TypeId):List Operand->List AV->Prop where
 |nil:EvLA P σ E [] []
 |cons {x:Operand} {v:AV} {xs:List Operand} {vs:List AV} (h:Ev P σ x v) (h0:v≠ .dead) (h1:∀us,v≠ .tup us)
  (hs:∀(ok:Nat->Prop)(w:World)(β:Nat->Option Value)(cs:List Value),RA P ok w β v cs->(v.isAgg P=false->cs.length=1)->cs.length=P.cellsOf E) (r:EvLA P σ E xs vs):EvLA P σ E (x::xs) (v::vs)
theorem EvLA.len{E:TypeId}{xs:List Operand}{vs:List AV}(h:EvLA P σ E xs vs):xs.length=vs.length:=by
 induction h with
 |nil=>rfl
 |cons _ _ _ _ _ ih=>simp[ih]
theorem EvLA.get{E:TypeId}{xs:List Operand}{vs:List AV}(h:EvLA P σ E xs vs):∀(i:Nat)(v:AV),vs[i]? =some v->∃x,xs[i]? =some x∧Ev P σ x v∧v≠ .dead∧(∀us,v≠ .tup us)∧(∀(ok:Nat->Prop)(w:World)(β:Nat->Option Value)(cs:List Value),RA P ok w β v cs->(v.isAgg P=false->cs.length=1)->cs.length=P.cellsOf E):=by
 induction h with
 |nil=>intro i d hd;simp at hd
 | @cons x d xs ds h h0 h1 hs _ ih=>
   intro i d' hd;cases i with
   |zero=>simp only[aO,aA]at hd;subst hd;exact⟨x,rfl,h,h0,h1,hs⟩
   |succ i=>simp only[aR]at hd;obtain⟨x',q1,q2⟩:=ih i d' hd;exact⟨x',by simpa using q1,q2⟩
theorem EvLA.get'{E:TypeId}{xs:List Operand}{vs:List AV}(h:EvLA P σ E xs vs):∀x∈xs,∃v,Ev P σ x v∧v≠ .dead∧(∀us,v≠ .tup us)∧(∀(ok:Nat->Prop)(w:World)(β:Nat->Option Value)(cs:List Value),RA P ok w β v cs->(v.isAgg P=false->cs.length=1)->cs.length=P.cellsOf E):=by
 intro x hx;obtain⟨i,hi⟩:=List.getElem?_of_mem hx;have hlt:i<vs.length:=by rw[←h.len];exact(ak.1 hi).1
 obtain⟨x',q1,q2⟩:=h.get i _ (aB hlt);rw[hi]at q1;cases q1
 exact⟨_,q2⟩
theorem Rn{d l len:Nat}{E:TypeId}{parts:Array (Nat×Operand)}{xs:List Operand}{vs:List AV}{z:Dt}(ho:o.op= .buildSlice T len parts)(hd:o.dst=some d)(hn:d<n)(hu:P.underlying T=some (.slice E))(hf:lk σ.hs l= .free)(hk0:σ.k0<=l)
  (hz:Zero P E z)(h0:P.cellsOf E≠0)(hp:parts.toList=(xs.zipIdx 0).map fun p=>(p.2,p.1))(hlen:len=xs.length)(hpos:xs≠[])(hsmall:len*P.cellsOf E<=16777216)(hev:EvLA P σ E xs vs):
  bD P n o σ ((σ.lay l (.rowA T vs)).put d (.row l)):=by
 rintro ok0 w0 a w ⟨β,r⟩ K Q hK;obtain⟨i,zv,hinf,hzv,hzs,hzrd⟩:=hz.ex;have hsz:i.size=P.cellsOf E:=by simp[Program.cellsOf,hinf]
 have hvc:∀(x':Operand)(v':AV),Ev P σ x' v'∧v'≠ .dead∧(∀us,v'≠ .tup us)∧(∀(ok:Nat->Prop)(w:World)(β:Nat->Option Value)(cs:List Value),RA P ok w β v' cs->(v'.isAgg P=false->cs.length=1)->cs.length=P.cellsOf E)->(a.eval x').cells.size=P.cellsOf E∧RA P (okOf ok0 w0 w σ.hs β) w β v' (a.eval x').cells.toList:=by
  rintro x' v' ⟨hx',q0,q1,hs⟩;have hv:=RV.to1 q0 q1 (hx' _ _ _ _ _ _ r);refine⟨?_,hv.cells⟩;have:=hs _ _ _ _ hv.cells (fun hi=>by have hr:=hv.2 hi;have h1':=hr.oneCell (a.eval x') (by simp);generalize a.eval x'=z at h1';cases z<;>simp_all [Value.cells,Value.oneCell'])
  simpa using this
 have hlx:0<xs.length:=List.length_pos_iff.2 hpos;have hdx:=hev.len;obtain⟨c,hfill,hcs,hck⟩:=Great.fill_dense (s:=P.cellsOf E) (by omega) (xs.map a.eval) 0 ((Array.range (len*P.cellsOf E)).map (zv.cells[· %zv.cells.size]!)) (fun u hu2=>by obtain⟨x',hx',rfl⟩:=List.mem_map.1 hu2;obtain⟨d',hd'⟩:=hev.get' x' hx';exact(hvc x' d' hd').1) (by simp[hlen])
 have hparts:(parts.map fun(p:Nat×Operand)=>(p.1,a.eval p.2)).toList=((xs.map a.eval).zipIdx 0).map fun x=>(x.2,x.1):=by rw[Array.toList_map,hp,List.map_map,List.zipIdx_map,List.map_map];rfl
 have hrun:=run_buildSlice (P:=P) w T E len (parts.map fun(p:Nat×Operand)=>(p.1,a.eval p.2)) c i zv hu hinf hzv (by rw[hsz];omega) (by rw[hsz,hlen];have:=Nat.mul_pos hlx (Nat.pos_of_ne_zero h0);omega) (by rw[hparts,hsz];exact hfill)
 unfold Oper.wp execOp;simp only[ho,Sem.run_bind];have hmap:(parts.map fun x=>match x with|(i,x)=>(i,a.eval x))=parts.map fun(p:Nat×Operand)=>(p.1,a.eval p.2):=by congr 1
 rw[hmap,hrun];simp only[Result.andThen_ok,Sem.run_pure];refine hK _ _ ?_;rw[hd];have hcsz:c.size=len*P.cellsOf E:=by rw[hcs];simp
 have hseg:∀(j:Nat)(x':Operand),xs[j]? =some x'->(a.eval x').cells.size=P.cellsOf E->(c.toList.drop (j*P.cellsOf E)).take (P.cellsOf E)=(a.eval x').cells.toList:=by
  intro j x' hx' hsz';have hj:j<xs.length:=(ak.1 hx').1;have hmul:(j+1)*P.cellsOf E<=xs.length*P.cellsOf E:=aH _ hj;rw[Nat.add_mul,Nat.one_mul]at hmul;apply List.ext_getElem?;intro k;rw[cO];split
  ·have hk:k<P.cellsOf E:=by assumption
   have h1:(j*P.cellsOf E+k)/P.cellsOf E=j:=by rw[Nat.mul_comm,Nat.mul_add_div (by omega),Nat.div_eq_of_lt hk,Nat.add_zero]
   have h2:(j*P.cellsOf E+k)%P.cellsOf E=k:=by rw[Nat.mul_comm,Nat.mul_add_mod,Nat.mod_eq_of_lt hk]
   rw[Array.getElem?_toList,hck,if_pos (by simp;omega)];simp[h1,h2,hx']
  ·rw[List.getElem?_eq_none (by simp;omega)]
 have hfree:=r.hs l;rw[hf]at hfree;have hnew:=r.upd l (.rowA T vs) (some (.slice (some ⟨w.heap.size,0,none⟩) vs.length len)) (w.alloc (.cells c E)) (.inr ⟨hfree,hk0⟩) rfl rfl rfl (by simp) (fun b hb _=>Below.heap_alloc w _ b hb) (fun z b _ hz hb=> .inl (by cases hz;simp[Blk,blk]at hb;omega)) fun hx hk=>by
  have hone:∀u∈c.toList,u.oneCell'=true:=by
   intro u hu2;obtain⟨j,hj⟩:=List.getElem?_of_mem hu2;rw[Array.getElem?_toList,hck]at hj;have hjlt:j<len*P.cellsOf E:=by
        rcases Nat.lt_or_ge j (len*P.cellsOf E)with h|h;·exact h
        ·rw[if_neg (by simp[←hlen];omega),Array.getElem?_eq_none (by simp;omega)]at hj;cases hj
   rw[if_pos (by simp[←hlen];exact hjlt)]at hj;simp only[aj,List.getElem?_map,aW]at hj;obtain⟨v1,⟨x',hx',rfl⟩,hv1⟩:=hj;obtain⟨d',hd'⟩:=hev.get' x' (aM hx');exact(hvc x' d' hd').2.oneCell u (by simpa using Array.mem_of_getElem? hv1)
  have hlv:vs.length=len:=by omega
  refine⟨E,_,c.toList,rfl,hu,⟨by rw[Array.length_toList,hcsz,hlv],.inr ⟨w.heap.size,len,c,rfl,aN _,iG w c E,by omega,?_,hcsz,?_⟩⟩,hone,fun j u hj=>?_⟩
  ·unfold maxLen;have:len*1<=len*P.cellsOf E:=Nat.mul_le_mul_left _ (by omega);omega
  ·rw[List.take_of_length_le (by rw[Array.length_toList,hcsz,hlv];exact aL _)]
  ·obtain⟨x',hx',hx2⟩:=hev.get j u hj;obtain⟨q1,q2⟩:=hvc x' u hx2;rw[hseg j x' hx' q1];exact q2.mono hk hx
 rw[show vs.length=len by omega]at hnew;exact Rel.put hnew hn (lH (bJ _ _ _) rfl)
theorem Ro{d l l2 l':Nat}{E:TypeId}{es ds:List AV}{z:Dt}{ob ob2:Ob}(ho:o.op= .call {callee:= .builtin .append,args:= #[x,y],argTypes:= #[T,T]})(hd:o.dst=some d)(hn:d<n)(hu:P.underlying T=some (.slice E))
  (hz:Zero P E z)(h0:P.cellsOf E≠0)(hby:P.bytesOf E<=1024)(hx:Ev P σ x (.row l))(hl:lk σ.hs l=ob)(ho1:sU P E ob es)(hf:lk σ.hs l'= .free)(hk0:σ.k0<=l')(hy:Ev P σ y (.row l2))(hl2:lk σ.hs l2=ob2)(ho2:sU P E ob2 ds)(hlim:es.length+ds.length<=137438953472):
  bD P n o σ (((σ.lay l .gone).lay l' (.rowA T (es++ds))).put d (.row l')):=by
 rintro ok0 w0 a w ⟨β,r⟩ K Q hK;obtain⟨i,zv,hi,hzv,hzs,_⟩:=hz.ex;have hsz:i.size=P.cellsOf E:=by simp[Program.cellsOf,hi]
 have hbz:i.bytes=P.bytesOf E:=by simp[Program.bytesOf,hi]
 have hbound:(es.length+ds.length)*P.bytesOf E<=140737488355328:=by have:=Nat.mul_le_mul hlim hby;omega
 have hml:es.length+ds.length<=maxLen:=by unfold maxLen;omega
 have ex:=bZ (hx _ _ _ _ _ _ r);have ey:=bZ (hy _ _ _ _ _ _ r);have hob:=r.hs l;rw[hl,ex]at hob;obtain⟨xs,hown,hone,hrd⟩:=ho1.ob hob;have hob2:=r.hs l2;rw[hl2,ey]at hob2;obtain⟨ys,hown2,hyone,hyrd⟩:=ho2.ob hob2;have key:∃v' w',(Builtin.append_ #[T,T] o.type #[a.eval x,a.eval y]).run P w= .ok v' w'∧w'.ownsRow 0 E (P.cellsOf E) v' (es.length+ds.length) (xs++ys)∧w.grownBy w' (a.eval x).ownBlock∧(v'.ownBlock=(a.eval x).ownBlock∨v'.ownBlock=some w.heap.size):=by
  rcases hown2.2 with⟨h2,h3⟩| ⟨g,cap,cur,h2,_⟩
  ·have:ys=[]:=List.eq_nil_of_length_eq_zero (by rw[hown2.1,h3];simp);subst this;rw[h2,h3];exact⟨a.eval x,w,jc w 0 T o.type E i (P.cellsOf E) hu hi _ _ _ hown 0,by simpa using hown,⟨rfl,rfl,rfl,aL _,fun _ _ _=>rfl⟩,.inl rfl⟩
  ·have hcells:=hown2.cells (g:=g) (by rw[h2];rfl);rw[h2];obtain⟨v',w',q1,q2,q3,_,q5⟩:=run_append_own_at (P:=P) w 0 T o.type E i zv (P.cellsOf E) (P.bytesOf E) hu hi hzv hsz hbz hzs (by omega) (a.eval x) es.length xs hown _ ds.length cap ys hown2.1 hcells hyone hml hbound (aN _);exact⟨v',w',q1,q2,q3,q5⟩
 obtain⟨v',w',hrun,hown',hgr,hblk'⟩:=key;have hob':v'.ownBlock=blk v':=by rcases hown'.2 with⟨rfl,_⟩| ⟨g,cap,cur,rfl,_⟩<;>rfl
 obtain⟨bl,ebl⟩:∃bl,a.eval x=bl:=⟨_,rfl⟩;rw[ebl]at ex hown hgr hblk' hrun;have hbl:bl.ownBlock=blk bl:=by rcases hown.2 with⟨rfl,_⟩| ⟨g,cap,cur,rfl,_⟩<;>rfl
 unfold Oper.wp execOp;simp only[ho,resolve,invoke,builtin,Sem.run_bind,Sem.run_pure,Result.andThen_ok,List.map_toArray,List.map_cons,List.map_nil,ebl,hrun];refine hK _ _ ?_;rw[hd];have hlown:∀b,blk bl=some b->owns σ.hs β l b:=fun b hb=>⟨by rw[hl];exact ho1.own.1,bl,ex,.inl hb⟩;have hnew:=r.take l l' (.rowA T (es++ds)) v' w' (by rw[hl];exact ho1.own.2) hf hk0 hgr.os hgr.tape hgr.output hgr.size
  (fun b hb hne=>hgr.block b hb fun e=>hne (hlown b (by rw[←hbl,←e])))
  (fun b hb=>by
   have hb:=hb.of hown'.notup;rw[←hob']at hb;rcases hblk' with h|h;·right;exact hlown b (by rw[←hbl,←h,hb])
   ·left;rw[h]at hb;cases hb;exact aL _)
  (fun hex hk=>by
   refine⟨E,v',xs++ys,rfl,hu,by simpa using hown',?_,?_⟩
   ·    intro u hu2;rcases List.mem_append.1 hu2 with h|h;·exact hone u h
        ·exact hyone u h
   ·    intro i' d' hd';have hxl:=hown.1;by_cases hlt:i'<es.length
        ·rw[List.getElem?_append_left hlt]at hd';have hmul:(i'+1)*P.cellsOf E<=es.length*P.cellsOf E:=aH _ hlt;rw[Nat.add_mul,Nat.one_mul]at hmul;rw[ig (by omega)];exact(hrd i' d' hd').mono hk hex
        ·rw[List.getElem?_append_right (by omega)]at hd';have hmul:es.length*P.cellsOf E<=i'*P.cellsOf E:=aH _ (by omega);rw[gJ (by omega),hxl,←Nat.sub_mul];exact(hyrd _ d' hd').mono hk hex)
 refine Rel.put hnew hn (lH (bJ _ _ _) ?_);rcases hown'.2 with⟨rfl,_⟩| ⟨g,cap,cur,rfl,_⟩<;>rfl
end
def agK(P:Program)(T:TypeId):Bool:=match P.underlying T with
 |  some (.struct fs)=>match fs.toList with
    | [f,g]=>match P.underlying f.type with
      |some (.int _)=>(f.name != "_" &&(g.name != "_" &&(Nat.beq g.type f.type&&(Nat.beq f.offset 0&&(Nat.beq g.offset 1&&(Nat.beq (P.cellsOf T) 2&&(Nat.beq (P.cellsOf f.type) 1&&(!(P.stoodInHeld T)&&!(P.eqGuardType P.depth T)))))))))
      |_=>false
    |_=>false
 |_=>false
def ptE(p q:Dt):Bool:=((p.fld 0).toInt==(q.fld 0).toInt)&&((p.fld 1).toInt==(q.fld 1).toInt)
structure PtOK (P:Program) (T:TypeId) (fs:Array Field) (f g:Field) (k:IntKind):Prop where
 hu:P.underlying T=some (.struct fs)
 hl:fs.toList=[f,g]
 hi:P.underlying f.type=some (.int k)
 n1:f.name≠ "_"
 n2:g.name≠ "_"
 ty:g.type=f.type
 o1:f.offset=0
 o2:g.offset=1
 c2:P.cellsOf T=2
 c1:P.cellsOf f.type=1
 st:P.stoodInHeld T=false
 eg:P.eqGuardType P.depth T=false
theorem Yi{P:Program}{T:TypeId}(h:agK P T=true):∃fs f g k,PtOK P T fs f g k:=by
 unfold agK at h;split at h
 ·rename_i fs hu;split at h
  ·rename_i f g hl;split at h
   ·    rename_i k hi;simp only[aJ,bne_iff_ne,ne_eq,Bool.not_eq_true']at h;obtain⟨h1,h2,h3,h4,h5,h6,h7,h8,h9⟩:=h;exact⟨fs,f,g,k,hu,hl,hi,h1,h2,aQ h3,aQ h4,aQ h5,aQ h6,aQ h7,h8,h9⟩
   ·cases h
  ·cases h
 ·cases h
section
variable{P:Program}{n:Nat}{o:Oper}{σ σ':St}{x y:Operand}{v:AV}{T:TypeId}
theorem PtOK.cells{fs:Array Field}{f g:Field}{k:IntKind}{ok:Nat->Prop}{w:World}{d:Dt}{cs:List Value}(h:PtOK P T fs f g k)(hr:RD P ok w T d cs):cs=[.int k (d.fld 0).toInt,.int k (d.fld 1).toInt]:=by
 obtain⟨_,hc,_,hf⟩:=hr.agg_inv h.hu;have hs:fs= #[f,g]:=by have:=h.hl;obtain⟨l⟩:=fs;simp only at this;rw[this]
 subst hs;have r0:=hf 0 f rfl;have r1:=hf 1 g rfl;rw[h.ty]at r1;rw[h.o1,h.c1]at r0;rw[h.o2,h.c1]at r1;rw[h.c2]at hc;obtain⟨_,e0,_⟩:=r0.int_inv h.hi;obtain⟨_,e1,_⟩:=r1.int_inv h.hi;match cs,hc,e0,e1 with
 | [a,b],_,e0,e1=>
   simp only[aK,List.take_succ_cons,List.take_zero,List.cons.injEq,and_true,List.drop_succ_cons]at e0 e1;rw[e0,e1]
theorem xq{k:IntKind}{e:TypeId}(he:P.underlying e=some (.int k)){xs:Array Value}{off:Nat}{z:Value}(hx:xs[off]? =some z)(w:World):(part e xs off).run P w= .ok z w:=by
 have ha:(isAgg e).run P w= .ok false w:=by unfold isAgg;simp[Sem.run_bind,run_underlying he]
 unfold part;simp[Sem.run_bind,ha,hx]
theorem PtOK.run{fs:Array Field}{f g:Field}{k:IntKind}(h:PtOK P T fs f g k)(a b c d:Int)(w:World):(Op.equalIn 10000 T (.agg #[.int k a,.int k b]) (.agg #[.int k c,.int k d])).run P w= .ok (a==c&&b==d) w:=by
 have hF:P.fieldsOf T=fs:=by unfold Program.fieldsOf;rw[h.hu]
 rw[show (10000:Nat)=9999+1 from rfl,run_equalIn_struct w 9999 T _ _ (by rw[hF];exact h.hu) h.st,hF,h.hl];have hi2:P.underlying g.type=some (.int k):=by rw[h.ty];exact h.hi
 have p1:∀p q:Int,(part f.type #[.int k p,.int k q] f.offset).run P w= .ok (.int k p) w:=fun p q=>xq h.hi (by rw[h.o1];rfl) w;have p2:∀p q:Int,(part g.type #[.int k p,.int k q] g.offset).run P w= .ok (.int k q) w:=fun p q=>xq hi2 (by rw[h.o2];rfl) w;have q1:=run_equalIn_int w 9998 f.type k k a c h.hi;have q2:=run_equalIn_int w 9998 g.type k k b d hi2;simp only[Op.eqFields,h.n1,h.n2,ne_eq,not_false_eq_true,if_true,Sem.run_bind,p1,p2,Result.andThen_ok,q1,q2,Sem.run_ite,Sem.run_pure];cases (a==c)<;>cases (b==d)<;>rfl
theorem ap4{d:Nat}{op:BinOp}{T1 T2 TB:TypeId}{p q:Dt}{b:Bool}(ho:o.op= .binOp op T1 x y T2)(hd:o.dst=some d)(hn:d<n)(hb:P.underlying TB=some .bool)(hT:agK P T1=true)
  (hx:Ev P σ x (.dat T1 p))(hy:Ev P σ y (.dat T1 q))(hop:(op= .eql∧b=ptE p q)∨(op= .neq∧b=!ptE p q)):bD P n o σ (σ.put d (.dat TB (.bool b))):=
 bf hd hn fun ok0 w0 a w β r=>by
  obtain⟨fs,f,g,k,h⟩:=Yi hT;obtain⟨c1,e1,r1⟩:=(RV.dat_agg (gM h.hu)).1 (hx _ _ _ _ _ _ r);obtain⟨c2,e2,r2⟩:=(RV.dat_agg (gM h.hu)).1 (hy _ _ _ _ _ _ r);rw[h.cells r1]at e1;rw[h.cells r2]at e2;refine⟨.bool b,?_,RV.mk_bool hb⟩;unfold execOp;simp only[ho,e1,e2];rw[Sem.run_bind];have hg:=run_eqGuard_agg w op T1 x y [.int k (p.fld 0).toInt,.int k (p.fld 1).toInt].toArray [.int k (q.fld 0).toInt,.int k (q.fld 1).toInt].toArray h.eg;have hr:=h.run (p.fld 0).toInt (p.fld 1).toInt (q.fld 0).toInt (q.fld 1).toInt w;rcases hop with⟨rfl,rfl⟩| ⟨rfl,rfl⟩
  ·have:=run_eql_struct (P:=P) w T1 #[.int k (p.fld 0).toInt,.int k (p.fld 1).toInt] #[.int k (q.fld 0).toInt,.int k (q.fld 1).toInt];rw[hr]at this;simp[Sem.run_bind,hg,this,ptE]
  ·have:=run_neq_struct (P:=P) w T1 #[.int k (p.fld 0).toInt,.int k (p.fld 1).toInt] #[.int k (q.fld 0).toInt,.int k (q.fld 1).toInt];rw[hr]at this;simp[Sem.run_bind,hg,this,ptE]
end
def ppE(P:Program)(T:TypeId):Option TypeId:=match P.underlying T with
 |some (.pointer E)=>some E
 |_=>none
theorem mG{P:Program}{T E:TypeId}(h:ppE P T=some E):P.underlying T=some (.pointer E):=by
 unfold ppE at h;split at h;·rename_i E' hu;cases h;exact hu
 ·cases h
section
variable{P:Program}{n:Nat}{o:Oper}{σ σ':St}{x y:Operand}{v:AV}{T:TypeId}
theorem RelB.frzBox{K:OkX}{w0 w:World}{a:Act}{β:Nat->Option Value}(r:RelB P K w0 n σ a w β){l:Nat}{c:AV}{d:Dt}{PT:TypeId}(hl:lk σ.hs l= .box T c)(hp:pk P σ.hs c=some (T,d))(hu:P.underlying PT=some (.pointer T)):
  RelB P K w0 n (σ.lay l (.frz PT [d])) a w β:=by
 have hob:=r.hs l;rw[hl]at hob;obtain⟨b,cs,hz,hh,hsz,hra⟩:=hob;have hrd:=dJ r.frzOK hra hp;have hown2:∀k b,owns (aV σ.hs l (.frz PT [d])) β k b->k≠l∧owns σ.hs β k b:=by
  rintro k b ⟨h1,z,h2,h3⟩;by_cases hkl:k=l;·subst hkl;rw[bH]at h1;cases h1
  ·rw[aS _ _ _ _ hkl]at h1;exact⟨hkl,h1,z,h2,h3⟩
 have hk:∀b,okOf K w0 w σ.hs β b->okOf K w0 w (aV σ.hs l (.frz PT [d])) β b∧w.heap[b]? =w.heap[b]? :=fun b hb=>⟨⟨hb.1,hb.2.1,fun k hk=>hb.2.2 k (hown2 k b hk).2⟩,rfl⟩;have hold:owns σ.hs β l b:=⟨by rw[hl];rfl,_,hz,.inl rfl⟩;refine⟨r.size,r.defers,r.below,fun k=>(r.ts k).mono hk (Ext.refl _),fun k=>?_,fun k k' b h1 h2=>r.sep k k' b (hown2 _ _ h1).2 (hown2 _ _ h2).2,fun k b h1=>r.own k b (hown2 _ _ h1).2,r.ext,r.kk,r.tab.mono hk⟩;show ObOK P _ w β (lk (aV σ.hs l (.frz PT [d])) k) _;by_cases hkl:k=l
 ·subst hkl;rw[bH,hz];refine⟨_,rfl,bQ hu rfl,.ptr (cs:=cs.toList) ⟨b,0,none⟩ hu ⟨r.blk_lt hold,fun hlt=>?_,fun k' hk'=>?_⟩ (by rw[Array.length_toList];exact hsz) (fun j u hj=>?_) (hrd.mono hk)⟩
  ·have hlt':b<w0.heap.size:=hlt;rcases r.own _ b hold with h2|h2;·omega
   ·exact .inr h2
  ·obtain⟨h2,h3⟩:=hown2 k' b hk';exact h2 (r.sep _ _ _ h3 hold)
  ·rw[eP,Nat.zero_add];simp only[World.cell?,hh];rw[Array.getElem?_toList]at hj;simpa using hj
 ·rw[aS _ _ _ _ hkl];exact(r.hs k).mono hk (fun _ _ _ _ _=>rfl) (Ext.refl _)
theorem Ev.pd{E:TypeId}{d e:Dt}(h:Ev P σ x (.dat T d))(hu:P.underlying T=some (.pointer E))(hi:idx d.toLst 0=some e):Ev P σ x (.rptr E e):=fun ok0 w0 n a w β r=>by
 have h1:=(RV.dat_one (bQ hu rfl)).1 (h _ _ _ _ _ _ r);obtain⟨_,h2⟩:=h1.ptr_inv hu;rcases h2 with⟨h3,_⟩| ⟨e',ad,c,h3,h4,h5,h6,h7,h8⟩;·rw[h3]at hi;cases hi
 ·rw[h3]at hi;cases hi;have e4:a.eval x= .pointer (some ad):=by simpa using h4
  rw[e4];exact xK h5 h6 h7 h8
theorem MK{T1 E:TypeId}(w:World)(hu:P.underlying T1=some (.pointer E))(p:Option Addr):(Op.equal T1 (.pointer p) (.pointer none)).run P w= .ok p.isNone w:=by
 have key:∀d:Nat,(Op.equalIn (d+1) T1 (.pointer p) (.pointer none)).run P w= .ok p.isNone w:=fun d=>by cases p<;>simp[Op.equalIn,run_underlying hu]
 simp only[Op.equal,Op.maxDepth];exact key 9999
theorem UG{d:Nat}{op:BinOp}{T2 TB E:TypeId}{p:Dt}{b:Bool}(ho:o.op= .binOp op T x (.const (.pointer none)) T2)(hd:o.dst=some d)(hn:d<n)(hb:P.underlying TB=some .bool)(hu:P.underlying T=some (.pointer E))
  (hx:Ev P σ x (.dat T p))(hop:(op= .eql∧b=p.toLst.isEmpty)∨(op= .neq∧b=!p.toLst.isEmpty)):bD P n o σ (σ.put d (.dat TB (.bool b))):=
 bf hd hn fun ok0 w0 a w β r=>by
  have h1:=(RV.dat_one (bQ hu rfl)).1 (hx _ _ _ _ _ _ r);obtain⟨_,h2⟩:=h1.ptr_inv hu;have key:∃q:Option Addr,a.eval x= .pointer q∧q.isNone=p.toLst.isEmpty:=by
   rcases h2 with⟨h3,h4⟩| ⟨e',ad,c,h3,h4,_⟩;·exact⟨none,by simpa using h4,by rw[h3];rfl⟩
   ·exact⟨some ad,by simpa using h4,by rw[h3];rfl⟩
  obtain⟨q,e1,e2⟩:=key;have e3:a.eval (.const (.pointer none))= .pointer none:=rfl;refine⟨.bool b,?_,RV.mk_bool hb⟩;unfold execOp;rcases hop with⟨rfl,rfl⟩| ⟨rfl,rfl⟩
  ·simp only[ho,e1,e3];simp[eqGuard,binOp,MK w hu q,e2]
  ·simp only[ho,e1,e3];simp[eqGuard,binOp,MK w hu q,e2]
end
section
variable{P:Program}{n:Nat}{o:Oper}{σ σ':St}{x y:Operand}{v:AV}{T:TypeId}{K:OkX}{w0 w:World}{a:Act}{β:Nat->Option Value}
theorem RelB.re(h:RelB P K w0 n σ a w β)(hs':List Ob)(β':Nat->Option Value)(hE:Ext β β')(ho:∀l b,owns hs' β' l b->∃l0,owns σ.hs β l0 b)(hs:∀l l' b,owns hs' β' l b->owns hs' β' l' b->l=l')
  (hob:(∀b,okOf K w0 w σ.hs β b->okOf K w0 w hs' β' b)->∀l,ObOK P (okOf K w0 w hs' β') w β' (lk hs' l) (β' l))(hx:∀l,l<K.k0->β' l=β l):RelB P K w0 n ⟨σ.ts,hs',σ.k0⟩ a w β':=by
 have hk:∀b,okOf K w0 w σ.hs β b->okOf K w0 w hs' β' b:=fun b hb=>⟨hb.1,hb.2.1,fun l hl=>let ⟨l0,h0⟩:=ho l b hl;hb.2.2 l0 h0⟩;have hk':∀b,okOf K w0 w σ.hs β b->okOf K w0 w hs' β' b∧w.heap[b]? =w.heap[b]? :=fun b hb=>⟨hk b hb,rfl⟩;exact⟨h.size,h.defers,h.below,fun k=>(h.ts k).mono hk' hE,hob hk,hs,fun l b hl=>let ⟨l0,h0⟩:=ho l b hl;h.own l0 b h0,fun l hl=>(hx l hl).trans (h.ext l hl),h.kk,h.tab.mono hk'⟩
theorem RelB.okU(h:RelB P K w0 n σ a w β){l b:Nat}{hs':List Ob}{β':Nat->Option Value}(ho:owns σ.hs β l b)(hn:∀l',¬owns hs' β' l' b):okOf K w0 w hs' β' b:=by
 refine⟨h.blk_lt ho,fun hb=>?_,hn⟩;rcases h.own l b ho with h1|h1;·omega
 ·exact .inr h1
theorem Kl.nolk{T T2:TypeId}{c:Option Nat}{k i:Nat}{es:List Dt}{h:Option (Nat×Nat)}{v:Option Value}{d:Dt}(r:Kl P w β T T2 c k es h v)(hi:es[i]? =some d)(hd:lkd c d=true):False:=by
 obtain⟨rfl,b,KT,E2,ents,clock,arr,_,_,_,_,_,hlen,_,_,hr⟩:=r;have hlt:i<ents.length:=by rw[hlen];exact(ak.1 hi).1
 obtain⟨s,rfl,_⟩:=hr i _ d (aB hlt) hi;cases hd
theorem CX{ok:Nat->Prop}{T T2:TypeId}{c:Option Nat}{k:Nat}{es:List Dt}{h:Option (Nat×Nat)}{v:Option Value}(r:auN P ok w β T T2 c k es h v∨Kl P w β T T2 c k es h v):∃(E2:TypeId)(arr:Array Value),P.underlying T2=some (.slice E2)∧β k=some (.tuple arr)∧es.length<=arr.size:=by
 rcases r with⟨_,E2,_,_,_,arr,_,_,_,h3,_,_,h1,h2,_⟩| ⟨_,_,_,E2,_,_,arr,_,_,_,h3,_,_,h1,h2,_⟩;·exact⟨E2,arr,h3,h1,h2⟩
 ·exact⟨E2,arr,h3,h1,h2⟩
theorem nC{arr:Array Value}{b:Nat}(h:Blk (.tuple arr) b):∃(i:Nat)(z:Value),arr[i]? =some z∧blk z=some b:=by
 rcases h with h| ⟨arr',e,h⟩;·cases h
 ·cases e;exact h
theorem RelB.focus(h:RelB P K w0 n σ a w β){T5 T2 k l i p q:Nat}{c:Option Nat}{es ls ds:List Dt}{d:Dt}(hl:lk σ.hs l= .rowD T5 T2 c k es none)(hk:lk σ.hs k= .tok T2 ls)(hi:es[i]? =some d)(hd:lkd c d=true)(hls:ls[i]? =some (.lst ds))
  (hp:lk σ.hs p= .free)(hq:lk σ.hs q= .free)(hpq:p≠q)(hp0:σ.k0<=p)(hq0:σ.k0<=q):
  ∃β',RelB P K w0 n ⟨σ.ts,aV (aV (aV (aV σ.hs l (.rowD T5 T2 c q es (some (i,p)))) k .gone) p (.row T2 ds)) q (.tok T2 (ls.set i (.lst []))),σ.k0⟩ a w β'∧Ext β β'∧
   ∃(E E2 fo:TypeId)(z:Value)(xs:List Value),P.underlying T5=some (.slice E)∧iE P E c T2 fo∧P.underlying T2=some (.slice E2)∧β l=some z∧w.ownsRow 0 E (P.cellsOf E) z es.length xs∧xs[i*P.cellsOf E+fo]? =β' p:=by
 have hol:=h.hs l;rw[hl]at hol;rcases hol with⟨E,E2,fo,z,xs,arr,e1,hu,hh,hu2,hown,hone,hβk,hsz,hr⟩|hM
 rotate_left
 ·exact(hM.nolk hi hd).elim
 have hok:=h.hs k;rw[hk,hβk]at hok;obtain⟨E2',arr',e2,hu2',hasz,hsep,hrl⟩:=hok;cases e2;obtain⟨ds',zi,ys,e3,hzi,hyo,hy1,hyr⟩:=hrl i _ hls;cases e3;obtain⟨_,zi',hz1,hz2,_⟩:=(hr i d hi).2 hd;have hz3:=hz2 (fun _=>nofun);rw[hzi]at hz3;cases hz3
 have fp:β p=none:=by have:=h.hs p;rw[hp]at this;exact this
 have fq:β q=none:=by have:=h.hs q;rw[hq]at this;exact this
 have hlp:l≠p:=fun e=>by rw[e,hp]at hl;cases hl
 have hlq:l≠q:=fun e=>by rw[e,hq]at hl;cases hl
 have hlk:l≠k:=fun e=>by rw[e,hk]at hl;cases hl
 have hkp:k≠p:=fun e=>by rw[e,hp]at hk;cases hk
 have hkq:k≠q:=fun e=>by rw[e,hq]at hk;cases hk
 have hilt:i<arr.size:=(Array.getElem?_eq_some_iff.1 hzi).1
 let β':=upB (upB β p (some zi)) q (some (.tuple (arr.set i (.slice none 0 0) hilt)))
 have bp:β' p=some zi:=by show upB _ q _ p=_;rw[bO _ _ _ _ hpq,bJ]
 have bq:β' q=some (.tuple (arr.set i (.slice none 0 0) hilt)):=bJ _ _ _;have bo:∀j,j≠p->j≠q->β' j=β j:=fun j h1 h2=>by show upB _ q _ j=_;rw[bO _ _ _ _ h2,bO _ _ _ _ h1]
 have hE:Ext β β':=fun j u hj=>by
  by_cases j1:j=p;·subst j1;rw[fp]at hj;cases hj
  ·by_cases j2:j=q;·subst j2;rw[fq]at hj;cases hj
   ·rw[bo j j1 j2];exact hj
 let hs':=aV (aV (aV (aV σ.hs l (.rowD T5 T2 c q es (some (i,p)))) k .gone) p (.row T2 ds)) q (.tok T2 (ls.set i (.lst [])))
 have lq:lk hs' q= .tok T2 (ls.set i (.lst [])):=bH _ _ _;have lp:lk hs' p= .row T2 ds:=by show lk (aV _ q _) p=_;rw[aS _ _ _ _ hpq,bH]
 have lkk:lk hs' k= .gone:=by show lk (aV _ q _) k=_;rw[aS _ _ _ _ hkq,aS _ _ _ _ hkp,bH]
 have ll:lk hs' l= .rowD T5 T2 c q es (some (i,p)):=by show lk (aV _ q _) l=_;rw[aS _ _ _ _ hlq,aS _ _ _ _ hlp,aS _ _ _ _ hlk,bH]
 have lo:∀j,j≠p->j≠q->j≠k->j≠l->lk hs' j=lk σ.hs j:=fun j h1 h2 h3 h4=>by show lk (aV _ q _) j=_;rw[aS _ _ _ _ h2,aS _ _ _ _ h1,aS _ _ _ _ h3,aS _ _ _ _ h4]
 have kown:∀(j:Nat)(u:Value)(b:Nat),arr[j]? =some u->blk u=some b->owns σ.hs β k b:=fun j u b h1 h2=>⟨by rw[hk];rfl,_,hβk,.inr ⟨arr,rfl,j,u,h1,h2⟩⟩;have hw:∀j b,owns hs' β' j b->(j=p∧blk zi=some b)∨(j=q∧∃(m:Nat)(u:Value),m≠i∧arr[m]? =some u∧blk u=some b)∨(j≠p∧j≠q∧j≠k∧owns σ.hs β j b):=by
  rintro j b ⟨h1,u,h2,h3⟩;by_cases jp:j=p;·subst jp;rw[bp]at h2;cases h2;exact .inl ⟨rfl,h3.of hyo.notup⟩
  by_cases jq:j=q
  ·subst jq;rw[bq]at h2;cases h2
   obtain⟨m,u,hm,hb⟩:=nC h3;rw[Array.getElem?_set]at hm;by_cases hmi:i=m;·rw[if_pos hmi]at hm;cases hm;cases hb
   ·rw[if_neg hmi]at hm;exact .inr (.inl ⟨rfl,m,u,fun e=>hmi e.symm,hm,hb⟩)
  by_cases jk:j=k;·subst jk;rw[lkk]at h1;cases h1
  rw[bo j jp jq]at h2;refine .inr (.inr ⟨jp,jq,jk,?_,u,h2,h3⟩);by_cases jl:j=l;·subst jl;rw[hl];rfl
  ·rw[lo j jp jq jk jl]at h1;exact h1
 refine⟨β',h.re hs' β' hE ?_ ?_ ?_ ?_,hE,E,E2,fo,z,xs,hu,hh,hu2,e1,hown,by rw[bp];exact hz1⟩
 ·intro j b hj;rcases hw j b hj with⟨_,hb⟩| ⟨_,m,u,_,hm,hb⟩| ⟨_,_,_,hb⟩;·exact⟨k,kown i zi b hzi hb⟩
  ·exact⟨k,kown m u b hm hb⟩
  ·exact⟨j,hb⟩
 ·intro j j' b hj hj';rcases hw j b hj with⟨e,hb⟩| ⟨e,m,u,hmi,hm,hb⟩| ⟨_,_,e3,hb⟩
  ·rcases hw j' b hj' with⟨e',hb'⟩| ⟨e',m',u',hmi',hm',hb'⟩| ⟨_,_,e3',hb'⟩;·rw[e,e']
   ·exact absurd (hsep m' i u' zi b hm' hzi hb' hb) hmi'
   ·exact absurd (h.sep _ _ _ hb' (kown i zi b hzi hb)) e3'
  ·rcases hw j' b hj' with⟨e',hb'⟩| ⟨e',m',u',hmi',hm',hb'⟩| ⟨_,_,e3',hb'⟩;·exact absurd (hsep m i u zi b hm hzi hb hb') hmi
   ·rw[e,e']
   ·exact absurd (h.sep _ _ _ hb' (kown m u b hm hb)) e3'
  ·rcases hw j' b hj' with⟨e',hb'⟩| ⟨e',m',u',hmi',hm',hb'⟩| ⟨_,_,e3',hb'⟩;·exact absurd (h.sep _ _ _ hb (kown i zi b hzi hb')) e3
   ·exact absurd (h.sep _ _ _ hb (kown m' u' b hm' hb')) e3
   ·exact h.sep _ _ _ hb hb'
 ·intro  hkk j;have hkk':∀b,okOf K w0 w σ.hs β b->okOf K w0 w hs' β' b∧w.heap[b]? =w.heap[b]? :=fun b hb=>⟨hkk b hb,rfl⟩;by_cases jp:j=p;·subst jp;rw[lp,bp];exact⟨E2',zi,ys,rfl,hu2',hyo,hy1,fun m d' hd'=>(hyr m d' hd').mono hkk'⟩
  by_cases jq:j=q
  ·subst jq;rw[lq,bq]
   refine⟨E2',_,rfl,hu2',by rw[Array.size_set,List.length_set];exact hasz,fun m m' u u' b h1 h2 h3 h4=>?_,fun m d' hd'=>?_⟩
   ·    rw[Array.getElem?_set]at h1 h2;by_cases hmi:i=m;·rw[if_pos hmi]at h1;cases h1;cases h3
        ·by_cases hmi':i=m';·rw[if_pos hmi']at h2;cases h2;cases h4
         ·rw[if_neg hmi]at h1;rw[if_neg hmi']at h2;exact hsep m m' u u' b h1 h2 h3 h4
   ·    rw[List.getElem?_set]at hd';by_cases hmi:i=m
        ·subst hmi;rw[if_pos rfl,if_pos (by rw[←hasz];exact hilt)]at hd';cases hd';exact⟨[],.slice none 0 0,[],rfl,by rw[Array.getElem?_set,if_pos rfl],World.ownsRow_nil _ _ _ _,fun c hc=>by simp at hc,fun j d hd=>by simp at hd⟩
        ·rw[if_neg hmi]at hd';obtain⟨es',u,us,q1,q2,q3,q4,q5⟩:=hrl m d' hd';exact⟨es',u,us,q1,by rw[Array.getElem?_set,if_neg hmi];exact q2,q3,q4,fun j d hd=>(q5 j d hd).mono hkk'⟩
  by_cases jk:j=k;·subst jk;rw[lkk];trivial
  by_cases jl:j=l
  ·subst jl;rw[ll,bo j jp jq]
   refine .inl ⟨E,E2,fo,z,xs,_,e1,hu,hh,hu2,hown,hone,bq,by rw[Array.size_set];exact hsz,fun m d' hd'=>⟨fun e=>((hr m d' hd').1 e).mono hkk',fun e=>?_⟩⟩;obtain⟨q1,u,q2,q3,_⟩:=(hr m d' hd').2 e;refine⟨q1.mono hkk',u,q2,fun hn=>?_,fun l3 e3=>?_⟩
   ·    have hmi:i≠m:=fun e=>hn p (by rw[e]);rw[Array.getElem?_set,if_neg hmi];exact q3 (fun _=>nofun)
   ·    cases e3;have:=q3 (fun _=>nofun);rw[hzi]at this;rw[bp];exact this
  ·rw[lo j jp jq jk jl,bo j jp jq];exact(h.hs j).mono hkk' (fun _ _ _ _ _=>rfl) hE
 ·intro j hj;have:=h.kk;exact bo j (by omega) (by omega)
theorem auc{A:Type}{b:Bool}{u:Option A}{r:A}(h:(bif b then u else none)=some r):b=true∧u=some r:=by
 cases b;·cases h
 ·exact⟨rfl,h⟩
def sV(P:Program)(E:TypeId)(c:Option Nat):Option (TypeId×Nat):=match c with
 |none=>bif Nat.beq (P.cellsOf E) 1 then some (E,0)else none
 |  some i=>match P.underlying E with
    |some (.struct fs)=>match fs[i]? with
     |some f=>bif (layB P E fs&&Nat.beq (P.cellsOf f.type) 1)then some (f.type,f.offset)else none
     |none=>none
    |_=>none
theorem mH{E T2 fo:TypeId}{c:Option Nat}(h:sV P E c=some (T2,fo)):iE P E c T2 fo:=by
 cases c with
 |none=>
  obtain⟨h1,h2⟩:=auc h;cases h2;have h1:=aQ h1;exact⟨h1,by omega,.inl ⟨rfl,rfl,rfl⟩⟩
 |some i=>
  simp only[sV]at h;split at h
  ·rename_i fs hu;split at h
   ·    rename_i f hf;obtain⟨h1,h2⟩:=auc h;cases h2;rw[aJ]at h1;have h3:=aQ h1.2;have h4:=Ql h1.1 hf;refine⟨h3,by omega,.inr ⟨i,fs,f,rfl,hu,hf,rfl,rfl,fun j g hg hij=>?_⟩⟩;rcases Fv h1.1 hf hg (fun e=>hij e.symm)with h5|h5;·left;omega
        ·exact .inr h5
   ·cases h
  ·cases h
theorem sW{E T2 fo T3 fo3:TypeId}{c:Option Nat}(h:iE P E c T2 fo)(h':iE P E c T3 fo3):T2=T3∧fo=fo3:=by
 obtain⟨_,_,h⟩:=h;obtain⟨_,_,h'⟩:=h';rcases h with⟨rfl,rfl,rfl⟩| ⟨i,fs,f,rfl,h1,h2,rfl,rfl,_⟩
 ·rcases h' with⟨_,rfl,rfl⟩| ⟨i,_,_,e,_⟩;·exact⟨rfl,rfl⟩
  ·cases e
 ·rcases h' with⟨e,_⟩| ⟨i',fs',f',e,h1',h2',rfl,rfl,_⟩;·cases e
  ·cases e;rw[h1]at h1';cases h1'
   rw[h2]at h2';cases h2'
   exact⟨rfl,rfl⟩
theorem Jf{T5 T2 E Te k l i p q off d':Nat}{c:Option Nat}{path:List Nat}{es ls ds:List Dt}{d:Dt}(ho:o.op= .load T x)(hdst:o.dst=some d')(hn:d'<n)(hT:P.underlying T=some (.slice Te))(hu5:P.underlying T5=some (.slice E))
   (hx:Ev P σ x (.eptr l i (P.cellsOf E) path off))(hf:sV P E c=some (T,off))(hl:lk σ.hs l= .rowD T5 T2 c k es none)(hk:lk σ.hs k= .tok T2 ls)(hi:es[i]? =some d)(hd:lkd c d=true)(hls:ls[i]? =some (.lst ds))
   (hp:lk σ.hs p= .free)(hq:lk σ.hs q= .free)(hpq:p≠q)(hp0:σ.k0<=p)(hq0:σ.k0<=q):
   bD P n o σ ((⟨σ.ts,aV (aV (aV (aV σ.hs l (.rowD T5 T2 c q es (some (i,p)))) k .gone) p (.row T2 ds)) q (.tok T2 (ls.set i (.lst []))),σ.k0⟩:St).put d' (.row p)):=by
 rintro ok0 w0 a w ⟨β,r⟩ K Q hK;obtain⟨β',r',hE,E',E2,fo,z,xs,g1,g2,g3,g4,g5,g6⟩:=r.focus hl hk hi hd hls hp hq hpq hp0 hq0;obtain rfl:E=E':=by rw[hu5]at g1;cases g1;rfl
 obtain⟨rfl,rfl⟩:T=T2∧off=fo:=sW (mH hf) g2;have h1:=g2.1;have hfit:=g2.2.1;have h:=(hx _ _ _ _ _ _ r).2 rfl;generalize hz:a.eval x=zx at h;cases h with
 | @eptrB _ _ _ _ _ _ hb=>exact(ObOK.np (r.hs l) (.inr (.inr ⟨_,_,_,_,_,_,hl⟩)) hb).elim
 | @eptr _ _ _ b m cap _ _ hb=>
   rw[hb]at g4;cases g4;have hlen:=g5.1;have hlt:i<es.length:=(ak.1 hi).1;have hmul:(i+1)*P.cellsOf E<=es.length*P.cellsOf E:=aH _ hlt;rw[Nat.add_mul,Nat.one_mul]at hmul;rcases g5.2 with⟨h2,_⟩| ⟨g,cap',cur,h2,hg2,hh,hnc,hcm,hsz,htk⟩;·cases h2
   ·cases h2;have hxi:i*P.cellsOf E+off<xs.length:=by omega
    obtain⟨zi,hzi⟩:∃zi,xs[i*P.cellsOf E+off]? =some zi:=⟨_,aB hxi⟩;have hbp:β' p=some zi:=by rw[←g6];exact hzi
    have hone:zi.oneCell'=true:=by
        have hob:=r'.hs p;have hlp:lk (aV (aV (aV (aV σ.hs l (.rowD T5 T c q es (some (i,p)))) k .gone) p (.row T ds)) q (.tok T (ls.set i (.lst [])))) p= .row T ds:=by rw[aS _ _ _ _ hpq,bH]
        rw[hlp,hbp]at hob;obtain⟨E3,xs3,_,ho3,_⟩:=iF hob;rcases ho3.2 with⟨rfl,_⟩| ⟨g',cap2,cur2,rfl,_⟩<;>rfl
    obtain⟨zz,hrun,hrv⟩:=kH (P:=P) (T:=T) (w:=w) (β:=β') (v:= .row p) (ok:=okOf ok0 w0 w (aV (aV (aV (aV σ.hs l (.rowD T5 T c q es (some (i,p)))) k .gone) p (.row T ds)) q (.tok T (ls.set i (.lst [])))) β') (ad:=⟨b,i*P.cellsOf E+off,none⟩) (cs:=[zi]) hT (by rw[h1];rfl) (fun j u hj=>by
        cases j with
        |zero=>
         cases hj;rw[eP,cell_of_row w b _ cur E (0,0) hh];rw[←htk,List.getElem?_take]at hzi;split at hzi;·simpa using hzi
         ·cases hzi
        |succ j=>cases hj) (fun _=>h1) (by simp[AV.isAgg,bS,hT]) (.row hbp hone) (fun _=>nofun)
    unfold Oper.wp execOp;simp only[ho,hz,Sem.run_bind,hrun,Result.andThen_ok,Sem.run_pure];refine hK _ _ ?_;rw[hdst];exact⟨β',r'.put hn hrv⟩
theorem ML{T5 T2 E Te k l i m off d':Nat}{c:Option Nat}{path:List Nat}{es:List Dt}{d:Dt}(ho:o.op= .load T x)(hdst:o.dst=some d')(hn:d'<n)(hT:P.underlying T=some (.slice Te))(hu5:P.underlying T5=some (.slice E))
   (hx:Ev P σ x (.eptr l i (P.cellsOf E) path off))(hf:sV P E c=some (T,off))(hl:lk σ.hs l= .rowD T5 T2 c k es (some (i,m)))(hi:es[i]? =some d)(hd:lkd c d=true):bD P n o σ (σ.put d' (.row m)):=by
 rintro ok0 w0 a w ⟨β,r⟩ K Q hK;have hob:=r.hs l;rw[hl]at hob;rcases hob with⟨E',E2,fo,z,xs,arr,e1,g1,g2,_,g5,hone,_,_,hrd⟩|hM
 rotate_left
 ·exact(hM.no hu5).elim
 obtain rfl:E=E':=by rw[hu5]at g1;cases g1;rfl
 obtain⟨rfl,rfl⟩:T=T2∧off=fo:=sW (mH hf) g2;obtain⟨_,zi,hzi,_,q4⟩:=(hrd i d hi).2 hd;have hbm:β m=some zi:=q4 m rfl;have h1:=g2.1;have h:=(hx _ _ _ _ _ _ r).2 rfl;generalize hz:a.eval x=zx at h;cases h with
 | @eptrB _ _ _ _ _ _ hb=>exact(ObOK.np (r.hs l) (.inr (.inr ⟨_,_,_,_,_,_,hl⟩)) hb).elim
 | @eptr _ _ _ b m' cap _ _ hb=>
   rw[hb]at e1;cases e1;rcases g5.2 with⟨h2,_⟩| ⟨g,cap',cur,h2,hg2,hh,hnc,hcm,hsz,htk⟩;·cases h2
   ·cases h2;have hzo:zi.oneCell'=true:=hone zi (aM hzi);obtain⟨zz,hrun,hrv⟩:=kH (P:=P) (T:=T) (w:=w) (β:=β) (v:= .row m) (ok:=okOf ok0 w0 w σ.hs β) (ad:=⟨b,i*P.cellsOf E+off,none⟩) (cs:=[zi]) hT (by rw[h1];rfl) (fun j u hj=>by
        cases j with
        |zero=>
         cases hj;rw[eP,cell_of_row w b _ cur E (0,0) hh];rw[←htk,List.getElem?_take]at hzi;split at hzi;·simpa using hzi
         ·cases hzi
        |succ j=>cases hj) (fun _=>h1) (by simp[AV.isAgg,bS,hT]) (.row hbm hzo) (fun _=>nofun)
    unfold Oper.wp execOp;simp only[ho,hz,Sem.run_bind,hrun,Result.andThen_ok,Sem.run_pure];refine hK _ _ ?_;rw[hdst];exact⟨β,r.put hn hrv⟩
theorem UH{cs:List Value}{fo o1 m:Nat}{u:Value}(h:fo<o1∨o1+m<=fo):(((cs.set fo u).drop o1).take m)=(cs.drop o1).take m:=by
 apply List.ext_getElem?;intro k;rw[cO,cO];split;·rw[List.getElem?_set,if_neg (by omega)]
 ·rfl
theorem Jg{cs:List Value}{fo:Nat}{u:Value}(h:cs[fo]? =some u):(cs.drop fo).take 1=[u]:=by have hl:=(ak.1 h).1;rw[ay hl,List.take_succ_cons,List.take_zero];have:=aB hl;rw[h]at this;cases this;rfl
theorem anq{i:Nat}{d:Dt}(h:lkd (some i) d=true):∃ds b,d= .agg ds∧ds[i]? =some (.bool b):=by
 cases d with
 |agg ds=>
  simp only[lkd]at h;split at h;·rename_i b hb;exact⟨ds,b,rfl,hb⟩
  ·cases h
 |_=>simp[lkd]at h
theorem Yj{ok:Nat->Prop}{E T2 E2 fo:TypeId}{c:Option Nat}{d:Dt}{ds:List Dt}{zi:Value}{seg:List Value}(hh:iE P E c T2 fo)(hu2:P.underlying T2=some (.slice E2))
  (hr:RD P ok w E (hol c d (.lst [])) (seg.set fo (.slice none 0 0)))(hz:seg[fo]? =some zi)(hz1:zi.oneCell'=true)(hzr:RD P ok w T2 (.lst ds) [zi])(hlk:lkd c d=true):RD P ok w E (hol c d (.lst ds)) seg:=by
 obtain⟨h1,_,hh⟩:=hh;rcases hh with⟨rfl,rfl,rfl⟩| ⟨i,fs,f,rfl,hu,hf,rfl,rfl,hap⟩
 ·obtain⟨_,a,cap,ad,g,e2,_⟩:=hr.lst_inv hu2;have hl:=congrArg List.length e2;rw[List.length_set]at hl;match seg,hl,hz with
  | [u],_,hz=>cases hz;exact hzr
 ·obtain⟨ds0,b,rfl,hb⟩:=anq hlk;have hil:=(ak.1 hb).1;obtain⟨⟨dd,e,hl⟩,hc,hone,hfl⟩:=hr.agg_inv hu;have e:Dt.agg (ds0.set i (.lst []))= .agg dd:=e;cases e;rw[List.length_set]at hl hc;refine .agg hu (by rw[List.length_set];exact hl) hc (fun u hu'=>?_) fun j g d' hg hd'=>?_
  ·obtain⟨k,hk⟩:=List.getElem?_of_mem hu';by_cases hkf:f.offset=k;·subst hkf;rw[hz]at hk;cases hk;exact hz1
   ·exact hone u (aM (i:=k) (by rw[List.getElem?_set,if_neg hkf];exact hk))
  ·rw[   List.getElem?_set]at hd';by_cases hij:i=j
   ·    subst hij;rw[hf]at hg;cases hg
        rw[if_pos rfl,if_pos hil]at hd';cases hd';rw[h1,Jg hz];exact hzr
   ·    rw[if_neg hij]at hd';have:=hfl j g hg;rw[UH (hap j g hg fun e=>hij e.symm)]at this;have e:(Dt.agg (ds0.set i (.lst []))).fld j=d':=by show (ds0.set i (.lst [])).getD j _=d';rw[List.getD,List.getElem?_set,if_neg hij,hd'];rfl
        have this':RD P ok w g.type ((Dt.agg (ds0.set i (.lst []))).fld j) ((seg.drop g.offset).take (P.cellsOf g.type)):=this;rw[e]at this';exact this'
theorem RelB.unfocus(h:RelB P K w0 n σ a w β){T5 T2 k l i m q:Nat}{c:Option Nat}{es ls ds:List Dt}(hl:lk σ.hs l= .rowD T5 T2 c k es (some (i,m)))(hk:lk σ.hs k= .tok T2 ls)(hm:lk σ.hs m= .row T2 ds)(hq:lk σ.hs q= .free)(hq0:σ.k0<=q):
  ∃β',RelB P K w0 n ⟨σ.ts,aV (aV (aV (aV σ.hs l (.rowD T5 T2 c q es none)) k .gone) m .gone) q (.tok T2 (ls.set i (.lst ds))),σ.k0⟩ a w β':=by
 have hol:=h.hs l;rw[hl]at hol;obtain⟨E2,arr,hu2,hβk,hsz⟩:=CX hol;have hok:=h.hs k;rw[hk,hβk]at hok;obtain⟨E2',arr',e2,hu2',hasz,hsep,hrl⟩:=hok;cases e2;have hom:=h.hs m;rw[hm]at hom;obtain⟨E3,zm,ys,e3,hu3,hyo,hy1,hyr⟩:=hom;obtain rfl:E2'=E3:=by rw[hu2']at hu3;cases hu3;rfl
 have fq:β q=none:=by have:=h.hs q;rw[hq]at this;exact this
 have hlq:l≠q:=fun e=>by rw[e,hq]at hl;cases hl
 have hlk:l≠k:=fun e=>by rw[e,hk]at hl;cases hl
 have hlm:l≠m:=fun e=>by rw[e,hm]at hl;cases hl
 have hkm:k≠m:=fun e=>by rw[e,hm]at hk;cases hk
 have hkq:k≠q:=fun e=>by rw[e,hq]at hk;cases hk
 have hmq:m≠q:=fun e=>by rw[e,hq]at hm;cases hm
 let β':=upB β q (some (.tuple (arr.setIfInBounds i zm)))
 have bq:β' q=some (.tuple (arr.setIfInBounds i zm)):=bJ _ _ _;have bo:∀j,j≠q->β' j=β j:=fun j h1=>bO _ _ _ _ h1;have hE:Ext β β':=fun j u hj=>by
  by_cases j2:j=q;·subst j2;rw[fq]at hj;cases hj
  ·rw[bo j j2];exact hj
 let hs':=aV (aV (aV (aV σ.hs l (.rowD T5 T2 c q es none)) k .gone) m .gone) q (.tok T2 (ls.set i (.lst ds)))
 have lq:lk hs' q= .tok T2 (ls.set i (.lst ds)):=bH _ _ _;have lm:lk hs' m= .gone:=by show lk (aV _ q _) m=_;rw[aS _ _ _ _ hmq,bH]
 have lkk:lk hs' k= .gone:=by show lk (aV _ q _) k=_;rw[aS _ _ _ _ hkq,aS _ _ _ _ hkm,bH]
 have ll:lk hs' l= .rowD T5 T2 c q es none:=by show lk (aV _ q _) l=_;rw[aS _ _ _ _ hlq,aS _ _ _ _ hlm,aS _ _ _ _ hlk,bH]
 have lo:∀j,j≠m->j≠q->j≠k->j≠l->lk hs' j=lk σ.hs j:=fun j h1 h2 h3 h4=>by show lk (aV _ q _) j=_;rw[aS _ _ _ _ h2,aS _ _ _ _ h1,aS _ _ _ _ h3,aS _ _ _ _ h4]
 have kown:∀(j:Nat)(u:Value)(b:Nat),arr[j]? =some u->blk u=some b->owns σ.hs β k b:=fun j u b h1 h2=>⟨by rw[hk];rfl,_,hβk,.inr ⟨arr,rfl,j,u,h1,h2⟩⟩;have mown:∀b,blk zm=some b->owns σ.hs β m b:=fun b h1=>⟨by rw[hm];rfl,_,e3,.inl h1⟩;have hw:∀j b,owns hs' β' j b->(j=q∧(owns σ.hs β m b∨owns σ.hs β k b))∨(j≠m∧j≠q∧j≠k∧owns σ.hs β j b):=by
  rintro j b ⟨h1,u,h2,h3⟩;by_cases jq:j=q
  ·subst jq;rw[bq]at h2;cases h2
   obtain⟨x,u,hx,hb⟩:=nC h3;rw[Array.getElem?_setIfInBounds]at hx;by_cases hxi:i=x
   ·    rw[if_pos hxi]at hx;split at hx;·cases hx;exact .inl ⟨rfl,.inl (mown b hb)⟩
        ·cases hx
   ·rw[if_neg hxi]at hx;exact .inl ⟨rfl,.inr (kown x u b hx hb)⟩
  by_cases jk:j=k;·subst jk;rw[lkk]at h1;cases h1
  by_cases jm:j=m;·subst jm;rw[lm]at h1;cases h1
  rw[bo j jq]at h2;refine .inr ⟨jm,jq,jk,?_,u,h2,h3⟩;by_cases jl:j=l;·subst jl;rw[hl];rfl
  ·rw[lo j jm jq jk jl]at h1;exact h1
 refine⟨β',h.re hs' β' hE ?_ ?_ ?_ ?_⟩
 ·intro j b hj;rcases hw j b hj with⟨_,hb|hb⟩| ⟨_,_,_,hb⟩;·exact⟨m,hb⟩
  ·exact⟨k,hb⟩
  ·exact⟨j,hb⟩
 ·intro j j' b hj hj';rcases hw j b hj with⟨e,hb⟩| ⟨f1,_,f3,hb⟩
  ·rcases hw j' b hj' with⟨e',hb'⟩| ⟨f1',_,f3',hb'⟩;·rw[e,e']
   ·    rcases hb with hb|hb;·exact absurd (h.sep _ _ _ hb' hb) f1'
        ·exact absurd (h.sep _ _ _ hb' hb) f3'
  ·rcases hw j' b hj' with⟨e',hb'⟩| ⟨_,_,_,hb'⟩
   ·    rcases hb' with hb'|hb';·exact absurd (h.sep _ _ _ hb hb') f1
        ·exact absurd (h.sep _ _ _ hb hb') f3
   ·exact h.sep _ _ _ hb hb'
 ·intro  hkk j;have hkk':∀b,okOf K w0 w σ.hs β b->okOf K w0 w hs' β' b∧w.heap[b]? =w.heap[b]? :=fun b hb=>⟨hkk b hb,rfl⟩;by_cases jq:j=q
  ·subst   jq;rw[lq,bq]
   refine⟨E2',_,rfl,hu2',by rw[Array.size_setIfInBounds,List.length_set];exact hasz,fun x x' u u' b h1 h2 h3 h4=>?_,fun x d' hd'=>?_⟩
   ·    rw[Array.getElem?_setIfInBounds]at h1 h2;by_cases hxi:i=x
        ·by_cases hxi':i=x';·omega
         · rw[if_pos hxi]at h1;rw[if_neg hxi']at h2
           split at h1;·cases h1;exact absurd (h.sep _ _ _ (kown x' u' b h2 h4) (mown b h3)) hkm
           ·cases h1
        ·by_cases hxi':i=x'
         · rw[if_neg hxi]at h1;rw[if_pos hxi']at h2
           split at h2;·cases h2;exact absurd (h.sep _ _ _ (kown x u b h1 h3) (mown b h4)) hkm
           ·cases h2
         ·rw[if_neg hxi]at h1;rw[if_neg hxi']at h2;exact hsep x x' u u' b h1 h2 h3 h4
   ·    rw[List.getElem?_set]at hd';by_cases hxi:i=x
        ·subst hxi;rw[if_pos rfl]at hd';split at hd'
         · rename_i hi;cases hd';exact⟨ds,zm,ys,rfl,by rw[Array.getElem?_setIfInBounds,if_pos rfl,if_pos (by omega)],hyo,hy1,fun j d hd=>(hyr j d hd).mono hkk'⟩
         ·cases hd'
        ·rw[if_neg hxi]at hd';obtain⟨es',u,us,q1,q2,q3,q4,q5⟩:=hrl x d' hd';exact⟨es',u,us,q1,by rw[Array.getElem?_setIfInBounds,if_neg hxi];exact q2,q3,q4,fun j d hd=>(q5 j d hd).mono hkk'⟩
  by_cases jk:j=k;·subst jk;rw[lkk];trivial
  by_cases jm:j=m;·subst jm;rw[lm];trivial
  by_cases jl:j=l
  ·subst jl;rw[ll,bo j jq]
   have key:∀(x:Nat)(u:Value),x<es.length->((∀l3,some (i,m)≠some (x,l3))->arr[x]? =some u)->(∀l3,some (i,m)=some (x,l3)->β l3=some u)->(arr.setIfInBounds i zm)[x]? =some u:=fun x u hxl q3 q4=>by
        rw[Array.getElem?_setIfInBounds];by_cases hxi:i=x
        ·rw[if_pos hxi,if_pos (by omega)];have:=q4 m (by rw[hxi]);rw[e3]at this;exact this
        ·rw[if_neg hxi];exact q3 fun l3 e=>hxi (by cases e;rfl)
   rcases hol with⟨E,_,fo,z,xs,arr',e1,hu,hh,hu2,hown,hone,hβk',_,hr⟩| ⟨hc,b,KT,_,ents,clock,arr',e1,hu,hkt,hu2,hh,hel,hβk',_,hr⟩
   ·    rw[hβk]at hβk';cases hβk'
        refine .inl ⟨E,_,fo,z,xs,_,e1,hu,hh,hu2,hown,hone,bq,by rw[Array.size_setIfInBounds];exact hsz,fun x d' hd'=>⟨fun e=>((hr x d' hd').1 e).mono hkk',fun e=>?_⟩⟩;obtain⟨q1,u,q2,q3,q4⟩:=(hr x d' hd').2 e;exact⟨q1.mono hkk',u,q2,fun _=>key x u (ak.1 hd').1 q3 q4,nofun⟩
   ·    rw[hβk]at hβk';cases hβk'
        refine .inr ⟨hc,b,KT,_,ents,clock,_,e1,hu,hkt,hu2,hh,hel,bq,by rw[Array.size_setIfInBounds];exact hsz,fun x e d' he hd'=>?_⟩;obtain⟨s,q1,q2,q3,q4,q5⟩:=hr x e d' he hd';exact⟨s,q1,q2,q3,fun _=>key x e.val (ak.1 hd').1 q4 q5,nofun⟩
  ·rw[lo j jm jq jk jl,bo j jq];exact(h.hs j).mono hkk' (fun _ _ _ _ _=>rfl) hE
 ·intro j hj;have:=h.kk;exact bo j (by omega)
theorem RelB.toD(h:RelB P K w0 n σ a w β){T5 E T2 E2 fo l q:Nat}{c:Option Nat}(hl:lk σ.hs l= .row T5 [])(hu:P.underlying T5=some (.slice E))(hh:iE P E c T2 fo)(hu2:P.underlying T2=some (.slice E2))(hq:lk σ.hs q= .free)(hq0:σ.k0<=q):
  ∃β',RelB P K w0 n ⟨σ.ts,aV (aV σ.hs l (.rowD T5 T2 c q [] none)) q (.tok T2 []),σ.k0⟩ a w β':=by
 have fq:β q=none:=by have:=h.hs q;rw[hq]at this;exact this
 have hlq:l≠q:=fun e=>by rw[e,hq]at hl;cases hl
 have hol:=h.hs l;rw[hl]at hol;obtain⟨E',z,xs,e1,hu',hown,hone,_⟩:=hol;obtain rfl:E=E':=by rw[hu]at hu';cases hu';rfl
 let β':=upB β q (some (.tuple #[]))
 have bo:∀j,j≠q->β' j=β j:=fun j h1=>bO _ _ _ _ h1;have bq:β' q=some (.tuple #[]):=bJ _ _ _;have hE:Ext β β':=fun j u hj=>by
  by_cases j2:j=q;·subst j2;rw[fq]at hj;cases hj
  ·rw[bo j j2];exact hj
 have ll:lk (aV (aV σ.hs l (.rowD T5 T2 c q [] none)) q (.tok T2 [])) l= .rowD T5 T2 c q [] none:=by rw[aS _ _ _ _ hlq,bH]
 have lo:∀j,j≠q->j≠l->lk (aV (aV σ.hs l (.rowD T5 T2 c q [] none)) q (.tok T2 [])) j=lk σ.hs j:=fun j h1 h2=>by rw[aS _ _ _ _ h1,aS _ _ _ _ h2]
 have hw:∀j b,owns (aV (aV σ.hs l (.rowD T5 T2 c q [] none)) q (.tok T2 [])) β' j b->owns σ.hs β j b:=by
  rintro j b ⟨h1,u,h2,h3⟩;by_cases jq:j=q
  ·subst jq;rw[bq]at h2;cases h2
   obtain⟨x,u,hx,_⟩:=nC h3;simp at hx
  ·rw[bo j jq]at h2;refine⟨?_,u,h2,h3⟩;by_cases jl:j=l;·subst jl;rw[hl];rfl
   ·rw[lo j jq jl]at h1;exact h1
 refine⟨β',h.re _ β' hE (fun j b hj=>⟨j,hw j b hj⟩) (fun j j' b h1 h2=>h.sep _ _ _ (hw j b h1) (hw j' b h2)) (fun hkk j=>?_) fun j hj=>?_⟩
 ·have hkk':∀b,okOf K w0 w σ.hs β b->okOf K w0 w _ β' b∧w.heap[b]? =w.heap[b]? :=fun b hb=>⟨hkk b hb,rfl⟩;by_cases jq:j=q;·subst jq;rw[bH,bq];exact⟨E2,#[],rfl,hu2,rfl,fun i j zi zj b h=>by simp at h,fun i d hd=>by simp at hd⟩
  by_cases jl:j=l;·subst jl;rw[ll,bo j jq];exact .inl ⟨E,E2,fo,z,xs,#[],e1,hu,hh,hu2,hown,hone,bq,aN _,fun i d hd=>by simp at hd⟩
  ·rw[lo j jq jl,bo j jq];exact(h.hs j).mono hkk' (fun _ _ _ _ _=>rfl) hE
 ·have:=h.kk;exact bo j (by omega)
def frzD(c:Option Nat):List Dt->List Dt->List Dt
 | [],_=>[]
 |d::es,ls=>(bif lkd c d then hol c d (ls.headD (.lst []))else d)::frzD c es ls.tail
theorem MN(c:Option Nat):∀es ls:List Dt,(frzD c es ls).length=es.length
 | [],_=>rfl
 |_::es,ls=>by rw[frzD,List.length_cons,MN c es,List.length_cons]
theorem MO(c:Option Nat):∀(es ls:List Dt)(i:Nat)(d:Dt),(frzD c es ls)[i]? =some d->∃e,es[i]? =some e∧d=bif lkd c e then hol c e (ls.getD i (.lst []))else e
 | [],_,_,_,h=>by simp[frzD]at h
 |e::es,ls,0,d,h=>by simp only[frzD,aO,aA]at h;refine⟨e,rfl,?_⟩;rw[←h];cases ls<;>rfl
 |e::es,ls,i+1,d,h=>by simp only[frzD,aR]at h;obtain⟨e',h1,h2⟩:=MO c es ls.tail i d h;refine⟨e',h1,?_⟩;rw[h2];cases ls<;>rfl
theorem RelB.freezeD(h:RelB P K w0 n σ a w β){T5 T2 k l:Nat}{c:Option Nat}{es ls:List Dt}(hc:Ia c=false)(hl:lk σ.hs l= .rowD T5 T2 c k es none)(hk:lk σ.hs k= .tok T2 ls):RelB P K w0 n ⟨σ.ts,aV (aV σ.hs l (.row T5 (frzD c es ls))) k .gone,σ.k0⟩ a w β:=by
 have hol:=h.hs l;rw[hl]at hol;rcases hol with⟨E,E2,fo,z,xs,arr,e1,hu,hh,hu2,hown,hone,hβk,hsz,hr⟩|hM
 rotate_left
 ·exact(hM.noc hc).elim
 have hok:=h.hs k;rw[hk,hβk]at hok;obtain⟨E2',arr',e2,hu2',hasz,hsep,hrl⟩:=hok;cases e2;obtain rfl:E2=E2':=by rw[hu2]at hu2';cases hu2';rfl
 have hlk:l≠k:=fun e=>by rw[e,hk]at hl;cases hl
 have lkk:lk (aV (aV σ.hs l (.row T5 (frzD c es ls))) k .gone) k= .gone:=bH _ _ _;have ll:lk (aV (aV σ.hs l (.row T5 (frzD c es ls))) k .gone) l= .row T5 (frzD c es ls):=by rw[aS _ _ _ _ hlk,bH]
 have lo:∀j,j≠k->j≠l->lk (aV (aV σ.hs l (.row T5 (frzD c es ls))) k .gone) j=lk σ.hs j:=fun j h1 h2=>by rw[aS _ _ _ _ h1,aS _ _ _ _ h2]
 have kown:∀(j:Nat)(u:Value)(b:Nat),arr[j]? =some u->blk u=some b->owns σ.hs β k b:=fun j u b h1 h2=>⟨by rw[hk];rfl,_,hβk,.inr ⟨arr,rfl,j,u,h1,h2⟩⟩;have hw:∀j b,owns (aV (aV σ.hs l (.row T5 (frzD c es ls))) k .gone) β j b->j≠k∧owns σ.hs β j b:=by
  rintro j b ⟨h1,u,h2,h3⟩;by_cases jk:j=k;·subst jk;rw[lkk]at h1;cases h1
  refine⟨jk,?_,u,h2,h3⟩;by_cases jl:j=l;·subst jl;rw[hl];rfl
  ·rw[lo j jk jl]at h1;exact h1
 refine h.re _ β (Ext.refl _) (fun j b hj=>⟨j,(hw j b hj).2⟩) (fun j j' b h1 h2=>h.sep _ _ _ (hw j b h1).2 (hw j' b h2).2) (fun hkk j=>?_) fun j hj=>rfl;have hkk':∀b,okOf K w0 w σ.hs β b->okOf K w0 w (aV (aV σ.hs l (.row T5 (frzD c es ls))) k .gone) β b∧w.heap[b]? =w.heap[b]? :=fun b hb=>⟨hkk b hb,rfl⟩;have hkb:∀b,owns σ.hs β k b->okOf K w0 w (aV (aV σ.hs l (.row T5 (frzD c es ls))) k .gone) β b:=fun b hb=>h.okU hb fun j hj=>(hw j b hj).1 (h.sep _ _ _ (hw j b hj).2 hb);by_cases jk:j=k;·subst jk;rw[lkk];trivial
 by_cases jl:j=l
 ·subst jl;rw[ll]
  refine⟨E,z,xs,e1,hu,by rw[MN];exact hown,hone,fun i d hd=>?_⟩;obtain⟨e,he,rfl⟩:=MO c es ls i d hd;obtain⟨q0,q1⟩:=hr i e he;cases hlk':lkd c e with
  |false=>exact(q0 hlk').mono hkk'
  |true=>
   obtain⟨r1,zi,r2,r3,_⟩:=q1 hlk';have r3:=r3 (fun _=>nofun);have hil:i<ls.length:=by rw[←hasz];exact(Array.getElem?_eq_some_iff.1 r3).1
   obtain⟨es',zi',ys,s1,s2,s3,s4,s5⟩:=hrl i _ (aB hil);rw[r3]at s2;cases s2
   rw[cond_true,List.getD,aB hil,s1];have hlen:=hown.1;have hlt:i<es.length:=(ak.1 he).1;have hmul:(i+1)*P.cellsOf E<=es.length*P.cellsOf E:=aH _ hlt;rw[Nat.add_mul,Nat.one_mul]at hmul;have hfo:=hh.2.1;refine Yj hh hu2 (r1.mono hkk') (by rw[cO,if_pos hfo];exact r2) ?_ (abR hu2 s3 s4 s5 hkk fun b hb=>hkb b (kown i zi b r3 hb)) hlk';rcases s3.2 with⟨rfl,_⟩| ⟨g',cap2,cur2,rfl,_⟩<;>rfl
 ·rw[lo j jk jl];exact(h.hs j).mono hkk' (fun _ _ _ _ _=>rfl) (Ext.refl _)
theorem MP{d l:Nat}{TI T4 E' T3 T2 k E:TypeId}{c:Option Nat}{es:List Dt}{h:Option (Nat×Nat)}(ho:o.op= .call {callee:= .builtin .len,args:= #[x],argTypes:= #[T4]})(hd:o.dst=some d)(hn:d<n)
  (hi:P.underlying TI=some (.int .i64))(hu4:P.underlying T4=some (.slice E'))(hx:Ev P σ x (.row l))(hl:lk σ.hs l= .rowD T3 T2 c k es h)(hu5:P.underlying T3=some (.slice E)):bD P n o σ (σ.put d (.dat TI (.int (es.length:Int)))):=
 bf hd hn fun ok0 w0 a w β r=>by
  have e1:=bZ (hx _ _ _ _ _ _ r);have hob:=r.hs l;rw[hl,e1]at hob;rcases hob with⟨E2,_,_,z,xs,_,ez,_,_,_,hown,_⟩|hM
  rotate_left
  ·exact(hM.no hu5).elim
  cases ez;have hz:∃a0 cap,a.eval x= .slice a0 es.length cap∧es.length<=maxLen:=by
   rcases hown.2 with⟨h1,h2⟩| ⟨g,cap,cur,h1,_,_,h3,h4,_⟩;·exact⟨none,0,by rw[h1,h2],by rw[h2];exact aN _⟩
   ·exact⟨_,cap,h1,by omega⟩
  obtain⟨a0,cap,e2,b⟩:=hz;exact⟨.int .i64 (es.length:Int),by simp[execOp,ho,e2,resolve,invoke,builtin,Builtin.len_,run_underlying hu4,goInt],RV.mk_int hi (gI b).1 (gI b).2⟩
theorem D9{d l:Nat}{E TI T5 T2 k:TypeId}{c:Option Nat}{es:List Dt}{h:Option (Nat×Nat)}{i:Int}{kk:IntKind}(ho:o.op= .indexAddr T x y)(hd:o.dst=some d)(hn:d<n)(hu:P.underlying T=some (.slice E))(h0:P.cellsOf E≠0)
  (hi:P.underlying TI=some (.int kk))(hx:Ev P σ x (.row l))(hy:Ev P σ y (.dat TI (.int i)))(hl:lk σ.hs l= .rowD T5 T2 c k es h)(hu5:P.underlying T5=some (.slice E))(hi0:0<=i)(he:i<es.length):bD P n o σ (σ.put d (.eptr l i.toNat (P.cellsOf E) [] 0)):=
 bf hd hn fun ok0 w0 a w β r=>by
  obtain⟨_,e2,_⟩:=RV.int hi (hy _ _ _ _ _ _ r);simp only[Dt.toInt]at e2;have ex:=bZ (hx _ _ _ _ _ _ r);have hob:=r.hs l;rw[hl,ex]at hob;rcases hob with⟨E',_,_,z,xs,_,ez,_,_,_,hown,_⟩|hM
  rotate_left
  ·exact(hM.no hu5).elim
  cases ez;rcases hown.2 with⟨h2,h3⟩| ⟨g,cap,cur,h2,_⟩;·omega
  ·refine⟨_,?_,xJ (by rw[ex,h2])⟩;simp only[execOp,ho,h2,e2,Sem.run_bind,run_indexAt w hu h0 hi0 he,Result.andThen_ok,Sem.run_pure,eP,Nat.zero_add,Nat.add_zero]
def CY(P:Program)(hs:List Ob)(E:TypeId)(c:Option Nat)(fo:Nat)(v:AV)(d':Dt)(m:Nat):Prop:=lkd c d'=true∧∀(ok:Nat->Prop)(w:World)(β:Nat->Option Value)(us:List Value),lI P ok w β hs->RA P ok w β v us->us.length=P.cellsOf E->
 RD P ok w E (hol c d' (.lst [])) (us.set fo (.slice none 0 0))∧∃zi,us[fo]? =some zi∧β m=some zi
theorem Yk{l i m k fo:Nat}{E T5 T2:TypeId}{c:Option Nat}{es:List Dt}{d':Dt}{h:Option (Nat×Nat)}(ho:o.op= .store E x y)(hd:o.dst=none)(h0:P.cellsOf E≠0)
   (hx:Ev P σ x (.eptr l i (P.cellsOf E) [] 0))(hy:Ev P σ y v)(hv0:v≠ .dead)(hv1:∀vs,v≠ .tup vs)
   (hs:∀(ok:Nat->Prop)(w:World)(β:Nat->Option Value)(cs:List Value),RA P ok w β v cs->(v.isAgg P=false->cs.length=1)->cs.length=P.cellsOf E)
   (hl:lk σ.hs l= .rowD T5 T2 c k es h)(hu5:P.underlying T5=some (.slice E))(hi:i<es.length)(hh:iE P E c T2 fo)(hho:∀j m',h=some (j,m')->j=i)(hel:CY P σ.hs E c fo v d' m):bD P n o σ (σ.lay l (.rowD T5 T2 c k (es.set i d') (some (i,m)))):=by
 rintro ok0 w0 a w ⟨β,r⟩ K Q hK;have h':=(hx _ _ _ _ _ _ r).2 rfl;generalize hz:a.eval x=z at h';cases h' with
 | @eptrB _ _ _ _ _ _ hb=>exact(ObOK.np (r.hs l) (.inr (.inr ⟨_,_,_,_,_,_,hl⟩)) hb).elim
 | @eptr _ _  _ b mm cap _ _ hb=>
   have hv:=RV.to1 hv0 hv1 (hy _ _ _ _ _ _ r);have hc:=hv.cells;have hsz:(a.eval y).cells.size=P.cellsOf E:=by
    have:=hs _ _ _ _ hc (fun hi=>by have hr:=hv.2 hi;have h1':=hr.oneCell (a.eval y) (by simp);generalize a.eval y=z at h1';cases z<;>simp_all [Value.cells,Value.oneCell'])
    simpa using this
   have hob:=r.hs l;rw[hl,hb]at hob;rcases hob with⟨E',E2,fo',z',xs,arr,e1,hu',hh',hu2,hown,hone,hβk,hasz,hrd⟩|hM
   rotate_left
   ·exact(hM.no hu5).elim
   cases e1;obtain rfl:E=E':=by rw[hu5]at hu';cases hu';rfl
   obtain rfl:=(sW hh hh').2;have hfo:=hh.2.1;have hlen:=hown.1;rcases hown.2 with⟨h2,_⟩| ⟨g,cap',cur,h2,hg2,hheap,hnc,hcm,hcsz,htk⟩;·cases h2
   ·obtain⟨   rfl,rfl,rfl⟩:b=g∧mm=es.length∧cap=cap':=by cases h2;exact⟨rfl,rfl,rfl⟩
    have how:owns σ.hs β l b:=⟨by rw[hl];rfl,_,hb,.inl rfl⟩;have hmul:(i+1)*P.cellsOf E<=es.length*P.cellsOf E:=aH _ hi;have hmul2:es.length*P.cellsOf E<=cap*P.cellsOf E:=aH _ hnc;rw[Nat.add_mul,Nat.one_mul]at hmul;have hul:(a.eval y).cells.toList.length=P.cellsOf E:=by simpa using hsz
    have hrun:=eX (P:=P) (T:=E) (off:=i*P.cellsOf E+0) w hheap hsz h0 (by omega) (fun u hu=>hc.oneCell u hu);unfold Oper.wp execOp;simp only[ho,hz,Sem.run_bind,hrun,Result.andThen_ok,Sem.run_pure];refine hK _ _ ?_;rw[hd];have hfit:i*P.cellsOf E+0+(a.eval y).cells.toList.length<=cur.toList.length:=by simp;omega
    have hslen:=dN hfit;refine⟨_,r.upd l (.rowD T5 T2 c k (es.set i d') (some (i,m))) (β l) _ (.inl rfl) rfl rfl rfl (by simp) (fun b2 hb2 hne=>setRow_other w _ _ _ fun e=>hne (by rw[e];exact how)) (fun z2 b2 _ hz2 hb2=> .inr ⟨by rw[hl];rfl,z2,hz2,hb2⟩) fun hx hk=>?_⟩;have hfx:i*P.cellsOf E+0+(a.eval y).cells.toList.length<=xs.length:=by simp;omega
    obtain⟨g1,g2⟩:=hel;refine .inl ⟨E,E2,fo,_,splice xs (i*P.cellsOf E+0) (a.eval y).cells.toList,arr,hb,hu5,hh,hu2,⟨?_,.inr ⟨b,cap,(splice cur.toList (i*P.cellsOf E+0) (a.eval y).cells.toList).toArray,?_,hg2,setRow_heap w b cur _ E _ hheap,by simpa using hnc,hcm,?_,?_⟩⟩,?_,hx _ _ hβk,by rw[List.length_set];exact hasz,?_⟩;·rw[dN hfx];simpa using hlen
    ·simp
    ·rw[List.size_toArray,hslen];simpa using hcsz
    ·   apply List.ext_getElem?;intro j;simp only[List.length_set];rw[List.getElem?_take,bM hfx];split
        ·rw[bM hfit];split;·rfl
         ·rw[←htk,List.getElem?_take,if_pos (by assumption)]
        ·rw[if_neg (by omega),List.getElem?_eq_none (by omega)]
    ·   intro u hu2;obtain⟨j,hj⟩:=List.getElem?_of_mem hu2;rw[bM hfx]at hj;split at hj;·exact hc.oneCell u (aM hj)
        ·exact hone u (aM hj)
    ·   intro j u hj;rw[List.getElem?_set]at hj;by_cases hij:i=j
        ·subst hij;simp only[if_true,hi,aA]at hj;subst hj;refine⟨fun e=>(by rw[g1]at e;cases e),fun _=>?_⟩;obtain⟨q1,zi,q2,q3⟩:=g2 _ _ _ _ r.frzOK hc hul;rw[jY (by omega) (by omega),qc (by simp only[List.length_take,List.length_drop];omega)];refine⟨q1.mono hk,zi,?_,fun hn=>absurd rfl (hn m),fun l3 e=>?_⟩
         · rw[bM hfx,if_pos (by omega)];rw[←q2];congr 1;omega
         ·cases e;exact hx _ _ q3
        ·simp only[hij,if_false]at hj;have hjlt:j<es.length:=(ak.1 hj).1;have hmulj:(j+1)*P.cellsOf E<=es.length*P.cellsOf E:=aH _ hjlt;rw[Nat.add_mul,Nat.one_mul]at hmulj;have hap:j*P.cellsOf E+P.cellsOf E<=i*P.cellsOf E+0∨i*P.cellsOf E+0+(a.eval y).cells.toList.length<=j*P.cellsOf E:=by
           rcases Nat.lt_or_gt_of_ne hij with h|h
           ·  right;have:=aH (P.cellsOf E) (show i+1<=j from h);rw[Nat.add_mul,Nat.one_mul]at this;omega
           ·  left;have:=aH (P.cellsOf E) (show j+1<=i from h);rw[Nat.add_mul,Nat.one_mul]at this;omega
         rw[gG hfx hap,bM hfx,if_neg (by omega)];obtain⟨q0,q1⟩:=hrd j u hj;refine⟨fun e=>(q0 e).mono hk,fun e=>?_⟩;obtain⟨q1,zi,q2,q3,q4⟩:=q1 e;refine⟨q1.mono hk,zi,q2,fun _=>q3 fun l3 e3=>hij (hho _ _ e3).symm,fun l3 e3=>?_⟩;cases e3;exact absurd rfl hij
theorem Gp{E E2:TypeId}{m:Nat}{hs:List Ob}(hu:P.underlying E=some (.slice E2))(h1:P.cellsOf E=1):CY P hs E none 0 (.row m) (.bool true) m:=by
 refine⟨rfl,fun ok w β us _ h hl=>?_⟩;cases h with
 |row h _=>exact⟨RD.nil hu,_,rfl,h⟩
theorem Yl{E T2 E2 fo:TypeId}{f m:Nat}{hs:List Ob}{vs:List AV}{e':Dt}(hh:iE P E (some f) T2 fo)(hu2:P.underlying T2=some (.slice E2))(hv:vs[f]? =some (.row m))(hp:pk P hs (.agg E (vs.set f (.nils T2)))=some (E,e')):CY P hs E (some f) fo (.agg E vs) (hol (some f) e' (.bool true)) m:=by
 obtain⟨hc1,_,⟨e,_⟩| ⟨i,fs,g,e,hu,hf,rfl,rfl,hap⟩⟩:=hh;·cases e
 cases e;have hfl:f<vs.length:=(ak.1 hv).1;simp only[pk,hu]at hp;split at hp
 ·rename_i ds hds;cases hp;obtain⟨n1,n2,n3⟩:=Ik hds;rw[List.length_set]at n2;have hfd:f<ds.length:=by omega
  have hdf:ds[f]? =some (.lst []):=by obtain⟨d0,hd0⟩:∃d0,ds[f]? =some d0:=⟨_,aB hfd⟩;obtain⟨v',T',w1,w2,_⟩:=n3 f g d0 (by simpa using hf) hd0;rw[List.getElem?_set,if_pos rfl,if_pos hfl]at w1;cases w1;simp only[pk,hu2]at w2;cases w2;exact hd0
  refine⟨by simp[hol,lkd,hfd],fun ok w β us hfz h hl=>?_⟩;cases h with
  |agg   hu' hl' hc hone hel=>
   rw[hu]at hu';cases hu'
   have hsf:=hel f g _ hf hv;rw[hc1]at hsf;cases hq:us[g.offset]? with
   |    none=>
        have:(us.drop g.offset).take 1=[]:=by rw[List.drop_eq_nil_of_le (List.getElem?_eq_none_iff.1 hq)];rfl
        rw[this]at hsf;cases hsf
   |    some zi=>
        rw[Jg hq]at hsf;have hm:β m=some zi:=by cases hsf with|row h _=>exact h
        refine⟨?_,zi,rfl,hm⟩;have e:hol (some f) (hol (some f) (.agg ds) (.bool true)) (.lst [])= .agg ds:=by
         show Dt.agg ((ds.set f (.bool true)).set f (.lst []))=_;rw[List.set_set];congr 1;apply List.ext_getElem?;intro j;rw[List.getElem?_set];split;·rename_i hj;subst hj;first|rw[hdf]|rw[if_pos hfd,hdf]
         ·rfl
        rw[e];refine dJ (β:=β) (hs:=hs) (T:=E) (v:= .agg E (vs.set f (.nils g.type))) hfz (.agg hu (by rw[List.length_set];exact hl') (by rw[List.length_set];exact hc) (fun u hu'=>?_) fun j g' v' hg' hv'=>?_) (by simp only[pk,hu,hds])
        ·rcases List.mem_or_eq_of_mem_set hu' with h|rfl;·exact hone u h
         ·rfl
        ·rw[List.getElem?_set]at hv';by_cases hij:f=j
         ·subst hij;rw[hf]at hg';cases hg'
          rw[if_pos rfl,if_pos hfl]at hv';cases hv';rw[hc1,Jg (u:= .slice none 0 0) (by rw[List.getElem?_set,if_pos rfl,if_pos (ak.1 hq).1])];exact .nils
         ·rw[if_neg hij]at hv';rw[UH (hap j g' hg' fun e=>hij e.symm)];exact hel j g' v' hg' hv'
 ·cases hp
theorem RelB.tokExt(h:RelB P K w0 n σ a w β){T5 T2 k l q:Nat}{c:Option Nat}{es ls:List Dt}(m:Nat)(hl:lk σ.hs l= .rowD T5 T2 c k es none)(hk:lk σ.hs k= .tok T2 ls)(hq:lk σ.hs q= .free)(hq0:σ.k0<=q):
  ∃β',RelB P K w0 n ⟨σ.ts,aV (aV (aV σ.hs l (.rowD T5 T2 c q es none)) k .gone) q (.tok T2 (ls++List.replicate m (.lst []))),σ.k0⟩ a w β'∧Ext β β'∧(∀b,okOf K w0 w σ.hs β b->okOf K w0 w (aV (aV (aV σ.hs l (.rowD T5 T2 c q es none)) k .gone) q (.tok T2 (ls++List.replicate m (.lst [])))) β' b)∧∃arr:Array Value,β' q=some (.tuple arr)∧arr.size=ls.length+m∧
   ∀(b:Nat),Blk (.tuple arr) b->owns σ.hs β k b:=by
 have hol:=h.hs l;rw[hl]at hol;obtain⟨E2,arr,hu2,hβk,hsz⟩:=CX hol;have hok:=h.hs k;rw[hk,hβk]at hok;obtain⟨E2',arr',e2,hu2',hasz,hsep,hrl⟩:=hok;cases e2;have fq:β q=none:=by have:=h.hs q;rw[hq]at this;exact this
 have hlq:l≠q:=fun e=>by rw[e,hq]at hl;cases hl
 have hlk:l≠k:=fun e=>by rw[e,hk]at hl;cases hl
 have hkq:k≠q:=fun e=>by rw[e,hq]at hk;cases hk
 let ar2:=arr++Array.replicate m (.slice none 0 0)
 have ar_get:∀(j:Nat)(u:Value),ar2[j]? =some u->arr[j]? =some u∨(arr.size<=j∧u= .slice none 0 0):=fun j u hj=>by
  simp only[ar2,Array.getElem?_append]at hj;split at hj;·exact .inl hj
  ·rw[Array.getElem?_replicate]at hj;split at hj;·cases hj;exact .inr ⟨by omega,rfl⟩
   ·cases hj
 let β':=upB β q (some (.tuple ar2))
 have bq:β' q=some (.tuple ar2):=bJ _ _ _;have bo:∀j,j≠q->β' j=β j:=fun j h1=>bO _ _ _ _ h1;have hE:Ext β β':=fun j u hj=>by
  by_cases j2:j=q;·subst j2;rw[fq]at hj;cases hj
  ·rw[bo j j2];exact hj
 let hs':=aV (aV (aV σ.hs l (.rowD T5 T2 c q es none)) k .gone) q (.tok T2 (ls++List.replicate m (.lst [])))
 have lq:lk hs' q= .tok T2 (ls++List.replicate m (.lst [])):=bH _ _ _;have lkk:lk hs' k= .gone:=by show lk (aV _ q _) k=_;rw[aS _ _ _ _ hkq,bH]
 have ll:lk hs' l= .rowD T5 T2 c q es none:=by show lk (aV _ q _) l=_;rw[aS _ _ _ _ hlq,aS _ _ _ _ hlk,bH]
 have lo:∀j,j≠q->j≠k->j≠l->lk hs' j=lk σ.hs j:=fun j h2 h3 h4=>by show lk (aV _ q _) j=_;rw[aS _ _ _ _ h2,aS _ _ _ _ h3,aS _ _ _ _ h4]
 have qown:∀b,Blk (.tuple ar2) b->owns σ.hs β k b:=fun b hb=>by
  obtain⟨x,u,hx,hb⟩:=nC hb;rcases ar_get x u hx with hx| ⟨_,rfl⟩;·exact⟨by rw[hk];rfl,_,hβk,.inr ⟨arr,rfl,x,u,hx,hb⟩⟩
  ·cases hb
 have hw:∀j b,owns hs' β' j b->(j=q∧owns σ.hs β k b)∨(j≠q∧j≠k∧owns σ.hs β j b):=by
  rintro j b ⟨h1,u,h2,h3⟩;by_cases jq:j=q;·subst jq;rw[bq]at h2;cases h2;exact .inl ⟨rfl,qown b h3⟩
  by_cases jk:j=k;·subst jk;rw[lkk]at h1;cases h1
  rw[bo j jq]at h2;refine .inr ⟨jq,jk,?_,u,h2,h3⟩;by_cases jl:j=l;·subst jl;rw[hl];rfl
  ·rw[lo j jq jk jl]at h1;exact h1
 have ho:∀j b,owns hs' β' j b->∃l0,owns σ.hs β l0 b:=fun j b hj=>by
  rcases hw j b hj with⟨_,hb⟩| ⟨_,_,hb⟩;·exact⟨k,hb⟩
  ·exact⟨j,hb⟩
 refine⟨β',h.re hs' β' hE ho ?_ ?_ ?_,hE,fun b hb=>⟨hb.1,hb.2.1,fun l hl=>let ⟨l0,h0⟩:=ho l b hl;hb.2.2 l0 h0⟩,ar2,bq,by simp[ar2,hasz],qown⟩
 ·intro j j' b hj hj';rcases hw j b hj with⟨e,hb⟩| ⟨_,f3,hb⟩
  ·rcases hw j' b hj' with⟨e',hb'⟩| ⟨_,f3',hb'⟩;·rw[e,e']
   ·exact absurd (h.sep _ _ _ hb' hb) f3'
  ·rcases hw j' b hj' with⟨e',hb'⟩| ⟨_,_,hb'⟩;·exact absurd (h.sep _ _ _ hb hb') f3
   ·exact h.sep _ _ _ hb hb'
 ·intro  hkk j;have hkk':∀b,okOf K w0 w σ.hs β b->okOf K w0 w hs' β' b∧w.heap[b]? =w.heap[b]? :=fun b hb=>⟨hkk b hb,rfl⟩;by_cases jq:j=q
  ·subst  jq;rw[lq,bq]
   refine⟨E2',ar2,rfl,hu2',by simp[ar2,hasz],fun x x' u u' b h1 h2 h3 h4=>?_,fun x d' hd'=>?_⟩
   ·    rcases ar_get x u h1 with h1| ⟨_,rfl⟩
        ·rcases ar_get x' u' h2 with h2| ⟨_,rfl⟩;·exact hsep x x' u u' b h1 h2 h3 h4
         ·cases h4
        ·cases h3
   ·    by_cases hx:x<ls.length
        ·rw[List.getElem?_append_left hx]at hd';obtain⟨es',u,us,q1,q2,q3,q4,q5⟩:=hrl x d' hd';exact⟨es',u,us,q1,by simp only[ar2];rw[Array.getElem?_append_left (by omega)];exact q2,q3,q4,fun j d hd=>(q5 j d hd).mono hkk'⟩
        ·rw[List.getElem?_append_right (by omega),List.getElem?_replicate]at hd';split at hd'
         ·rename_i hlt;cases hd';exact⟨[],.slice none 0 0,[],rfl,by simp only[ar2];rw[Array.getElem?_append_right (by omega),Array.getElem?_replicate,if_pos (by omega)],World.ownsRow_nil _ _ _ _,fun c hc=>by simp at hc,fun j d hd=>by simp at hd⟩
         ·cases hd'
  by_cases jk:j=k;·subst jk;rw[lkk];trivial
  by_cases jl:j=l
  ·subst jl;rw[ll,bo j jq]
   have key:∀(x:Nat)(u:Value),arr[x]? =some u->ar2[x]? =some u:=fun x u this=>by simp only[ar2];rw[Array.getElem?_append_left (Array.getElem?_eq_some_iff.1 this).1];exact this
   rcases hol with⟨E,_,fo,z,xs,arr',e1,hu,hh,hu2,hown,hone,hβk',_,hr⟩| ⟨hc,b,KT,_,ents,clock,arr',e1,hu,hkt,hu2,hh,hel,hβk',_,hr⟩
   ·    rw[hβk]at hβk';cases hβk'
        refine .inl ⟨E,_,fo,z,xs,_,e1,hu,hh,hu2,hown,hone,bq,by simp only[ar2,Array.size_append];omega,fun x d' hd'=>⟨fun e=>((hr x d' hd').1 e).mono hkk',fun e=>?_⟩⟩;obtain⟨q1,u,q2,q3,q4⟩:=(hr x d' hd').2 e;exact⟨q1.mono hkk',u,q2,fun hn=>key _ _ (q3 (fun _=>nofun)),nofun⟩
   ·    rw[hβk]at hβk';cases hβk'
        refine .inr ⟨hc,b,KT,_,ents,clock,_,e1,hu,hkt,hu2,hh,hel,bq,by simp only[ar2,Array.size_append];omega,fun x e d' he hd'=>?_⟩;obtain⟨s,q1,q2,q3,q4,q5⟩:=hr x e d' he hd';exact⟨s,q1,q2,q3,fun hn=>key _ _ (q4 (fun _=>nofun)),nofun⟩
  ·rw[lo j jq jk jl,bo j jq];exact(h.hs j).mono hkk' (fun _ _ _ _ _=>rfl) hE
 ·intro j hj;have:=h.kk;exact bo j (by omega)
theorem RelB.tok_len(r:RelB P K w0 n σ a w β){T5 T2 k l:Nat}{c:Option Nat}{es ls:List Dt}{h:Option (Nat×Nat)}(hl:lk σ.hs l= .rowD T5 T2 c k es h)(hk:lk σ.hs k= .tok T2 ls):es.length<=ls.length:=by have h1:=r.hs l;rw[hl]at h1;obtain⟨_,arr,_,hβk,hsz⟩:=CX h1;have h2:=r.hs k;rw[hk,hβk]at h2;obtain⟨_,_,e2,_,h3,_⟩:=h2;cases e2;omega
theorem RelB.tok_lst(r:RelB P K w0 n σ a w β){T2 k i:Nat}{ls:List Dt}{e:Dt}(hk:lk σ.hs k= .tok T2 ls)(hi:ls[i]? =some e):ls[i]? =some (.lst e.toLst):=by have h2:=r.hs k;rw[hk]at h2;obtain⟨_,_,_,_,_,_,h3⟩:=h2;obtain⟨ds,_,_,h4,_⟩:=h3 i e hi;subst h4;exact hi
theorem Rp{d l k l' q:Nat}{E T5 T2:TypeId}{c0:Option Nat}{es ls ds:List Dt}{z:Dt}(ho:o.op= .call {callee:= .builtin .append,args:= #[x,y],argTypes:= #[T,T]})(hd:o.dst=some d)(hn:d<n)(hu:P.underlying T=some (.slice E))(hu5:P.underlying T5=some (.slice E))
  (hz:Zero P E z)(h0:P.cellsOf E≠0)(hbd:(es.length+ds.length)*P.bytesOf E<=140737488355328)(hx:Ev P σ x (.row l))(hl:lk σ.hs l= .rowD T5 T2 c0 k es none)(hk:lk σ.hs k= .tok T2 ls)(hf:lk σ.hs l'= .free)(hk0:σ.k0<=l')(hq:lk σ.hs q= .free)(hq0:σ.k0<=q)(hlq:l'≠q)(hy:rY P σ y E ds)
  (hpl:∀e∈ds,lkd c0 e=false)(hlim:es.length+ds.length<=137438953472):
  bD P n o σ ((((⟨σ.ts,aV (aV (aV σ.hs l (.rowD T5 T2 c0 q es none)) k .gone) q (.tok T2 (ls++List.replicate ds.length (.lst []))),σ.k0⟩:St).lay l .gone).lay l' (.rowD T5 T2 c0 q (es++ds) none)).put d (.row l')):=by
 rintro ok0 w0 a w ⟨β,r⟩ K Q hK;obtain⟨A,c,ys,ey,hyl,hyone,hyc,hynone,hyrd⟩:=hy _ _ _ _ _ _ r;have ex0:=bZ (hx _ _ _ _ _ _ r);have hlen:es.length<=ls.length:=r.tok_len hl hk;obtain⟨β',r',hE,hok,arr,hβq,harr,hqo⟩:=r.tokExt ds.length hl hk hq hq0;have ex:β' l=some (a.eval x):=hE _ _ ex0;have hlk:l≠k:=fun e=>by rw[e,hk]at hl;cases hl
 have hlq':l≠q:=fun e=>by rw[e,hq]at hl;cases hl
 have hll:l≠l':=fun e=>by rw[e,hf]at hl;cases hl
 have hkl:l'≠k:=fun e=>by rw[e,hk]at hf;cases hf
 let τ:St:=⟨σ.ts,aV (aV (aV σ.hs l (.rowD T5 T2 c0 q es none)) k .gone) q (.tok T2 (ls++List.replicate ds.length (.lst []))),σ.k0⟩
 have ll:lk τ.hs l= .rowD T5 T2 c0 q es none:=by show lk (aV _ q _) l=_;rw[aS _ _ _ _ hlq',aS _ _ _ _ hlk,bH]
 have lf:lk τ.hs l'= .free:=by show lk (aV _ q _) l'=_;rw[aS _ _ _ _ hlq,aS _ _ _ _ hkl,aS _ _ _ _ (fun e=>hll e.symm)];exact hf
 have hob0:=r'.hs l;rw[show lk (aV (aV (aV σ.hs l (.rowD T5 T2 c0 q es none)) k .gone) q (.tok T2 (ls++List.replicate ds.length (.lst [])))) l=_ from ll,ex]at hob0;rcases hob0 with⟨E',E2,fo,z',xs,arr',e1,hu',hh,hu2,hown,hone,hβk,hasz,hrd⟩|hM
 rotate_left
 ·exact(hM.no hu5).elim
 cases e1;obtain rfl:E=E':=by rw[hu5]at hu';cases hu';rfl
 rw[hβq]at hβk;cases hβk
 obtain⟨v',w',hrun,hown',hgr,hblk'⟩:=qd (o:=o) (c:=c) hu hz h0 hbd hyl hyone hyc hynone hlim hown;obtain⟨bl,ebl⟩:∃bl,a.eval x=bl:=⟨_,rfl⟩;rw[ebl]at ex hown hgr hblk' hrun;have hob':v'.ownBlock=blk v':=by rcases hown'.2 with⟨rfl,_⟩| ⟨g,cap,cur,rfl,_⟩<;>rfl
 have hbl:bl.ownBlock=blk bl:=by rcases hown.2 with⟨rfl,_⟩| ⟨g,cap,cur,rfl,_⟩<;>rfl
 unfold Oper.wp execOp;simp only[ho,resolve,invoke,builtin,Sem.run_bind,Sem.run_pure,Result.andThen_ok,List.map_toArray,List.map_cons,List.map_nil,ebl,ey,hrun];refine hK _ _ ?_;rw[hd];have hlown:∀b,blk bl=some b->owns τ.hs β' l b:=fun b hb=>⟨by rw[ll];rfl,bl,ex,.inl hb⟩;have hnew:=r'.take l l' (.rowD T5 T2 c0 q (es++ds) none) v' w' (by show lk τ.hs l≠_;rw[ll];simp) lf hk0 hgr.os hgr.tape hgr.output hgr.size
  (fun b hb hne=>hgr.block b hb fun e=>hne (hlown b (by rw[←hbl,←e])))
  (fun b hb=>by
   have hb:=hb.of hown'.notup;rw[←hob']at hb;rcases hblk' with h|h;·right;exact hlown b (by rw[←hbl,←h,hb])
   ·left;rw[h]at hb;cases hb;exact aL _)
  (fun hex hk=>by
   refine .inl ⟨E,E2,fo,v',xs++ys,arr,rfl,hu5,hh,hu2,by simpa using hown',?_,hex _ _ hβq,by rw[aT,harr];omega,?_⟩
   ·    intro u hu2;rcases List.mem_append.1 hu2 with h|h;·exact hone u h
        ·exact hyone u h
   ·    intro i' d' hd';have hxl:=hown.1;have hfo:=hh.2.1;by_cases hlt:i'<es.length
        ·rw[List.getElem?_append_left hlt]at hd';have hmul:(i'+1)*P.cellsOf E<=es.length*P.cellsOf E:=aH _ hlt;rw[Nat.add_mul,Nat.one_mul]at hmul;rw[ig (by omega),List.getElem?_append_left (by omega)];obtain⟨q0,q1⟩:=hrd i' d' hd';refine⟨fun e=>(q0 e).mono hk,fun e=>?_⟩;obtain⟨q1,zi,q2,q3,q4⟩:=q1 e;exact⟨q1.mono hk,zi,q2,q3,nofun⟩
        ·rw[List.getElem?_append_right (by omega)]at hd';have hmul:es.length*P.cellsOf E<=i'*P.cellsOf E:=aH _ (by omega);rw[gJ (by omega),hxl,←Nat.sub_mul];have hpd:=hpl d' (aM hd');exact⟨fun _=>(hyrd _ d' hd').mono fun b hb=>hk b (hok b hb),fun e=>by rw[hpd]at e;cases e⟩)
 refine Rel.put hnew hn (lH (bJ _ _ _) ?_);rcases hown'.2 with⟨rfl,_⟩| ⟨g,cap,cur,rfl,_⟩<;>rfl
theorem Rq{d l l2 k l' q m fo:Nat}{E E2 T5 T2 Tr:TypeId}{c0:Option Nat}{es ls:List Dt}{d' z:Dt}{v:AV}(ho:o.op= .call {callee:= .builtin .append,args:= #[x,y],argTypes:= #[T,T]})(hd:o.dst=some d)(hn:d<n)(hu:P.underlying T=some (.slice E))(hu5:P.underlying T5=some (.slice E))
  (hh:iE P E c0 T2 fo)(hu2:P.underlying T2=some (.slice E2))(hz:Zero P E z)(h0:P.cellsOf E≠0)(hbd:(es.length+1)*P.bytesOf E<=140737488355328)(hx:Ev P σ x (.row l))(hl:lk σ.hs l= .rowD T5 T2 c0 k es none)(hk:lk σ.hs k= .tok T2 ls)(hf:lk σ.hs l'= .free)(hk0:σ.k0<=l')(hq:lk σ.hs q= .free)(hq0:σ.k0<=q)(hlq:l'≠q)
  (hy:Ev P σ y (.row l2))(hl2:lk σ.hs l2= .rowA Tr [v])(hur:P.underlying Tr=some (.slice E))(he:CY P σ.hs E c0 fo v d' m)(hlim:es.length+1<=137438953472):
  bD P n o σ ((((⟨σ.ts,aV (aV (aV σ.hs l (.rowD T5 T2 c0 q es none)) k .gone) q (.tok T2 (ls++List.replicate 1 (.lst []))),σ.k0⟩:St).lay l .gone).lay l' (.rowD T5 T2 c0 q (es++[d']) (some (es.length,m)))).put d (.row l')):=by
 rintro ok0 w0 a w ⟨β,r⟩ K Q hK;have ey0:=bZ (hy _ _ _ _ _ _ r);have hob2:=r.hs l2;rw[hl2,ey0]at hob2;obtain⟨E',z2,ys,e2,hu',hown2,hyone,hyrd⟩:=hob2;obtain rfl:E=E':=by rw[hur]at hu';cases hu';rfl
 cases e2;have hyl:ys.length=1*P.cellsOf E:=hown2.1;have hyl1:ys.length=P.cellsOf E:=by rw[hyl,Nat.one_mul]
 obtain⟨p1,zi,p2,p3⟩:=he.2 _ _ _ ys r.frzOK (by have:=hyrd 0 v rfl;rw[Nat.zero_mul,aK,←hyl1,List.take_length]at this;exact this) hyl1
 rcases hown2.2 with⟨_,h3⟩| ⟨g,c,cur,ey,_⟩;·exact absurd h3 (by simp)
 have hyc:0<1->∃ad,some (⟨g,0,none⟩:Addr)=some ad∧∀j u,ys[j]? =some u->w.cell? (ad.add j)=some u:=fun _=>⟨_,rfl,hown2.cells (g:=g) (by rw[ey];rfl)⟩;have ex0:=bZ (hx _ _ _ _ _ _ r);have hlen:es.length<=ls.length:=r.tok_len hl hk;obtain⟨β',r',hE,hok,arr,hβq,harr,hqo⟩:=r.tokExt 1 hl hk hq hq0;have ex:β' l=some (a.eval x):=hE _ _ ex0;have hlk:l≠k:=fun e=>by rw[e,hk]at hl;cases hl
 have hlq':l≠q:=fun e=>by rw[e,hq]at hl;cases hl
 have hll:l≠l':=fun e=>by rw[e,hf]at hl;cases hl
 have hkl:l'≠k:=fun e=>by rw[e,hk]at hf;cases hf
 let τ:St:=⟨σ.ts,aV (aV (aV σ.hs l (.rowD T5 T2 c0 q es none)) k .gone) q (.tok T2 (ls++List.replicate 1 (.lst []))),σ.k0⟩
 have ll:lk τ.hs l= .rowD T5 T2 c0 q es none:=by show lk (aV _ q _) l=_;rw[aS _ _ _ _ hlq',aS _ _ _ _ hlk,bH]
 have lf:lk τ.hs l'= .free:=by show lk (aV _ q _) l'=_;rw[aS _ _ _ _ hlq,aS _ _ _ _ hkl,aS _ _ _ _ (fun e=>hll e.symm)];exact hf
 have hob0:=r'.hs l;rw[show lk (aV (aV (aV σ.hs l (.rowD T5 T2 c0 q es none)) k .gone) q (.tok T2 (ls++List.replicate 1 (.lst [])))) l=_ from ll,ex]at hob0;rcases hob0 with⟨E',E3,fo',z',xs,arr',e1,hu',hh',hu3,hown,hone,hβk,hasz,hrd⟩|hM
 rotate_left
 ·exact(hM.no hu5).elim
 cases e1;obtain rfl:E=E':=by rw[hu5]at hu';cases hu';rfl
 obtain⟨_,rfl⟩:=sW hh hh';rw[hβq]at hβk;cases hβk
 obtain⟨v',w',hrun,hown',hgr,hblk'⟩:=qd (o:=o) (c:=c) (nd:=1) hu hz h0 hbd hyl hyone hyc nofun hlim hown;obtain⟨bl,ebl⟩:∃bl,a.eval x=bl:=⟨_,rfl⟩;rw[ebl]at ex hown hgr hblk' hrun;have hob':v'.ownBlock=blk v':=by rcases hown'.2 with⟨rfl,_⟩| ⟨g,cap,cur,rfl,_⟩<;>rfl
 have hbl:bl.ownBlock=blk bl:=by rcases hown.2 with⟨rfl,_⟩| ⟨g,cap,cur,rfl,_⟩<;>rfl
 unfold Oper.wp execOp;simp only[ho,resolve,invoke,builtin,Sem.run_bind,Sem.run_pure,Result.andThen_ok,List.map_toArray,List.map_cons,List.map_nil,ebl,ey];have hrun':(Builtin.append_ #[T,T] o.type #[bl,.slice (some ⟨g,0,none⟩) [v].length c]).run P w= .ok v' w':=hrun;simp only[hrun'];refine hK _ _ ?_;rw[hd];have hlown:∀b,blk bl=some b->owns τ.hs β' l b:=fun b hb=>⟨by rw[ll];rfl,bl,ex,.inl hb⟩
 have hnew:=r'.take l l' (.rowD T5 T2 c0 q (es++[d']) (some (es.length,m))) v' w' (by show lk τ.hs l≠_;rw[ll];simp) lf hk0 hgr.os hgr.tape hgr.output hgr.size
  (fun b hb hne=>hgr.block b hb fun e=>hne (hlown b (by rw[←hbl,←e])))
  (fun b hb=>by
   have hb:=hb.of hown'.notup;rw[←hob']at hb;rcases hblk' with h|h;·right;exact hlown b (by rw[←hbl,←h,hb])
   ·left;rw[h]at hb;cases hb;exact aL _)
  (fun hex hk=>by
   refine .inl ⟨E,E3,fo,v',xs++ys,arr,rfl,hu5,hh,hu3,by simpa using hown',?_,hex _ _ hβq,by rw[aT,harr,List.length_singleton];omega,?_⟩
   ·    intro u hu2;rcases List.mem_append.1 hu2 with h|h;·exact hone u h
        ·exact hyone u h
   ·    intro i' d0 hd';have hxl:=hown.1;have hfo:=hh.2.1;by_cases hlt:i'<es.length
        ·rw[List.getElem?_append_left hlt]at hd';have hmul:(i'+1)*P.cellsOf E<=es.length*P.cellsOf E:=aH _ hlt;rw[Nat.add_mul,Nat.one_mul]at hmul;rw[ig (by omega),List.getElem?_append_left (by omega)];obtain⟨q0,q1⟩:=hrd i' d0 hd';refine⟨fun e=>(q0 e).mono hk,fun e=>?_⟩;obtain⟨q1,zi,q2,q3,q4⟩:=q1 e;exact⟨q1.mono hk,zi,q2,fun _=>q3 nofun,fun l3 e=>by cases e;omega⟩
        ·have hi2:i'=es.length:=by have:=(ak.1 hd').1;rw[aT,List.length_singleton]at this;omega
         subst hi2;rw[List.getElem?_append_right (aL _),Nat.sub_self]at hd';cases hd';have hsg:((xs++ys).drop (es.length*P.cellsOf E)).take (P.cellsOf E)=ys:=by rw[gJ (by omega),hxl,Nat.sub_self,aK,←hyl1,List.take_length]
         rw[hsg];refine⟨fun e=>(by rw[he.1]at e;cases e),fun _=>⟨p1.mono fun b hb=>hk b (hok b hb),zi,?_,fun hn=>absurd rfl (hn m),fun l3 e=>?_⟩⟩;·rw[List.getElem?_append_right (by omega),←p2];congr 1;omega
         ·cases e;exact hex _ _ (hE _ _ p3))
 refine Rel.put hnew hn (lH (bJ _ _ _) ?_);rcases hown'.2 with⟨rfl,_⟩| ⟨g,cap,cur,rfl,_⟩<;>rfl
end
end Go.Am
namespace Go.Am
open Go.RowKit Dt
def mix:List Dt->ByteArray->Option Nat
 | [],_=>none
 |e::r,s=>bif (e.S 0)==s then some 0 else(mix r s).map (· +1)
section
variable{P:Program}{K:OkX}{w0 w:World}{n:Nat}{σ:St}{a:Act}{β:Nat->Option Value}{o:Oper}{x y:Operand}{T:TypeId}
theorem kC{Q:Nat->MapEntry->Prop}(s:ByteArray):∀(arr:List MapEntry)(es:List Dt)(i:Nat),arr.length=es.length->(∀(j:Nat)(e:MapEntry)(d:Dt),arr[j]? =some e->es[j]? =some d->∃s':ByteArray,d= .agg [.str s',.bool true]∧s'.size<=maxLen∧e.key= .string s'∧Q (i+j) e)->
  (Instr.findNow .string (.string s) arr i=some none∧mget es s=none∧mix es s=none∧∀v,mput es s v=es++[.agg [.str s,v]])∨
  ∃(j:Nat)(e:MapEntry),Instr.findNow .string (.string s) arr i=some (some (i+j,e.val))∧arr[j]? =some e∧e.key= .string s∧es[j]? =some (.agg [.str s,.bool true])∧mix es s=some j∧mget es s=some (.bool true)
 | [],[],i,_,_=> .inl ⟨rfl,rfl,rfl,fun v=>rfl⟩
 | [],d::es,i,hl,_=>by simp at hl
 |e::arr,[],i,hl,_=>by simp at hl
 |e::arr,d::es,i,hl,h=>by
  obtain⟨s',rfl,hs,hk,_⟩:=h 0 e d rfl rfl;have ih:=kC (Q:=Q) s arr es (i+1) (by simpa using hl) (fun j e d h1 h2=>by
   have:=h (j+1) e d (by simpa using h1) (by simpa using h2)
   rwa [show i+1+j=i+(j+1) by omega])
  by_cases hb:s=s'
  ·subst hb;refine .inr ⟨0,e,?_,rfl,hk,rfl,?_,?_⟩;·simp[Instr.findNow,hk,Instr.sameNow,d9]
   ·simp[mix,S,fld,toStr,d9]
   ·simp[mget,S,fld,toStr,d9]
  ·have h1:(s==s')=false:=ku hb;have h2:(s'==s)=false:=ku (Ne.symm hb);have e1:Instr.findNow .string (.string s) (e::arr) i=Instr.findNow .string (.string s) arr (i+1):=by simp[Instr.findNow,hk,Instr.sameNow,h1]
   have e2:mget (agg [.str s',.bool true]::es) s=mget es s:=by simp[mget,S,fld,toStr,h2]
   have e3:∀v,mput (agg [.str s',.bool true]::es) s v=agg [.str s',.bool true]::mput es s v:=fun v=>by simp[mput,S,fld,toStr,h2]
   have e4:mix (agg [.str s',.bool true]::es) s=(mix es s).map (· +1):=by simp[mix,S,fld,toStr,h2]
   rcases ih with⟨q1,q2,q4,q3⟩| ⟨j,e',q1,q2,q3,q4,q5,q6⟩;·exact .inl ⟨e1.trans q1,e2.trans q2,by rw[e4,q4];rfl,fun v=>by rw[e3,q3];rfl⟩
   ·    refine .inr ⟨j+1,e',?_,by simpa using q2,q3,by simpa using q4,by rw[e4,q5];rfl,e2.trans q6⟩;rw[e1,q1];congr 3;omega
theorem RelB.focusM(h:RelB P K w0 n σ a w β){T5 T2 k l i p q:Nat}{c:Option Nat}{es ls ds:List Dt}{KT V:TypeId}(hu5:P.underlying T5=some (.map KT V))(hl:lk σ.hs l= .rowD T5 T2 c k es none)(hk:lk σ.hs k= .tok T2 ls)(hi:i<es.length)(hls:ls[i]? =some (.lst ds))
  (hp:lk σ.hs p= .free)(hq:lk σ.hs q= .free)(hpq:p≠q)(hp0:σ.k0<=p)(hq0:σ.k0<=q):
  ∃β',RelB P K w0 n ⟨σ.ts,aV (aV (aV (aV σ.hs l (.rowD T5 T2 c q es (some (i,p)))) k .gone) p (.row T2 ds)) q (.tok T2 (ls.set i (.lst []))),σ.k0⟩ a w β'∧Ext β β'∧
   ∀(b:Nat)(ents:List MapEntry)(clock:Nat)(e:MapEntry),β l=some (.map (some b))->w.heap[b]? =some (.map ents.toArray clock)->ents[i]? =some e->β' p=some e.val:=by
 have hol:=h.hs l;rw[hl]at hol;rcases hol with⟨E,E2,fo,z,xs,arr,e1,hu,_⟩| ⟨hc,b0,KT0,E2,ents,clock,arr,e1,hu,hkt,hu2,hh,hel,hβk,hsz,hr⟩;·rw[hu5]at hu;cases hu
 have hok:=h.hs k;rw[hk,hβk]at hok;obtain⟨E2',arr',e2,hu2',hasz,hsep,hrl⟩:=hok;cases e2;obtain⟨ds',zi,ys,e3,hzi,hyo,hy1,hyr⟩:=hrl i _ hls;cases e3;have hie:i<ents.length:=by rw[hel];exact hi
 obtain⟨s0,_,_,_,hz3,_⟩:=hr i _ _ (aB hie) (aB hi);have hz3:=hz3 (fun _=>nofun);have ez:zi=ents[i].val:=by rw[hzi]at hz3;exact Option.some.inj hz3
 have fp:β p=none:=by have:=h.hs p;rw[hp]at this;exact this
 have fq:β q=none:=by have:=h.hs q;rw[hq]at this;exact this
 have hlp:l≠p:=fun e=>by rw[e,hp]at hl;cases hl
 have hlq:l≠q:=fun e=>by rw[e,hq]at hl;cases hl
 have hlk:l≠k:=fun e=>by rw[e,hk]at hl;cases hl
 have hkp:k≠p:=fun e=>by rw[e,hp]at hk;cases hk
 have hkq:k≠q:=fun e=>by rw[e,hq]at hk;cases hk
 have hilt:i<arr.size:=(Array.getElem?_eq_some_iff.1 hzi).1
 let β':=upB (upB β p (some zi)) q (some (.tuple (arr.set i (.slice none 0 0) hilt)))
 have bp:β' p=some zi:=by show upB _ q _ p=_;rw[bO _ _ _ _ hpq,bJ]
 have bq:β' q=some (.tuple (arr.set i (.slice none 0 0) hilt)):=bJ _ _ _;have bo:∀j,j≠p->j≠q->β' j=β j:=fun j h1 h2=>by show upB _ q _ j=_;rw[bO _ _ _ _ h2,bO _ _ _ _ h1]
 have hE:Ext β β':=fun j u hj=>by
  by_cases j1:j=p;·subst j1;rw[fp]at hj;cases hj
  ·by_cases j2:j=q;·subst j2;rw[fq]at hj;cases hj
   ·rw[bo j j1 j2];exact hj
 let hs':=aV (aV (aV (aV σ.hs l (.rowD T5 T2 c q es (some (i,p)))) k .gone) p (.row T2 ds)) q (.tok T2 (ls.set i (.lst [])))
 have lq:lk hs' q= .tok T2 (ls.set i (.lst [])):=bH _ _ _;have lp:lk hs' p= .row T2 ds:=by show lk (aV _ q _) p=_;rw[aS _ _ _ _ hpq,bH]
 have lkk:lk hs' k= .gone:=by show lk (aV _ q _) k=_;rw[aS _ _ _ _ hkq,aS _ _ _ _ hkp,bH]
 have ll:lk hs' l= .rowD T5 T2 c q es (some (i,p)):=by show lk (aV _ q _) l=_;rw[aS _ _ _ _ hlq,aS _ _ _ _ hlp,aS _ _ _ _ hlk,bH]
 have lo:∀j,j≠p->j≠q->j≠k->j≠l->lk hs' j=lk σ.hs j:=fun j h1 h2 h3 h4=>by show lk (aV _ q _) j=_;rw[aS _ _ _ _ h2,aS _ _ _ _ h1,aS _ _ _ _ h3,aS _ _ _ _ h4]
 have kown:∀(j:Nat)(u:Value)(b:Nat),arr[j]? =some u->blk u=some b->owns σ.hs β k b:=fun j u b h1 h2=>⟨by rw[hk];rfl,_,hβk,.inr ⟨arr,rfl,j,u,h1,h2⟩⟩;have hw:∀j b,owns hs' β' j b->(j=p∧blk zi=some b)∨(j=q∧∃(m:Nat)(u:Value),m≠i∧arr[m]? =some u∧blk u=some b)∨(j≠p∧j≠q∧j≠k∧owns σ.hs β j b):=by
  rintro j b ⟨h1,u,h2,h3⟩;by_cases jp:j=p;·subst jp;rw[bp]at h2;cases h2;exact .inl ⟨rfl,h3.of hyo.notup⟩
  by_cases jq:j=q
  ·subst jq;rw[bq]at h2;cases h2
   obtain⟨m,u,hm,hb⟩:=nC h3;rw[Array.getElem?_set]at hm;by_cases hmi:i=m;·rw[if_pos hmi]at hm;cases hm;cases hb
   ·rw[if_neg hmi]at hm;exact .inr (.inl ⟨rfl,m,u,fun e=>hmi e.symm,hm,hb⟩)
  by_cases jk:j=k;·subst jk;rw[lkk]at h1;cases h1
  rw[bo j jp jq]at h2;refine .inr (.inr ⟨jp,jq,jk,?_,u,h2,h3⟩);by_cases jl:j=l;·subst jl;rw[hl];rfl
  ·rw[lo j jp jq jk jl]at h1;exact h1
 refine⟨β',h.re hs' β' hE ?_ ?_ ?_ ?_,hE,fun b ents' clock' e g1 g2 g3=>by
  rw[e1]at g1;cases g1
  rw[hh]at g2;cases g2
  rw[aB hie]at g3;cases g3
  exact bp.trans (congrArg some ez)⟩
 ·intro j b hj;rcases hw j b hj with⟨_,hb⟩| ⟨_,m,u,_,hm,hb⟩| ⟨_,_,_,hb⟩;·exact⟨k,kown i zi b hzi hb⟩
  ·exact⟨k,kown m u b hm hb⟩
  ·exact⟨j,hb⟩
 ·intro j j' b hj hj';rcases hw j b hj with⟨e,hb⟩| ⟨e,m,u,hmi,hm,hb⟩| ⟨_,_,e3,hb⟩
  ·rcases hw j' b hj' with⟨e',hb'⟩| ⟨e',m',u',hmi',hm',hb'⟩| ⟨_,_,e3',hb'⟩;·rw[e,e']
   ·exact absurd (hsep m' i u' zi b hm' hzi hb' hb) hmi'
   ·exact absurd (h.sep _ _ _ hb' (kown i zi b hzi hb)) e3'
  ·rcases hw j' b hj' with⟨e',hb'⟩| ⟨e',m',u',hmi',hm',hb'⟩| ⟨_,_,e3',hb'⟩;·exact absurd (hsep m i u zi b hm hzi hb hb') hmi
   ·rw[e,e']
   ·exact absurd (h.sep _ _ _ hb' (kown m u b hm hb)) e3'
  ·rcases hw j' b hj' with⟨e',hb'⟩| ⟨e',m',u',hmi',hm',hb'⟩| ⟨_,_,e3',hb'⟩;·exact absurd (h.sep _ _ _ hb (kown i zi b hzi hb')) e3
   ·exact absurd (h.sep _ _ _ hb (kown m' u' b hm' hb')) e3
   ·exact h.sep _ _ _ hb hb'
 ·intro  hkk j;have hkk':∀b,okOf K w0 w σ.hs β b->okOf K w0 w hs' β' b∧w.heap[b]? =w.heap[b]? :=fun b hb=>⟨hkk b hb,rfl⟩;by_cases jp:j=p;·subst jp;rw[lp,bp];exact⟨E2',zi,ys,rfl,hu2',hyo,hy1,fun m d' hd'=>(hyr m d' hd').mono hkk'⟩
  by_cases jq:j=q
  ·subst jq;rw[lq,bq]
   refine⟨E2',_,rfl,hu2',by rw[Array.size_set,List.length_set];exact hasz,fun m m' u u' b h1 h2 h3 h4=>?_,fun m d' hd'=>?_⟩
   ·    rw[Array.getElem?_set]at h1 h2;by_cases hmi:i=m;·rw[if_pos hmi]at h1;cases h1;cases h3
        ·by_cases hmi':i=m';·rw[if_pos hmi']at h2;cases h2;cases h4
         ·rw[if_neg hmi]at h1;rw[if_neg hmi']at h2;exact hsep m m' u u' b h1 h2 h3 h4
   ·    rw[List.getElem?_set]at hd';by_cases hmi:i=m
        ·subst hmi;rw[if_pos rfl,if_pos (by rw[←hasz];exact hilt)]at hd';cases hd';exact⟨[],.slice none 0 0,[],rfl,by rw[Array.getElem?_set,if_pos rfl],World.ownsRow_nil _ _ _ _,fun c hc=>by simp at hc,fun j d hd=>by simp at hd⟩
        ·rw[if_neg hmi]at hd';obtain⟨es',u,us,q1,q2,q3,q4,q5⟩:=hrl m d' hd';exact⟨es',u,us,q1,by rw[Array.getElem?_set,if_neg hmi];exact q2,q3,q4,fun j d hd=>(q5 j d hd).mono hkk'⟩
  by_cases jk:j=k;·subst jk;rw[lkk];trivial
  by_cases jl:j=l
  ·subst jl;rw[ll,bo j jp jq]
   refine .inr ⟨hc,b0,KT0,E2,ents,clock,_,e1,hu,hkt,hu2,hh,hel,bq,by rw[Array.size_set];exact hsz,fun m e d' he hd'=>?_⟩;obtain⟨s,q1,q2,q3,q4,_⟩:=hr m e d' he hd';refine⟨s,q1,q2,q3,fun hn=>?_,fun l3 e3=>?_⟩
   ·    have hmi:i≠m:=fun e=>hn p (by rw[e]);rw[Array.getElem?_set,if_neg hmi];exact q4 (fun _=>nofun)
   ·    cases e3;have:=q4 (fun _=>nofun);rw[hzi]at this;rw[bp];exact this
  ·rw[lo j jp jq jk jl,bo j jp jq];exact(h.hs j).mono hkk' (fun _ _ _ _ _=>rfl) hE
 ·intro j hj;have:=h.kk;exact bo j (by omega) (by omega)
theorem sZ{l k:Nat}{T5 T2 KT V:TypeId}{c:Option Nat}{es:List Dt}{h:Option (Nat×Nat)}(r:RelB P K w0 n σ a w β)(hu5:P.underlying T5=some (.map KT V))(hx:Ev P σ x (.row l))(hl:lk σ.hs l= .rowD T5 T2 c k es h):
  ∃(b:Nat)(ents:List MapEntry)(clock:Nat)(arr:Array Value),a.eval x= .map (some b)∧β l=some (.map (some b))∧c=mpC∧V=T2∧P.underlying KT=some .string∧(∃E2,P.underlying T2=some (.slice E2))∧w.heap[b]? =some (.map ents.toArray clock)∧ents.length=es.length∧β k=some (.tuple arr)∧es.length<=arr.size∧
   ∀(i:Nat)(e:MapEntry)(d:Dt),ents[i]? =some e->es[i]? =some d->∃(s:ByteArray),d= .agg [.str s,.bool true]∧s.size<=maxLen∧e.key= .string s∧((∀l3,h≠some (i,l3))->arr[i]? =some e.val)∧∀l3,h=some (i,l3)->β l3=some e.val:=by
 have h':=(hx _ _ _ _ _ _ r).2 rfl;generalize hz:a.eval x=z at h';cases h' with
 |row h1 h2=>
  have hob:=r.hs l;rw[hl,h1]at hob;rcases hob with⟨E,E2,fo,z,xs,arr,e1,hu,_⟩| ⟨hc,b0,KT0,E2,ents,clock,arr,e1,hu,hkt,hu2,hh,hel,hβk,hsz,hr⟩;·rw[hu5]at hu;cases hu
  ·rw[hu5]at hu;cases hu
   cases e1;exact⟨b0,ents,clock,arr,rfl,h1,hc,rfl,hkt,⟨E2,hu2⟩,hh,hel,hβk,hsz,hr⟩
theorem Rs{d l k i p q:Nat}{KT VT T5 T2 KT5 TS:TypeId}{c:Option Nat}{es ls ds:List Dt}{s:ByteArray}{z:Dt}(ho:o.op= .lookup T x y false)(hdst:o.dst=some d)(hn:d<n)(hu:P.underlying T=some (.map KT VT))(hk:P.underlying KT=some .string)
  (hz:∃(i:TypeInfo)(zv:Value),P.info? VT=some i∧i.zero=some zv∧∀(ok:Nat->Prop)(w:World),RD P ok w VT z [zv])
  (hs:P.underlying TS=some .string)(hx:Ev P σ x (.row l))(hy:Ev P σ y (.dat TS (.str s)))(hl:lk σ.hs l= .rowD T5 T2 c k es none)(h5:P.underlying T5=some (.map KT5 VT))(hkk:lk σ.hs k= .tok T2 ls)(hm:mix es s=some i)(hls:ls[i]? =some (.lst ds))
  (hp:lk σ.hs p= .free)(hq:lk σ.hs q= .free)(hpq:p≠q)(hp0:σ.k0<=p)(hq0:σ.k0<=q):
  bD P n o σ ((⟨σ.ts,aV (aV (aV (aV σ.hs l (.rowD T5 T2 c q es (some (i,p)))) k .gone) p (.row T2 ds)) q (.tok T2 (ls.set i (.lst []))),σ.k0⟩:St).put d (.row p)):=by
 rintro ok0 w0 a w ⟨β,r⟩ K Q hK;obtain⟨b,ents,clock,arr,e1,e2,_,_,e4,_,e5,e6,_,_,e7⟩:=sZ r h5 hx hl;obtain⟨ti,zv,hti,hzv,_⟩:=hz;have ey:=(RV.str hs (hy _ _ _ _ _ _ r)).2.1;simp only[toStr]at ey;have hzr0:(zeroValue VT).run P w= .ok zv w:=by simp[zeroValue,typeInfo,hti,hzv]
 rcases kC (Q:=fun _ _=>True) s ents es 0 e6 (fun j e d h1 h2=>let ⟨s',q1,q2,q3,_⟩:=e7 j e d h1 h2;⟨s',q1,q2,q3,trivial⟩)with⟨_,_,q3,_⟩| ⟨j,e,q1,q2,q3,q4,q5,q6⟩;·rw[hm]at q3;cases q3
 rw[hm]at q5;cases q5
 have hi:i<es.length:=(ak.1 q4).1;obtain⟨β',r',hE,hv⟩:=r.focusM h5 hl hkk hi hls hp hq hpq hp0 hq0;have hv:=hv b ents clock e e2 e5 q2;have hrow:=r'.hs p;have lp:lk (aV (aV (aV (aV σ.hs l (.rowD T5 T2 c q es (some (i,p)))) k .gone) p (.row T2 ds)) q (.tok T2 (ls.set i (.lst [])))) p= .row T2 ds:=by rw[aS _ _ _ _ hpq,bH]
 rw[show lk (St.mk σ.ts (aV (aV (aV (aV σ.hs l (.rowD T5 T2 c q es (some (i,p)))) k .gone) p (.row T2 ds)) q (.tok T2 (ls.set i (.lst [])))) σ.k0).hs p= .row T2 ds from lp,hv]at hrow;obtain⟨_,z',_,e3,_,hown,_⟩:=hrow;cases e3;have h1c:e.val.oneCell'=true:=by rcases hown.2 with⟨h,_⟩| ⟨_,_,_,h,_⟩<;>rw[h]<;>rfl
 unfold Oper.wp execOp;simp only[ho,e1,ey,Sem.run_bind,fU hu hk e5 q1 hzr0];refine hK _ _ ?_;rw[hdst];exact⟨β',r'.put hn ⟨fun hi=>by simp[AV.isAgg]at hi,fun _=> .row hv h1c⟩⟩
theorem MQ{d l k:Nat}{KT VT T5 T2 KT5 TS:TypeId}{c:Option Nat}{es:List Dt}{h:Option (Nat×Nat)}{s:ByteArray}(ho:o.op= .lookup T x y false)(hd:o.dst=some d)(hn:d<n)(hu:P.underlying T=some (.map KT VT))(hk:P.underlying KT=some .string)
  (hz:∃(i:TypeInfo),P.info? VT=some i∧i.zero=some (.slice none 0 0))
  (hs:P.underlying TS=some .string)(hx:Ev P σ x (.row l))(hy:Ev P σ y (.dat TS (.str s)))(hl:lk σ.hs l= .rowD T5 T2 c k es h)(h5:P.underlying T5=some (.map KT5 VT))(hm:mhas es s=false):bD P n o σ (σ.put d (.nils VT)):=by
 refine bf hd hn fun ok0 w0 a w β r=>?_;obtain⟨b,ents,clock,arr,e1,e2,_,_,e4,_,e5,e6,_,_,e7⟩:=sZ r h5 hx hl;obtain⟨i,hi,hzv⟩:=hz;have ey:=(RV.str hs (hy _ _ _ _ _ _ r)).2.1;simp only[toStr]at ey;have hzr0:(zeroValue VT).run P w= .ok (.slice none 0 0) w:=by simp[zeroValue,typeInfo,hi,hzv]
 rcases kC (Q:=fun _ _=>True) s ents es 0 e6 (fun j e d h1 h2=>let ⟨s',q1,q2,q3,_⟩:=e7 j e d h1 h2;⟨s',q1,q2,q3,trivial⟩)with⟨q1,_,q3,_⟩| ⟨j,e,q1,q2,q3,q4,q5,q6⟩
 ·refine⟨.slice none 0 0,?_,⟨fun hi=>by simp[AV.isAgg]at hi,fun _=> .nils⟩⟩;unfold execOp;simp only[ho,e1,ey,Sem.run_bind,fU hu hk e5 q1 hzr0];simp
 ·unfold mhas at hm;rw[q6]at hm;cases hm
theorem CZ{l k m i:Nat}{u:Operand}{KT VT KT5 V5 T5 T2 TS:TypeId}{c:Option Nat}{es:List Dt}{h:Option (Nat×Nat)}{s:ByteArray}(ho:o.op= .mapUpdate T x y u)(hd:o.dst=none)(hu:P.underlying T=some (.map KT VT))(hk:P.underlying KT=some .string)(h5:P.underlying T5=some (.map KT5 V5))
  (hs:P.underlying TS=some .string)(hx:Ev P σ x (.row l))(hy:Ev P σ y (.dat TS (.str s)))(hv:Ev P σ u (.row m))(hl:lk σ.hs l= .rowD T5 T2 c k es h)(hm:mix es s=some i)(hh:∀j m',h=some (j,m')->j=i):bD P n o σ (σ.lay l (.rowD T5 T2 c k es (some (i,m)))):=by
 rintro ok0 w0 a w ⟨β,r⟩ K Q hK;obtain⟨b,ents,clock,arr,e1,e2,ec,e3,e4,⟨E2,eu⟩,e5,e6,hβk,hsz,e7⟩:=sZ r h5 hx hl;have ey:=(RV.str hs (hy _ _ _ _ _ _ r)).2.1;simp only[toStr]at ey;have hm2:=bZ (hv _ _ _ _ _ _ r);generalize hz:a.eval u=z at hm2;have h1:=MapKept.run_getObj_map (P:=P) e5;have h2:∀e,(Instr.checkKey e 10000 KT (.string s)).run P w= .ok () w:=fun e=>by unfold Instr.checkKey;simp[run_underlying hk]
 have h4:=fun o'=>MapKept.run_setObj_map (P:=P) o' e5;have how:owns σ.hs β l b:=⟨by rw[hl];rfl,_,e2,.inl rfl⟩;rcases kC (Q:=fun _ _=>True) s ents es 0 e6 (fun j e d h1 h2=>let ⟨s',q1,q2,q3,_⟩:=e7 j e d h1 h2;⟨s',q1,q2,q3,trivial⟩)with⟨_,_,q3,_⟩| ⟨j,e,q1,q2,q3,q4,q5,q6⟩;·rw[hm]at q3;cases q3
 rw[hm]at q5;cases q5
 have h3:=MapKept.run_findKey (w:=w) hk q1;simp only[Nat.zero_add]at h3;have hj:i<ents.length:=(ak.1 q2).1;have hgk:(((ents.toArray)[i]?.map (·.key)).getD (.string s))= .string s:=by simp[q2,q3]
 have hks:(Instr.keyThatStays (.string s) (.string s)).run P w= .ok (.string s) w:=by unfold Instr.keyThatStays;simp[Instr.sameBits,d9]
 have hrun:(Instr.mapUpdate T (.map (some b)) (.string s) z).run P w= .ok () {w with heap:=w.heap.setIfInBounds b (.map (ents.set i {e with key:= .string s,val:=z}).toArray clock)}:=by
  unfold Instr.mapUpdate;have em:(ents.toArray.modify i fun e0=>{e0 with key:= .string s,val:=z})=(ents.set i {e with key:= .string s,val:=z}).toArray:=by
   apply Array.ext_getElem?;intro k;simp only[Array.getElem?_modify,List.getElem?_toArray,List.getElem?_set];by_cases hk2:i=k
   ·    subst hk2;have e9:=(ak.1 q2).2;simp[hj,e9]
   ·simp[hk2]
  simp only[Sem.run_bind,run_underlying hu,Result.andThen_ok,h1,h2,h3,hgk,hks,h4,em]
 unfold Oper.wp execOp;simp only[ho,e1,ey,hz,Sem.run_bind,hrun,Result.andThen_ok,Sem.run_pure];refine hK _ _ ?_;rw[hd];refine⟨_,r.upd l (.rowD T5 T2 c k es (some (i,m))) (β l) _ (.inl rfl) rfl rfl rfl (by simp) (fun b2 hb2 hne=>?_) (fun z2 b2 _ hz2 hb2=> .inr ⟨by rw[hl];rfl,z2,hz2,hb2⟩) fun hx hk'=>?_⟩;·exact(MapKept.heap_set e5 (o':= .map (ents.set i {e with key:= .string s,val:=z}).toArray clock)).2 b2 fun e=>hne (by rw[e];exact how)
 ·refine .inr ⟨ec,b,KT5,E2,_,clock,arr,e2,by rw[h5,e3],e4,eu,(MapKept.heap_set e5).1,by rw[List.length_set];exact e6,hx _ _ hβk,hsz,fun x e' d he hd=>?_⟩;rw[List.getElem?_set]at he;by_cases hxi:i=x
  ·subst hxi;rw[if_pos rfl,if_pos hj]at he;cases he;rw[q4]at hd;cases hd
   obtain⟨s',q7,q8,q9,_⟩:=e7 i e _ q2 q4;cases q7;exact⟨s,rfl,q8,rfl,fun hn=>absurd rfl (hn m),fun l3 e=>by cases e;exact hx _ _ hm2⟩
  ·rw[if_neg hxi]at he;obtain⟨s',q7,q8,q9,q10,q11⟩:=e7 x e' d he hd;exact⟨s',q7,q8,q9,fun _=>q10 fun l3 e3=>hxi (hh _ _ e3).symm,fun l3 e3=>by cases e3;exact absurd rfl hxi⟩
theorem MR{l k m q:Nat}{u:Operand}{KT VT KT5 V5 T5 T2 TS:TypeId}{c:Option Nat}{es ls:List Dt}{s:ByteArray}(ho:o.op= .mapUpdate T x y u)(hd:o.dst=none)(hu:P.underlying T=some (.map KT VT))(hk:P.underlying KT=some .string)(h5:P.underlying T5=some (.map KT5 V5))
  (hs:P.underlying TS=some .string)(hx:Ev P σ x (.row l))(hy:Ev P σ y (.dat TS (.str s)))(hv:Ev P σ u (.row m))(hl:lk σ.hs l= .rowD T5 T2 c k es none)(hkk:lk σ.hs k= .tok T2 ls)(hq:lk σ.hs q= .free)(hq0:σ.k0<=q)(hm:mhas es s=false):
  bD P n o σ (St.lay ⟨σ.ts,aV (aV (aV σ.hs l (.rowD T5 T2 c q es none)) k .gone) q (.tok T2 (ls++List.replicate 1 (.lst []))),σ.k0⟩ l (.rowD T5 T2 c q (mput es s (.bool true)) (some (es.length,m)))):=by
 rintro ok0 w0 a w ⟨β,r⟩ K Q hK;obtain⟨b,ents,clock,arr0,e1,e2,ec,e3,e4,⟨E2,eu⟩,e5,e6,hβk,hsz,e7⟩:=sZ r h5 hx hl;have ey0:=RV.str hs (hy _ _ _ _ _ _ r);have ey:=ey0.2.1;have es':=ey0.2.2;simp only[toStr]at ey es';have hm2:=bZ (hv _ _ _ _ _ _ r);generalize hz:a.eval u=z at hm2;have hlen:es.length<=ls.length:=r.tok_len hl hkk;obtain⟨β',r',hE,hok,arr,hβq,harr,hqo⟩:=r.tokExt 1 hl hkk hq hq0;have h1:=MapKept.run_getObj_map (P:=P) e5;have h2:∀e,(Instr.checkKey e 10000 KT (.string s)).run P w= .ok () w:=fun e=>by unfold Instr.checkKey;simp[run_underlying hk]
 have h4:=fun o'=>MapKept.run_setObj_map (P:=P) o' e5;rcases kC (Q:=fun _ _=>True) s ents es 0 e6 (fun j e d h1 h2=>let ⟨s',q1,q2,q3,_⟩:=e7 j e d h1 h2;⟨s',q1,q2,q3,trivial⟩)with⟨q1,_,_,q7⟩| ⟨j,e,q1,q2,q3,q4,q5,q6⟩
 rotate_left
 ·unfold mhas at hm;rw[q6]at hm;cases hm
 have h3:=MapKept.run_findKey (w:=w) hk q1;have hrun:(Instr.mapUpdate T (.map (some b)) (.string s) z).run P w= .ok () {w with heap:=w.heap.setIfInBounds b (.map (ents++[({key:= .string s,val:=z,born:=clock}:MapEntry)]).toArray (clock+1))}:=by unfold Instr.mapUpdate;simp[run_underlying hu,h1,h2,h3,h4]
 unfold Oper.wp execOp;simp only[ho,e1,ey,hz,Sem.run_bind,hrun,Result.andThen_ok,Sem.run_pure];refine hK _ _ ?_;rw[hd,q7];have hlq:l≠q:=fun e=>by rw[e,hq]at hl;cases hl
 have hlk:l≠k:=fun e=>by rw[e,hkk]at hl;cases hl
 have hl':lk (aV (aV (aV σ.hs l (.rowD T5 T2 c q es none)) k .gone) q (.tok T2 (ls++List.replicate 1 (.lst [])))) l= .rowD T5 T2 c q es none:=by rw[aS _ _ _ _ hlq,aS _ _ _ _ hlk,bH]
 have e2':=hE _ _ e2;have hob:=r'.hs l;rw[show lk (St.mk σ.ts (aV (aV (aV σ.hs l (.rowD T5 T2 c q es none)) k .gone) q (.tok T2 (ls++List.replicate 1 (.lst [])))) σ.k0).hs l= .rowD T5 T2 c q es none from hl',e2']at hob;rcases hob with⟨_,_,_,_,_,_,_,hu',_⟩| ⟨_,b1,KT1,E1,ents1,clock1,arr1,g1,g2,g3,g4,g5,g6,g7,g8,g9⟩;·rw[h5]at hu';cases hu'
 cases g1;rw[e5]at g5;obtain⟨rfl,rfl⟩:ents=ents1∧clock=clock1:=by simp only[aA,Obj.map.injEq]at g5;exact⟨by have:=g5.1;simpa using this,g5.2⟩
 rw[hβq]at g7;cases g7
 have how:owns (aV (aV (aV σ.hs l (.rowD T5 T2 c q es none)) k .gone) q (.tok T2 (ls++List.replicate 1 (.lst [])))) β' l b:=⟨by rw[hl'];rfl,_,e2',.inl rfl⟩;refine⟨_,r'.upd l (.rowD T5 T2 c q (es++[.agg [.str s,.bool true]]) (some (es.length,m))) (β' l) {w with heap:=w.heap.setIfInBounds b (.map (ents++[({key:= .string s,val:=z,born:=clock}:MapEntry)]).toArray (clock+1))} (.inl rfl) rfl rfl rfl (by simp) (fun b2 hb2 hne=>?_) (fun z2 b2 _ hz2 hb2=> .inr ⟨by show (lk (aV (aV (aV σ.hs l (.rowD T5 T2 c q es none)) k .gone) q (.tok T2 (ls++List.replicate 1 (.lst [])))) l).isOwn=true;rw[hl'];rfl,z2,hz2,hb2⟩) fun hx hk'=>?_⟩;·exact(MapKept.heap_set e5 (o':= .map (ents++[({key:= .string s,val:=z,born:=clock}:MapEntry)]).toArray (clock+1))).2 b2 fun e=>hne (by rw[e];exact how)
 ·refine .inr ⟨ec,b,KT5,E2,_,clock+1,arr,e2',by rw[h5,e3],e4,eu,(MapKept.heap_set e5).1,by simp[e6],hx _ _ hβq,by rw[aT,harr];simp;omega,fun x e' d he hd=>?_⟩;rcases Nat.lt_or_ge x ents.length with hlt|hge
  ·rw[List.getElem?_append_left hlt]at he;rw[List.getElem?_append_left (by omega)]at hd;obtain⟨s',q7,q8,q9,q10,_⟩:=g9 x e' d he hd;exact⟨s',q7,q8,q9,fun _=>q10 fun _=>nofun,fun l3 e3=>by cases e3;omega⟩
  ·rw[List.getElem?_append_right hge]at he;rw[List.getElem?_append_right (by omega)]at hd;have e0:x-ents.length=0:=by have:=(ak.1 he).1;simp at this;omega
   rw[e0]at he;rw[←e6,e0]at hd;cases he;cases hd;have hxe:x=es.length:=by omega
   exact⟨s,rfl,es',rfl,fun hn=>absurd (by rw[hxe]) (hn m),fun l3 e3=>by cases e3;exact hx _ _ (hE _ _ hm2)⟩
theorem RelB.toM(h:RelB P K w0 n σ a w β){T5 KT T2 E2 l q:Nat}(hl:lk σ.hs l= .map T5 [])(hu:P.underlying T5=some (.map KT T2))(hu2:P.underlying T2=some (.slice E2))(hq:lk σ.hs q= .free)(hq0:σ.k0<=q):
  ∃β',RelB P K w0 n ⟨σ.ts,aV (aV σ.hs l (.rowD T5 T2 mpC q [] none)) q (.tok T2 []),σ.k0⟩ a w β':=by
 have fq:β q=none:=by have:=h.hs q;rw[hq]at this;exact this
 have hlq:l≠q:=fun e=>by rw[e,hq]at hl;cases hl
 have hol:=h.hs l;rw[hl]at hol;obtain⟨b,KT',VT',ents,clock,e1,hu',hkt,hh,hlen,_⟩:=hol;rw[hu]at hu';cases hu'
 let β':=upB β q (some (.tuple #[]))
 have bo:∀j,j≠q->β' j=β j:=fun j h1=>bO _ _ _ _ h1;have bq:β' q=some (.tuple #[]):=bJ _ _ _;have hE:Ext β β':=fun j u hj=>by
  by_cases j2:j=q;·subst j2;rw[fq]at hj;cases hj
  ·rw[bo j j2];exact hj
 have ll:lk (aV (aV σ.hs l (.rowD T5 T2 mpC q [] none)) q (.tok T2 [])) l= .rowD T5 T2 mpC q [] none:=by rw[aS _ _ _ _ hlq,bH]
 have lo:∀j,j≠q->j≠l->lk (aV (aV σ.hs l (.rowD T5 T2 mpC q [] none)) q (.tok T2 [])) j=lk σ.hs j:=fun j h1 h2=>by rw[aS _ _ _ _ h1,aS _ _ _ _ h2]
 have hw:∀j b,owns (aV (aV σ.hs l (.rowD T5 T2 mpC q [] none)) q (.tok T2 [])) β' j b->owns σ.hs β j b:=by
  rintro j b ⟨h1,u,h2,h3⟩;by_cases jq:j=q
  ·subst jq;rw[bq]at h2;cases h2
   obtain⟨x,u,hx,_⟩:=nC h3;simp at hx
  ·rw[bo j jq]at h2;refine⟨?_,u,h2,h3⟩;by_cases jl:j=l;·subst jl;rw[hl];rfl
   ·rw[lo j jq jl]at h1;exact h1
 refine⟨β',h.re _ β' hE (fun j b hj=>⟨j,hw j b hj⟩) (fun j j' b h1 h2=>h.sep _ _ _ (hw j b h1) (hw j' b h2)) (fun hkk j=>?_) fun j hj=>?_⟩
 ·have hkk':∀b,okOf K w0 w σ.hs β b->okOf K w0 w _ β' b∧w.heap[b]? =w.heap[b]? :=fun b hb=>⟨hkk b hb,rfl⟩;by_cases jq:j=q;·subst jq;rw[bH,bq];exact⟨E2,#[],rfl,hu2,rfl,fun i j zi zj b h=>by simp at h,fun i d hd=>by simp at hd⟩
  by_cases jl:j=l;·subst jl;rw[ll,bo j jq];exact .inr ⟨rfl,b,KT,E2,ents,clock,#[],e1,hu,hkt,hu2,hh,hlen,bq,aN _,fun i e d _ hd=>by simp at hd⟩
  ·rw[lo j jq jl,bo j jq];exact(h.hs j).mono hkk' (fun _ _ _ _ _=>rfl) hE
 ·have:=h.kk;exact bo j (by omega)
theorem anr{d l:Nat}{T3 Te:TypeId}{lo:Option Operand}{i:Int}{es:List Dt}(ho:o.op= .slice T x lo none none)(hd:o.dst=some d)(hn:d<n)(hu:P.underlying T=some (.slice Te))(h0c:P.cellsOf Te≠0)
  (hx:Ev P σ x (.row l))(hl:lk σ.hs l= .row T3 es)(hlo:Kz P σ lo i)(h0:0<=i)(hi:i<=es.length):bD P n o σ (σ.put d (.sub l i.toNat (P.cellsOf Te))):=
 bf hd hn fun ok0 w0 a w β r=>by
  have e1:=bZ (hx _ _ _ _ _ _ r);have hob:=r.hs l;rw[hl,e1]at hob;obtain⟨E',xs,_,hown,_⟩:=iF hob;have hz:∃ao cap,a.eval x= .slice ao es.length cap∧es.length<=cap:=by
   rcases hown.2 with⟨h1,h2⟩| ⟨g,cap,cur,h1,_,_,h3,h4,_⟩;·exact⟨none,0,by rw[h1,h2],by rw[h2];exact aN _⟩
   ·exact⟨_,cap,h1,by omega⟩
  obtain⟨ao,cap,ex,hlc⟩:=hz;have hb:=iH (cap:=cap) r true hlo (hi:=none) (j:=es.length) rfl h0 hi (Int.le_refl _) hlc;simp only[Option.map_none,Int.toNat_natCast]at hb;cases hinf:P.info? Te with
  |none=>simp[Program.cellsOf,hinf]at h0c
  |some inf=>
   have hs:inf.size=P.cellsOf Te:=by simp[Program.cellsOf,hinf]
   refine⟨.slice (if cap=i.toNat then ao else ao.map (·.add (i.toNat*P.cellsOf Te))) (es.length-i.toNat) (cap-i.toNat),by simp[execOp,ho,ex,Instr.sliceAt,Instr.slice,run_underlying hu,hb,sizeOf,typeInfo,hinf,hs],⟨fun hi=>by simp[AV.isAgg]at hi,fun _=> .sub (by rw[e1,ex])⟩⟩
theorem Ea(zv:Value)(k:Nat):(Builtin.zeroCells #[zv] k).toList=List.replicate k zv:=by unfold Builtin.zeroCells;apply List.ext_getElem?;intro j;simp[List.getElem?_replicate,Nat.mod_one];split<;>simp_all
theorem agL{     l i:Nat}{T5 Te:TypeId}{es:List Dt}{z:Dt}(ho:o.op= .call {callee:= .builtin .clear,args:= #[x],argTypes:= #[T]})(hd:o.dst=none)(hu:P.underlying T=some (.slice Te))(hu5:P.underlying T5=some (.slice Te))(h1c:P.cellsOf Te=1)
   (hz:∃(ti:TypeInfo)(zv:Value),P.info? Te=some ti∧ti.zero=some zv∧∀(ok:Nat->Prop)(w:World),RD P ok w Te z [zv])(hx:Ev P σ x (.sub l i 1))(hl:lk σ.hs l= .row T5 es)(hi:i<=es.length):bD P n o σ (σ.lay l (.row T5 (es.take i++List.replicate (es.length-i) z))):=by
 rintro ok0 w0 a w ⟨β,r⟩ K Q hK;have h:=(hx _ _ _ _ _ _ r).2 rfl;generalize hz0:a.eval x=zx at h;cases h with
 | @sub _ _ _ nn cap ao hb=>
   have hob:=r.hs l;rw[hl,hb]at hob;obtain⟨E',xs,hu',hown,hone,hrd⟩:=iF hob;obtain rfl:Te=E':=by rw[hu5]at hu';cases hu';rfl
   have hnn:nn=es.length:=by
    rcases hown.2 with⟨h2,h3⟩| ⟨g,cap',cur,h2,_⟩;·cases h2;omega
    ·cases h2;rfl
   subst hnn;by_cases hk:es.length-i=0
   ·have hes:es.take i++List.replicate (es.length-i) z=es:=by rw[hk,List.take_of_length_le (by omega)];simp
    have hrun:(execOp a.eval o).run P w= .ok (.value (.tuple #[])) w:=by
        rw[hk]at hz0;cases hq:(if cap=i then ao else ao.map fun q=>q.add (i*1))with
        |none=>rw[hq]at hz0;simp[execOp,ho,hz0,resolve,invoke,builtin,Builtin.clear_,run_underlying hu]
        |some q=>rw[hq]at hz0;simp[execOp,ho,hz0,resolve,invoke,builtin,Builtin.clear_,run_underlying hu]
    unfold Oper.wp;rw[hrun];refine hK _ _ ?_;rw[hd,hes];refine⟨_,r.upd l (.row T5 es) (β l) w (.inl rfl) rfl rfl rfl (aL _) (fun _ _ _=>rfl) (fun z2 b2 _ hz2 hb2=> .inr ⟨by rw[hl];rfl,z2,hz2,hb2⟩) fun hx hk=>?_⟩;have:=r.hs l;rw[hl]at this;exact this.mono hk (fun _ _ _ _ _=>rfl) hx
   ·rcases hown.2 with⟨h2,h3⟩| ⟨g,cap',cur,h2,hg2,hheap,hnc,hcm,hcsz,htk⟩;·omega
    ·   obtain⟨rfl,rfl⟩:ao=some ⟨g,0,none⟩∧cap=cap':=by cases h2;exact⟨rfl,rfl⟩
        have how:owns σ.hs β l g:=⟨by rw[hl];rfl,_,hb,.inl rfl⟩;obtain⟨ti,zv,hti,hzv,hzr⟩:=hz;have h1z:zv.oneCell'=true:=(hzr (fun _=>True) w).oneCell zv (by simp);have hzc:zv.cells= #[zv]:=by cases zv<;>first|rfl|cases h1z
        have hlen:=hown.1;rw[h1c,Nat.mul_one]at hcsz hlen htk
        let vs:=List.replicate (es.length-i) zv
        have hvl:vs.length=es.length-i:=by simp[vs]
        have hst:=run_storeCells_at P g i Te vs 0 cur w hheap (by omega) (fun v hv=>by rw[List.eq_of_mem_replicate hv];exact h1z);obtain⟨k,hk2⟩:∃k,es.length-i=k+1:=⟨es.length-i-1,by omega⟩;have hne:¬cap=i:=by omega
        rw[if_neg hne]at hz0;have hz1:a.eval x= .slice (some ⟨g,i,none⟩) (k+1) (cap-i):=by rw[hz0,hk2];simp[eP]
        have hzr0:(zeroValue Te).run P w= .ok zv w:=by simp[zeroValue,typeInfo,hti,hzv]
        have hrun:(execOp a.eval o).run P w= .ok (.value (.tuple #[])) (w.setRow g (splice cur.toList i vs).toArray):=by
         have e:(Builtin.zeroCells zv.cells (k+1)).toList=vs:=by rw[hzc,Ea,←hk2]
         simp only[Nat.add_zero]at hst;simp[execOp,ho,hz1,resolve,invoke,builtin,Builtin.clear_,run_underlying hu,hzr0,e,hst,splice]
        unfold Oper.wp;rw[hrun];refine hK _ _ ?_;rw[hd];have hfit:i+vs.length<=cur.toList.length:=by simp;omega
        have hfx:i+vs.length<=xs.length:=by omega
        refine⟨_,r.upd l _ (β l) _ (.inl rfl) rfl rfl rfl (by simp) (fun b2 hb2 hne=>setRow_other w _ _ _ fun e=>hne (by rw[e];exact how)) (fun z2 b2 _ hz2 hb2=> .inr ⟨by rw[hl];rfl,z2,hz2,hb2⟩) fun hx hk=>?_⟩;refine⟨Te,_,splice xs i vs,hb,hu5,⟨?_,.inr ⟨g,cap,(splice cur.toList i vs).toArray,?_,hg2,setRow_heap w g cur _ Te _ hheap,?_,hcm,?_,?_⟩⟩,?_,fun j d hj=>?_⟩;·rw[dN hfx,h1c];simp;omega
        ·simp;omega
        ·simp;omega
        ·rw[List.size_toArray,dN hfit,h1c];simpa using hcsz
        ·rw[h1c];apply List.ext_getElem?;intro j;rw[List.getElem?_take,bM hfx];simp only[aT,List.length_take,List.length_replicate];split
         ·rw[bM hfit];split;·rfl
          ·rw[←htk,List.getElem?_take,if_pos (by omega)]
         ·rw[if_neg (by omega),List.getElem?_eq_none (by omega)]
        ·intro u hu2;obtain⟨j,hj⟩:=List.getElem?_of_mem hu2;rw[bM hfx]at hj;split at hj;·rw[List.eq_of_mem_replicate (aM hj)];exact h1z
         ·exact hone u (aM hj)
        ·rw[h1c,Nat.mul_one];by_cases hji:j<i
         ·rw[List.getElem?_append_left (by rw[List.length_take];omega),List.getElem?_take,if_pos hji]at hj;have:=hrd j d hj;rw[h1c,Nat.mul_one]at this;rw[gG hfx (.inl (by omega))];exact this.mono hk
         ·have hjl:j<es.length:=by have:=(ak.1 hj).1;simp at this;omega
          rw[List.getElem?_append_right (by rw[List.length_take];omega),List.getElem?_replicate]at hj;split at hj
          · cases hj;have e:((splice xs i vs).drop j).take 1=[zv]:=by
               apply List.ext_getElem?;intro q;rw[List.getElem?_take,List.getElem?_drop];split
               · rename_i hq;obtain rfl:q=0:=by omega
                 rw[Nat.add_zero,bM hfx,if_pos (by omega),List.getElem?_replicate,if_pos (by omega)];rfl
               ·rw[List.getElem?_eq_none (by simp;omega)]
            rw[e];exact hzr _ _
          ·cases hj
