/- expr: what the nodes' results are: well-formed, small, missing only as the zero value.
expr:the program's and the reference's value of a valid expression is evS,by induction on its levels.
expr:Eval of the program and of the reference. -/
import Derived.Test.YtmecfjhdnbgfeaaGreatDoorED
import Derived.Test.YtmecfjhdnbgfeaaGreatDoorRA
set_option linter.unusedVariables false
set_option linter.unusedSimpArgs false
namespace Go.Proofs.YtmecfjhdnbgfeaaGreatDoor
open Go.Am
structure Vv (v:Dt):Prop where
 wv:WV v
 bk:v.bulk≤4300800
 sn:v=kza2373∨∃k,sndF nm k v=true
theorem Nd.vv {v:Dt} (h:Nd v):Vv v:=by
 refine⟨h.wv,h.bulk,?_⟩
 rcases h with h| ⟨_,h⟩
 ·exact .inl h
 ·rw[okV] at h
  simp only[Bool.and_eq_true] at h
  exact .inr ⟨_,h.2⟩
theorem Nd.elems {a:Dt} (h:Nd a):∀x∈Dt.L a 3,Vv x:=by
 intro x hx
 have hb:=h.bulk
 have hm:=nK hx
 rcases h.vv.sn with rfl| ⟨k,hk⟩
 ·exact absurd hx (by intro h;cases h)
 ·obtain⟨h1,h2⟩:=X5 h.wv hk x hx
  exact⟨h1,by omega,.inr h2⟩
theorem Nd.few {a:Dt} (h:Nd a) (h6:Dt.I a 0=6):(Dt.L a 3).length≤1024:=by
 rcases h with rfl| ⟨hw,ho⟩
 ·exact Nat.zero_le _
 ·have h1:=DT hw
  have h2:=RX nds anF (qx a)
  have h3:qx a=Dt.L a 3:=by rw[qx,h6];rfl
  rw[okV] at ho
  simp only[Bool.and_eq_true,decide_eq_true_eq] at ho
  rw[h3] at h1 h2
  omega
theorem ajq (n:Nat) (p:List Dt):atN n kza2373 p=kza2373:=by
 cases n with
 |zero=>rfl
 |succ n=>cases p with
  |nil=>rfl
  |cons s r=>rfl
theorem akU {v:Dt} (h:Vv v) (n:Nat) (p:List Dt):Rs (atN n v p) 4300800:=by
 obtain⟨h1,h2⟩:=Ou n v p h.wv
 refine⟨h1,Nat.le_trans h2 h.bk,?_⟩
 rcases h.sn with rfl| ⟨k,hk⟩
 ·exact .inl (ajq n p)
 ·exact alk n v p k hk
theorem aeU (n:Nat) (p:List Dt) (s:ByteArray):∀(env:List (ByteArray×Dt)),(∀q∈env,Vv q.2)→Rs (K8 (fun v=>atN n v p) s env) 4300800
 | [],_=>UD.le (by omega)
 |q::r,h=>by
  rw[K8]
  exact dI (akU (h q (List.mem_cons_self ..)) n p) (aeU n p s r fun x hx=>h x (List.mem_cons_of_mem _ hx))
theorem aoI (op:Int) (g:Dt→Dt) {v:Dt} (hv:Nd v) (h6:Dt.I v 0=6) (hg:∀x∈Dt.L v 3,Nd (g x)):Rs (uz (lpS op g (Dt.L v 3))) 4500000000:=by
 have hl:=hv.few h6
 have hb:=hv.bulk
 unfold lpS
 cases (op==32)
 ·rw[cond_false]
  refine UE (fun e he=>(hv.elems e (List.mem_filter.1 he).1).wv) ?_
  have h1:=rV (g:=fun e=>e) (q:=fun x=>trB (g x)) (l:=Dt.L v 3) fun e _=>Nat.le_refl _
  rw[List.map_id'] at h1
  have h2:=ED v 3
  omega
 ·rw[cond_true,show (List.map (fun x=>orN (g x)) (Dt.L v 3))=((Dt.L v 3).map g).map orN by rw[List.map_map];rfl]
  have hn:∀k∈(Dt.L v 3).map g,Nd k:=fun k hk=>by
   obtain⟨x,hx,rfl⟩:=List.mem_map.1 hk
   exact hg x hx
  have h1:=uE _ hn
  rw[List.length_map] at h1
  exact(UF _ fun e he=>(hn e he).wv).le (by omega)
def cpS (r:Nat) (e doc:Dt) (env:List (ByteArray×Dt)):Dt:=
    bif Dt.I e 0==1 then Dt.fld e 4
    else bif Dt.I e 0==2 then atN 4300801 doc (Dt.L e 1)
    else bif Dt.I e 0==3 then K8 (fun v=>atN 4300801 v (Dt.L e 1)) (Dt.S e 2) env
    else bif Dt.I e 0==32||Dt.I e 0==33 then
     bif isK 6 (evS mgS r ((Dt.L e 6).getD 0 kza2373) doc env) then
        uz (lpS (Dt.I e 0) (fun x=>evS mgS r ((Dt.L e 6).getD 1 kza2373) doc ((Dt.S e 2,x)::env)) (Dt.L (evS mgS r ((Dt.L e 6).getD 0 kza2373) doc env) 3))
     else kV 2 0
    else opS (Dt.I e 0) e ((Dt.L e 6).map fun k=>evS mgS r k doc env) (mgS ((Dt.L e 6).map fun k=>evS mgS r k doc env))
theorem Lm (r:Nat) (e doc:Dt) (env:List (ByteArray×Dt)):evS mgS (r+1) e doc env=nm1 (cpS r e doc env):=rfl
theorem aeV (s:ByteArray) (x:Dt) (env:List (ByteArray×Dt)):bnL ((s,x)::env)=bnL env++[.agg [.str s,x]]:=by
 rw[bnL,List.reverse_cons,List.map_append]
 rfl
theorem Sd (env:List (ByteArray×Dt)):(bnL env).length=env.length:=by rw[bnL,List.length_map,List.length_reverse]
theorem ajr {b:Dt} {env:List (ByteArray×Dt)} (h:b∈bnL env):∃q∈env,Dt.fld b 1=q.2:=by
 obtain⟨q,hq,rfl⟩:=List.mem_map.1 h
 exact⟨q,List.mem_reverse.1 hq,rfl⟩
end Go.Proofs.YtmecfjhdnbgfeaaGreatDoor
namespace Go.Proofs.YtmecfjhdnbgfeaaGreatDoor
open Go.Am
structure EvI (r:Nat) (e doc:Dt) (env:List (ByteArray×Dt)):Prop where
 nd:Nd (evS mgS r e doc env)
 pr:∀q:Nat,14000000000+8*r≤q→q<899999990000→expr_eval q e doc (scD env)=some (evS mgS r e doc env)
 rf:∀q:Nat,14000000000+8*r≤q→q<899999990000→ref08_eval q e doc (bnL env)=some (evS mgS r e doc env)
theorem aeW {e:Dt} (hn:nodeS e=0) (h:Dt.I e 0=32∨Dt.I e 0=33):∃a b,Dt.L e 6=[a,b]:=by
 obtain⟨_,_,hek,_,_⟩:=BL hn
 rcases h with h|h<;>rw[h] at hek<;>exact sh2 hek
theorem aeX (r:Nat) (e doc:Dt) (env:List (ByteArray×Dt)) (hn:nodeS e=0) (hnl:env.length≤16) (hk:∀k∈Dt.L e 6,EvI r k doc env) (hkl:(Dt.I e 0=32∨Dt.I e 0=33)→∀k∈Dt.L e 6,∀x,Vv x→EvI r k doc ((Dt.S e 2,x)::env)) (m:Nat) (hm:14000000000+8*r≤m) (hm2:m<899999989999) (h:Dt.I e 0=32∨Dt.I e 0=33):Rs (cpS r e doc env) 4500000000∧bZ (m+1) e doc (scD env)=some (cpS r e doc env)∧bD (m+1) e doc (bnL env)=some (cpS r e doc env):=by
 obtain⟨a,b,hab⟩:=aeW hn h
 have ha:a∈Dt.L e 6:=by rw[hab];exact List.mem_cons_self ..
 have hbm:b∈Dt.L e 6:=by rw[hab];exact List.mem_cons_of_mem _ (List.mem_cons_self ..)
 have ka:=hk a ha
 have kb:=hkl h b hbm
 have i0:idx (Dt.L e 6) 0=some a:=by rw[hab];exact aku a [b]
 have i1:idx (Dt.L e 6) 1=some b:=by rw[hab];exact aC (l:=[a,b]) (i:=1) (by simp)
 obtain⟨m,rfl⟩:∃q,m=q+2:=⟨m-2,by omega⟩
 have e0:cpS r e doc env=bif isK 6 (evS mgS r a doc env) then uz (lpS (Dt.I e 0) (fun x=>evS mgS r b doc ((Dt.S e 2,x)::env)) (Dt.L (evS mgS r a doc env) 3)) else kV 2 0:=by
  rw[cpS,hab]
  rcases h with h|h<;>rw[h]<;>rfl
 have hvb:=ka.nd.bulk
 have hlb:=fI (evS mgS r a doc env) 3
 have hel:=ka.nd.elems
 have p1:=ka.pr (m+2) (by omega) (by omega)
 have q1:=ka.rf (m+2) (by omega) (by omega)
 rw[e0,bZ,bD,i0,Option.bind_some,Option.bind_some,p1,q1,Option.bind_some,Option.bind_some,isK]
 cases h6:(Dt.I (evS mgS r a doc env) 0==6)
 ·rw[show (Dt.I (evS mgS r a doc env) 0 !=6)=true by rw[bne,h6];rfl]
  exact⟨jU.le (by omega),rfl,rfl⟩
 ·rw[show (Dt.I (evS mgS r a doc env) 0 !=6)=false by rw[bne,h6];rfl,cond_true]
  have h6':Dt.I (evS mgS r a doc env) 0=6:=by simpa using h6
  have kg:=fun x hx=>kb x (hel x hx)
  refine⟨aoI _ _ ka.nd h6' fun x hx=>(kg x hx).nd,?_,?_⟩
  ·have key:=aaz m (expr_eval (m+2)) (scD env) e doc kza2373 b (Dt.L (evS mgS r a doc env) 3) (fun x=>evS mgS r b doc ((Dt.S e 2,x)::env)) (by omega) i1 (fun x hx=>(kg x hx).pr (m+2) (by omega) (by omega)) (Nat.succ (m+2)) 0 [] (Nat.zero_le _) (Nat.le_refl _) (by omega)
   rw[List.drop_zero,List.nil_append] at key
   exact key
  ·have key:=Vh m (ref08_eval (m+2)) (bnL env) e doc kza2373 (evS mgS r a doc env) b (fun x=>evS mgS r b doc ((Dt.S e 2,x)::env)) (by omega) (by rw[Sd];omega) i1 (fun x hx=>by rw[←aeV];exact(kg x hx).rf (m+2) (by omega) (by omega)) (fun x hx=>(kg x hx).nd.rs.k0) (Nat.succ (m+2)) 0 [] (Nat.zero_le _) (Nat.le_refl _) (by omega)
   rw[List.drop_zero,List.nil_append] at key
   exact key
section
variable (r:Nat) (e doc:Dt) (env:List (ByteArray×Dt)) (hn:nodeS e=0) (h256:(Dt.L e 6).length≤256) (hb:e.bulk≤100000000) (h4:WV (Dt.fld e 4)) (hd:Vv doc) (hv:∀q∈env,Vv q.2) (hnl:env.length≤16)
 (hk:∀k∈Dt.L e 6,EvI r k doc env) (hkl:(Dt.I e 0=32∨Dt.I e 0=33)→∀k∈Dt.L e 6,∀x,Vv x→EvI r k doc ((Dt.S e 2,x)::env))
 (m:Nat) (hm:14000000000+8*r≤m) (hm2:m<899999989999)
include hn h256 hb h4 hd hv hnl hk hkl hm hm2
theorem aeY:Rs (cpS r e doc env) 4500000000∧dG (m+2) e doc (scD env)=some (cpS r e doc env):=by
 obtain⟨_,_,_,_,hv1⟩:=BL hn
 have hf4:=mR e 4
 by_cases k1:Dt.I e 0=1
 ·have e0:cpS r e doc env=Dt.fld e 4:=by rw[cpS,k1];rfl
  rw[e0,dG,k1]
  exact⟨(show Nd (Dt.fld e 4) from .inr ⟨h4,hv1 k1⟩).rs.le (by omega),rfl⟩
 by_cases k2:Dt.I e 0=2
 ·have e0:cpS r e doc env=atN 4300801 doc (Dt.L e 1):=by rw[cpS,k2];rfl
  have hA:=Uq 4300800 m doc (Dt.L e 1) hd.bk (by omega) (by have:=hd.bk;omega)
  rw[e0,dG,k2]
  refine⟨(akU hd _ _).le (by omega),?_⟩
  show ((aR (m+1) doc (Dt.L e 1)).bind _:Option Dt)=_
  rw[hA]
  rfl
 by_cases k3:Dt.I e 0=3
 ·have e0:cpS r e doc env=K8 (fun v=>atN 4300801 v (Dt.L e 1)) (Dt.S e 2) env:=by rw[cpS,k3];rfl
  rw[e0,dG,k3]
  refine⟨(aeU _ _ _ env hv).le (by omega),?_⟩
  exact Vd (m+1) (expr_eval (m+1)) (bZ (m+1)) e kza2373 (fun v=>atN 4300801 v (Dt.L e 1)) env (Nat.succ (m+1)) (by omega) fun p hp=>Uq 4300800 m p.2 (Dt.L e 1) (hv p hp).bk (by omega) (by have:=(hv p hp).bk;omega)
 by_cases kl:Dt.I e 0=32∨Dt.I e 0=33
 ·obtain⟨l1,l2,_⟩:=aeX r e doc env hn hnl hk hkl m hm hm2 kl
  refine⟨l1,?_⟩
  have:dG (m+2) e doc (scD env)=((bZ (m+1) e doc (scD env)).bind fun x=>some x):=by
   rw[dG]
   rcases kl with h|h<;>rw[h]<;>rfl
  rw[this,l2]
  rfl
 ·have k32:Dt.I e 0≠32:=fun h=>kl (.inl h)
  have k33:Dt.I e 0≠33:=fun h=>kl (.inr h)
  have f1:(Dt.I e 0==1)=false:=by rw[beq_eq_false_iff_ne];exact k1
  have f2:(Dt.I e 0==2)=false:=by rw[beq_eq_false_iff_ne];exact k2
  have f3:(Dt.I e 0==3)=false:=by rw[beq_eq_false_iff_ne];exact k3
  have f32:(Dt.I e 0==32)=false:=by rw[beq_eq_false_iff_ne];exact k32
  have f33:(Dt.I e 0==33)=false:=by rw[beq_eq_false_iff_ne];exact k33
  have e0:cpS r e doc env=opS (Dt.I e 0) e ((Dt.L e 6).map fun k=>evS mgS r k doc env) (mgS ((Dt.L e 6).map fun k=>evS mgS r k doc env)):=by
   rw[cpS,f1,f2,f3,f32,f33];rfl
  obtain⟨q,rfl⟩:∃q,m=q+4:=⟨m-4,by omega⟩
  have hks:∀k∈(Dt.L e 6).map fun k=>evS mgS r k doc env,Nd k:=fun k h=>by
   obtain⟨x,hx,rfl⟩:=List.mem_map.1 h
   exact(hk x hx).nd
  obtain⟨o1,o2⟩:=opP q e kza2373 ((Dt.L e 6).map fun k=>evS mgS r k doc env) hks (by rw[List.length_map]) (by rw[List.length_map];exact h256) hb (by omega) (by omega) hn k1 k2 k3 k32 k33 (expr_eval (q+5)) (bZ (q+5))
  have key:=Vf (q+5) (expr_eval (q+5)) (bZ (q+5)) (scD env) e doc kza2373 (Dt.L e 6) (fun k=>evS mgS r k doc env) (by omega) (fun k hk'=>(hk k hk').pr (q+5) (by omega) (by omega)) (Nat.succ (q+5)) 0 (Nat.zero_le _) (by omega)
  rw[List.take_zero,List.map_nil,List.nil_append,Nat.sub_zero,o1] at key
  rw[e0]
  refine⟨o2.le (by omega),?_⟩
  rw[dG,f1,f2,f3,f32,f33]
  show ((mkL ((Dt.L e 6).length:Int) ((Dt.L e 6).length:Int) kza2373).bind _:Option Dt)=_
  rw[wI (by omega),Option.bind_some]
  exact key
theorem alK (hm3:m<899999989993):ref08_eval (m+7) e doc (bnL env)=some (nm1 (cpS r e doc env)):=by
 obtain⟨hR,_⟩:=aeY r e doc env hn h256 hb h4 hd hv hnl hk hkl m hm hm2
 have hbk:=hR.bk
 have rv:=fun(c:Dt) (h:Rs c 4500000000)=>aiL (m+2) (ref08_eval (m+6)) (bD (m+6)) kza2373 c h.wv (fun h0=>by rcases h.nz with h|h;exact h;omega) (by have:=h.bk;omega) (by omega) (by have:=h.bk;omega)
 by_cases k1:Dt.I e 0=1
 ·have e0:cpS r e doc env=Dt.fld e 4:=by rw[cpS,k1];rfl
  rw[←rv _ hR,e0,ref08_eval,k1]
  rfl
 by_cases k2:Dt.I e 0=2
 ·have e0:cpS r e doc env=atN 4300801 doc (Dt.L e 1):=by rw[cpS,k2];rfl
  have hA:=Us 4300800 (m+5) doc (Dt.L e 1) hd.bk (by omega) (by have:=hd.bk;omega)
  rw[←rv _ hR,e0,ref08_eval,k2]
  show ((fG (m+6) doc (Dt.L e 1)).bind _:Option Dt)=_
  rw[hA]
  rfl
 by_cases k3:Dt.I e 0=3
 ·have e0:cpS r e doc env=K8 (fun v=>atN 4300801 v (Dt.L e 1)) (Dt.S e 2) env:=by rw[cpS,k3];rfl
  have key:=Gu (m+6) (ref08_eval (m+6)) (bD (m+6)) e kza2373 (fun v=>atN 4300801 v (Dt.L e 1)) (bnL env) (by rw[Sd];omega) (fun b hb=>by
   obtain⟨q,hq,hq2⟩:=ajr hb
   rw[hq2]
   exact Us 4300800 (m+5) q.2 (Dt.L e 1) (hv q hq).bk (by omega) (by have:=(hv q hq).bk;omega)) (Nat.succ (m+6)) 0 kza2373 (Nat.zero_le _) (by rw[Sd];omega)
  rw[List.drop_zero] at key
  rw[←rv _ hR,e0,ref08_eval,k3]
  exact key.trans (congrArg (dN (m+6) (ref08_eval (m+6)) (bD (m+6)) kza2373) (Ve (fun v=>atN 4300801 v (Dt.L e 1)) (Dt.S e 2) env))
 by_cases kl:Dt.I e 0=32∨Dt.I e 0=33
 ·obtain⟨l1,_,l2⟩:=aeX r e doc env hn hnl hk hkl (m+5) (by omega) (by omega) kl
  have:ref08_eval (m+7) e doc (bnL env)=((bD (m+6) e doc (bnL env)).bind fun x=>dN (m+6) (ref08_eval (m+6)) (bD (m+6)) kza2373 x):=by
   rw[ref08_eval]
   rcases kl with h|h<;>rw[h]<;>rfl
  rw[this,l2,←rv _ hR]
  rfl
 ·have k32:Dt.I e 0≠32:=fun h=>kl (.inl h)
  have k33:Dt.I e 0≠33:=fun h=>kl (.inr h)
  have f1:(Dt.I e 0==1)=false:=by rw[beq_eq_false_iff_ne];exact k1
  have f2:(Dt.I e 0==2)=false:=by rw[beq_eq_false_iff_ne];exact k2
  have f3:(Dt.I e 0==3)=false:=by rw[beq_eq_false_iff_ne];exact k3
  have f32:(Dt.I e 0==32)=false:=by rw[beq_eq_false_iff_ne];exact k32
  have f33:(Dt.I e 0==33)=false:=by rw[beq_eq_false_iff_ne];exact k33
  have e0:cpS r e doc env=opS (Dt.I e 0) e ((Dt.L e 6).map fun k=>evS mgS r k doc env) (mgS ((Dt.L e 6).map fun k=>evS mgS r k doc env)):=by
   rw[cpS,f1,f2,f3,f32,f33];rfl
  have hks:∀k∈(Dt.L e 6).map fun k=>evS mgS r k doc env,Nd k:=fun k h=>by
   obtain⟨x,hx,rfl⟩:=List.mem_map.1 h
   exact(hk x hx).nd
  obtain⟨c,o1,o2,o3⟩:=opR m e ((Dt.L e 6).map fun k=>evS mgS r k doc env) hks (by rw[List.length_map]) (by rw[List.length_map];exact h256) hb (by omega) (by omega) hn k1 k2 k3 k32 k33
  have key:=Qg (m+6) (ref08_eval (m+6)) (bD (m+6)) (bnL env) e doc kza2373 kza2373 (fun k=>evS mgS r k doc env) (by omega) (fun k hk'=>(hk k hk').rf (m+6) (by omega) (by omega)) (Nat.succ (m+6)) 0 [] (Nat.zero_le _) (Nat.le_refl _) (by omega)
  rw[List.drop_zero,List.nil_append,uP,o1,Option.bind_some,rv c (o2.le (by omega)),o3,←e0] at key
  rw[ref08_eval,f1,f2,f3,f32,f33]
  exact key
end
theorem aaH:∀(r:Nat),r≤16→∀(e doc:Dt) (env:List (ByteArray×Dt)),VE r e→WE e→e.bulk≤100000000→Vv doc→(∀q∈env,Vv q.2)→env.length+r≤16→EvI r e doc env
 |0,_,_,_,_,h,_,_,_,_,_=>h.elim
 |r+    1,hr,e,doc,env,hve,hwe,hb,hd,hv,hl=>by
  obtain⟨hn,h256,hks⟩:=hve
  cases hwe with
  |mk h4 h6=>
   have hk:∀k∈Dt.L e 6,∀env':List (ByteArray×Dt),(∀q∈env',Vv q.2)→env'.length+r≤16→EvI r k doc env':=fun k hk env' hv' hl'=>aaH r (by omega) k doc env' (hks k hk) (h6 k hk) (by have:=nK hk;omega) hd hv' hl'
   have hk1:=fun k hm=>hk k hm env hv (by omega)
   have hkl:(Dt.I e 0=32∨Dt.I e 0=33)→∀k∈Dt.L e 6,∀x,Vv x→EvI r k doc ((Dt.S e 2,x)::env):=fun _ k hm x hx=>hk k hm _ (fun q hq=>by
        rcases List.mem_cons.1 hq with rfl|hq
        ·exact hx
        ·exact hv q hq) (by rw[List.length_cons];omega)
   have cP:=aeY r e doc env hn h256 hb h4 hd hv (by omega) hk1 hkl
   have cR:=alK r e doc env hn h256 hb h4 hd hv (by omega) hk1 hkl
   have hR:=(cP (14000000000+8*r) (Nat.le_refl _) (by omega)).1
   refine⟨?_,fun q h1 h2=>?_,fun q h1 h2=>?_⟩
   ·    rw[Lm]
        exact anA hR.wv
   ·    obtain⟨m,rfl⟩:∃m,q=m+4:=⟨q-4,by omega⟩
        have hc:=(cP (m+1) (by omega) (by omega)).2
        rw[Lm]
        exact akK m e doc (scD env) _ hc hR.wv (by have:=hR.bk;omega) (by have:=hR.bk;omega)
   ·    obtain⟨m,rfl⟩:∃m,q=m+7:=⟨q-7,by omega⟩
        rw[Lm]
        exact cR m (by omega) (by omega) (by omega)
end Go.Proofs.YtmecfjhdnbgfeaaGreatDoor
namespace Go.Proofs.YtmecfjhdnbgfeaaGreatDoor
open Go.Am
def evE (e doc:Dt):Dt:=evS mgS 16 e doc []
structure EvT (e doc:Dt):Prop where
 nd:Nd (evE e doc)
 pr:∀q:Nat,14000001000≤q→q<899999980000→expr_Eval q e doc=some (evE e doc)
 rf:∀q:Nat,14000001000≤q→q<899999980000→ref08_Eval q e doc=some (evE e doc)
theorem alL (e doc:Dt) (hw:WE e) (hb:e.bulk≤100000000) (hc:(ckE 16 e 0).2=0) (hd:Nd doc):EvT e doc:=by
 have hI:=aaH 16 (Nat.le_refl _) e doc [] (RY 16 e 0 (by omega) hc).2 hw hb hd.vv (fun q h=>by cases h) (by simp)
 refine⟨hI.nd,fun q h1 h2=>?_,fun q h1 h2=>?_⟩
 ·obtain⟨m,rfl⟩:∃m,q=m+24:=⟨q-24,by omega⟩
  have hv:=adu 100000000 (Nat.le_refl _) m (by omega) (by omega) e hw hb
  have hE:=hI.pr (m+23) (by omega) (by omega)
  have hbk:=hI.nd.bulk
  have hcl:=Gv 4300800 (evS mgS 16 e doc []) hbk (by omega) hI.nd.wv (m+22) (by omega)
  rw[expr_Eval,hv,Option.bind_some,hc]
  show ((expr_eval (m+23) e doc (scD [])).bind _:Option Dt)=_
  rw[hE,Option.bind_some,hcl]
  rfl
 ·obtain⟨m,rfl⟩:∃m,q=m+24:=⟨q-24,by omega⟩
  have hv:=WI 100000000 (Nat.le_refl _) m (by omega) (by omega) e hw hb
  have hE:=hI.rf (m+23) (by omega) (by omega)
  rw[ref08_Eval,hv,Option.bind_some,hc]
  show ((ref08_eval (m+23) e doc (bnL [])).bind _:Option Dt)=_
  rw[hE,Option.bind_some]
  show (bif Dt.I (evE e doc) 0==0 then some kza2373 else some (evE e doc))=_
  cases h0:(Dt.I (evE e doc) 0==0)
  ·rfl
  ·have h0':Dt.I (evE e doc) 0=0:=by simpa using h0
   rcases hI.nd.rs.nz with h|h
   ·rw[show evE e doc=kza2373 from h];rfl
   ·    have h:1≤Dt.I (evE e doc) 0:=h
        omega
end Go.Proofs.YtmecfjhdnbgfeaaGreatDoor
