/- The law: the query of the first stages is as specified. -/
import Derived.Test.YtjnkagkoolbodaaGreatDoorMJ
import Derived.Test.YtjnkagkoolbodaaGreatDoorMI
import Derived.Test.YtjnkagkoolbodaaGreatDoorFx
set_option linter.unusedVariables false
set_option linter.unusedSimpArgs false
namespace Go.Proofs.YtjnkagkoolbodaaGreatDoor
open Go.Am
theorem aM9 (r:List Dt) (h:Sts r):(∀e∈oOf r,e.bulk≤2000000)∧(oOf r).length≤2000000:=by
 unfold oOf
 cases hc:hdI r 4 with
 |false=>exact⟨fun e he=>(by cases he),(by simp)⟩
 |true=>
  cases r with
  |nil=>cases hc
  |cons a t=>
   have hb:=h.b
   simp only[Dt.bulkL] at hb
   have l4:=aO a 4
   exact⟨fun e he=>by have:=bA (d:=a) (i:=4) he;omega,by show (Dt.L a 4).length≤_;omega⟩
theorem aUO (r:List Dt) (h:Sts r):HasTy Tryz.prog 45 (pOf r)∧(pOf r).bulk≤2000000:=by
 unfold pOf
 cases hc:hdI r 2 with
 |false=>exact⟨aWJ,by show zP0.bulk≤_;decide⟩
 |true=>
  cases r with
  |nil=>cases hc
  |cons a t=>
   have hb:=h.b
   simp only[Dt.bulkL] at hb
   have f2:=aA a 2
   exact⟨OM (h.t a (by simp)),by show (Dt.fld a 2).bulk≤_;omega⟩
theorem aUP (l:List Dt) (n:Nat) (hn:n≤l.length) (h:Sts l):jV 500000000000 (aeA l n).1 (aeA l n).1=some true:=by
 have hd:=h.drop n
 have hw:=Uy h n
 have h1:aR 499999999999 (whr l n) (whr l n)=some true:=sPr 2000100 (whr l n) hw (by omega) (axi h hn) 499999999998 (by omega)
 obtain⟨o1,o2⟩:=aM9 _ hd
 have h2:gF 499999999999 (oOf (l.drop n)) (oOf (l.drop n))=some true:=Y5 499999999998 2000000 (by omega) _ o1 o2 (by omega)
 obtain⟨p1,p2⟩:=aUO _ (((hd.tl 4).tl 5).tl 6)
 have h3:vw 499999999999 (pOf (tlI (tlI (tlI (l.drop n) 4) 5) 6)) (pOf (tlI (tlI (tlI (l.drop n) 4) 5) 6))=some true:=sPj 499999999998 _ (by omega) (by omega) p1
 rw[jV]
 show Option.bind (aR 499999999999 (whr l n) (whr l n)) _=_
 rw[h1,Option.bind_some,cond_true]
 show Option.bind (gF 499999999999 (oOf (l.drop n)) (oOf (l.drop n))) _=_
 rw[h2,Option.bind_some,cond_true,beq_self_eq_true,cond_true,beq_self_eq_true,cond_true]
 show Option.bind (vw 499999999999 (pOf (tlI (tlI (tlI (l.drop n) 4) 5) 6)) (pOf (tlI (tlI (tlI (l.drop n) 4) 5) 6))) _=_
 rw[h3,Option.bind_some,cond_true,beq_self_eq_true]
theorem aUQ (l:List Dt) (h:Sts l):bg 500000000000 l l=some true:=aMq l 2000000 (by omega) h.b h.t 500000000000 (by omega)
theorem aCT (l:List Dt) (hb:Dt.bulkL l≤1048576) (ht:∀e∈l,HasTy Tryz.prog 71 e):nR (500000000000+1) l=some true:=by
 have h:Sts l:=⟨by omega,ht⟩
 obtain⟨r,hr⟩:=aBj l hb ht 499999999999 (by omega) (by omega)
 have hr':rJ 500000000000 l=some r:=hr
 have hn:=aSN l 500000000000 0 (Nat.zero_le _)
 have k1:pW 500000000000 l=some (aeA l (qn l 500000000000 0)):=aIH 499999999999 (by omega) (by omega) l h
 have k2:vX 500000000000 l=some (aeA l (qn l 500000000000 0)):=aC2 499999999998 (by omega) (by omega) l h
 generalize qn l 500000000000 0=n at hn k1 k2
 have k3:=aUP l n hn h
 have k4:bg 500000000000 (aeA l n).2 (aeA l n).2=some true:=aUQ _ ((((h.drop n).tl 4).tl 5).tl 6 |>.tl 2)
 rw[nR,hr',Option.bind_some]
 cases (r !=0)
 ·rw[cond_false,nT,k1,Option.bind_some,k2,Option.bind_some,k3,Option.bind_some,cond_true,k4,Option.bind_some,cond_true]
  rfl
 ·rw[cond_true]
  rfl
theorem aGL {ds:List Dt} (h:HasTys Tryz.prog Tryz.f3.params.toList ds) (hb:Dt.bulkL ds≤1048576):FX Tryz.prog 3 (aMA Tryz.f3.params.toList ds) [] (.dat 4 (.bool true)) []:=by
 have h':HasTys Tryz.prog [22] ds:=h
 match ds,h',hb with
 | [x],.cons h1 .nil,hb=>
   obtain⟨e0,_,w1⟩:=bU Tryz.underlying22 h1
   rw[e0] at hb ⊢
   simp only[Dt.bulkL,Dt.bulk] at hb
   exact Cw 500000000000 (aWW 500000000000) _ _ (aCT x.toLst (by omega) w1)
end Go.Proofs.YtjnkagkoolbodaaGreatDoor
