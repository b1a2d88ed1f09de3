/- The law on printing values, in plain Lean. -/
import Derived.Test.YtmejbpmceflcjaaDoorNF
import Derived.Test.YtmejbpmceflcjaaDoorMFew
import Derived.Test.YtmejbpmceflcjaaDoorFx
set_option linter.unusedVariables false
set_option linter.unusedSimpArgs false
namespace Go.Proofs.YtmejbpmceflcjaaDoor
open Go.Am
theorem okF_snd {d:Dt} (h:okF d=true):sndF wd d.bulk d=true:=by
 unfold okF at h
 exact(Bool.and_eq_true_iff.1 h).2
def prt (d:Dt):ByteArray×Int:=bif okF d then(bif perr d.bulk d==0 then(⟨(txt d.bulk d).toArray⟩,0) else(ByteArray.mk (List.toArray []),perr d.bulk d)) else(ByteArray.mk (List.toArray []),8)
theorem Print_eq {d:Dt} (hw:WV d) (hr:WR d) (hb:d.bulk≤20000000) (m:Nat) (hm:40*d.bulk+1000≤m):notation_Print (m+7) d=some (prt d):=by
 have h1:notation_wellFormed (m+6) d=some (okF d):=wellFormed_eq hw (m+1) (by omega) (by omega)
 unfold prt
 simp only[notation_Print,h1,Option.bind_some]
 cases hok:okF d
 ·rfl
 obtain⟨r,h2,h3⟩:=text_eq d.bulk d (Nat.le_refl _) (by omega) hw hr (okF_snd hok) (m+5) (by omega) [] (by simp;omega)
 have h2':i11 (m+6) d []=some (perr d.bulk d,r):=h2
 simp only[Bool.not_true,cond_false,cond_true,notation_Print_j0,h2',Option.bind_some,bne]
 cases he:(perr d.bulk d==0)
 ·rfl
 ·have e:=h3 (by simpa using he)
  have hl:=txt_len d.bulk d hw hr (Nat.le_refl _)
  rw[List.nil_append] at e
  subst e
  have hbl:Nat.ble (bytesI (txt d.bulk d)).length 137438953472=true:=ble_of (by rw[bytesI_len];omega)
  simp only[Bool.not_true,cond_false,cond_true,notation_Print_j1,hbl,strI_ok,Option.bind_some]
end Go.Proofs.YtmejbpmceflcjaaDoor
