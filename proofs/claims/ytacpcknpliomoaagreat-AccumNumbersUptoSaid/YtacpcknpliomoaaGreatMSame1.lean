/- Values: each is the same as itself. -/
import Derived.Test.YtacpcknpliomoaaGreatMWv
set_option linter.unusedVariables false
set_option linter.unusedSimpArgs false
namespace Go.Proofs.YtacpcknpliomoaaGreat
open Go.Am

theorem wv_bulk6 {d : Dt} (hw : WV d) : Dt.bulkL (Dt.L d 3) + Dt.bulkL (Dt.L d 4) + 6 ≤ d.bulk := by
  cases hw with
  | @mk k i t l ds hl hd =>
    rw [bulk_val]
    show Dt.bulkL l + Dt.bulkL ds + 6 ≤ _
    omega
end Go.Proofs.YtacpcknpliomoaaGreat
