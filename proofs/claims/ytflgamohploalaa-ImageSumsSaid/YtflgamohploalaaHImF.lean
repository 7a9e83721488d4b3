/- image: Twin, twin, kept; slices.Clone of any pixels. -/
import Derived.Test.YtflgamohploalaaHImD
import Derived.Test.YtflgamohploalaaHEwU
namespace Go.Proofs.Ytflgamohploalaa
set_option linter.unusedSimpArgs false
set_option linter.unusedVariables false
open Go.RowKit EV
open SX (Wr Tv Qu Rm Sh Is conjP eqs_iff eqs_false)
open EW (PlL PlT PlV PlVs LfV Mm Bt Opn GV YT lpOf nums)
set_option maxRecDepth 20000
theorem pvs_head (l t : List Px) : EW.Sub (pvs (l ++ t)) (pvs l) 0 := by
  have := pvs_part (l := l ++ t) (a := 0) (k := l.length) (by simp)
  simpa using this
end Go.Proofs.Ytflgamohploalaa
