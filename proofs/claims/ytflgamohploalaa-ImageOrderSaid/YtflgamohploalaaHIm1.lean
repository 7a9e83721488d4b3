/- image: Set, Same; the document's. -/
import Derived.Test.YtflgamohploalaaHIm0
import Derived.Test.YtflgamohploalaaHEwJ
namespace Go.Proofs.Ytflgamohploalaa
set_option linter.unusedSimpArgs false
set_option linter.unusedVariables false
open Go.RowKit EV
open SX (Wr Tv Qu Rm Sh Is conjP eqs_iff eqs_false)
open EW (PlL PlT PlV PlVs LfV Mm Bt Opn GV YT lpOf nums)
set_option maxRecDepth 20000
noncomputable def WP (o : Bool) (l : List Px) : Ws := [(.l 0, .l true), (.b 0, .b (.w o (pvs l)))]
end Go.Proofs.Ytflgamohploalaa
