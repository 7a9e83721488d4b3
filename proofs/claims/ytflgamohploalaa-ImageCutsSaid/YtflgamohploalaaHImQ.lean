/- image: fragments in memory; Lay. -/
import Derived.Test.YtflgamohploalaaHImP
namespace Go.Proofs.Ytflgamohploalaa
set_option linter.unusedSimpArgs false
set_option linter.unusedVariables false
open Go.RowKit EV
open SX (Wr Tv Qu Rm Sh Is conjP eqs_iff eqs_false)
open EW (PlL PlT PlV PlVs LfV Mm Bt Opn GV YT lpOf nums)
set_option maxRecDepth 20000
def Fg.zero : Fg := ⟨0, 0, Px.zero⟩
end Go.Proofs.Ytflgamohploalaa
