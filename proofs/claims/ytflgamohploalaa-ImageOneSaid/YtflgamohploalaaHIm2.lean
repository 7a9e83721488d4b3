/- image: Same; the document's. -/
import Derived.Test.YtflgamohploalaaHIm1
namespace Go.Proofs.Ytflgamohploalaa
set_option linter.unusedSimpArgs false
set_option linter.unusedVariables false
open Go.RowKit EV
open SX (Wr Tv Qu Rm Sh Is conjP eqs_iff eqs_false)
open EW (PlL PlT PlV PlVs LfV Mm Bt Opn GV YT lpOf nums)
set_option maxRecDepth 20000
/-- The cells of an image whose pixels stand in block n. -/
abbrev imC (n : Nat) (w h : Int) (k : Nat) : List C := [.v (.int .i64 w), .v (.int .i64 h), .g n 0 k k 4]
end Go.Proofs.Ytflgamohploalaa
