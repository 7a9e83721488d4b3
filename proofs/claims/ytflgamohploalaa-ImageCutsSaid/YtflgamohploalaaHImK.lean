/- ImageSpans: the walk. -/
import Derived.Test.YtflgamohploalaaHImJ
import Derived.Test.YtflgamohploalaaHImE
namespace Go.Proofs.Ytflgamohploalaa
set_option linter.unusedSimpArgs false
set_option linter.unusedVariables false
open Go.RowKit Go.ChangeShapes Go.WideShapes EV
open SX (Wr Tv Qu Rm Sh Is conjP eqs_iff eqs_false)
open EW (PlL PlT PlV PlVs LfV Mm Bt Opn GV YT lpOf nums)
set_option maxRecDepth 20000
theorem same13_t (o o' : Bool) (l : List Px) (hl : l.length ≤ 10000) : CT Try.prog 27 [.c (.g 0 0 l.length l.length 4), .c (.g 1 0 l.length l.length 4)] (upd EW.emp (W2 o o' l l)) 2 2 (.c (.v (.bool true))) (upd (upd EW.emp (W2 o o' l l)) []) := by
  have := rsame13 o o' l l hl hl
  rwa [decide_eq_true rfl] at this
end Go.Proofs.Ytflgamohploalaa
