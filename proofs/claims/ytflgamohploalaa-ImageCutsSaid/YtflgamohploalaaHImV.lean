/- image: one fragment is laid; near, either way about. -/
import Derived.Test.YtflgamohploalaaHImR
import Derived.Test.YtflgamohploalaaHZK
namespace Go.Proofs.Ytflgamohploalaa
set_option linter.unusedSimpArgs false
set_option linter.unusedVariables false
open Go.RowKit EV
open SX (Wr Tv Qu Rm Sh Is conjP eqs_iff eqs_false)
open EW (PlL PlT PlV PlVs LfV Mm Bt Opn GV YT lpOf nums)
set_option maxRecDepth 20000
theorem ialive (w : World) : Calls Try.prog 39 #[] w fun e w' => e = .returned (.bool true) ∧ Below w.heap.size w w' :=
  EV.calls_plain enters EV.noX_ok (fuel := 1000) (us := []) (by kernel_rfl) w
end Go.Proofs.Ytflgamohploalaa
