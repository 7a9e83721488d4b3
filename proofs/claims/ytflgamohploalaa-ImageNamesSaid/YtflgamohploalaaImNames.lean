/- ImageNames, reckoned. -/
import Derived.Test.YtflgamohploalaaClosed
namespace Go.Proofs.Ytflgamohploalaa
open Go.RowKit
theorem imageNames_run (w : World) : Calls Try.prog 9 #[] w fun e w' => e = .returned (.bool true) ∧ Below w.heap.size w w' :=
  EV.calls_plain enters EV.noX_ok (fuel := 1000) (us := []) (by kernel_rfl) w
end Go.Proofs.Ytflgamohploalaa
