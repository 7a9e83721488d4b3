/- MatrixNames, reckoned. -/
import Derived.Test.YtgjbhocahpplbaaClosed
import Derived.Test.YtgjbhocahpplbaaExt64
namespace Go.Proofs.Ytgjbhocahpplbaa
open Go.RowKit
theorem matrixNames_run (w : World) : Calls Try.prog 7 #[] w fun e w' => e = .returned (.bool true) ∧ Below w.heap.size w w' :=
  EV.calls_plain enters EV.ext64_ok (fuel := 1000) (us := []) (by kernel_rfl) w
end Go.Proofs.Ytgjbhocahpplbaa
