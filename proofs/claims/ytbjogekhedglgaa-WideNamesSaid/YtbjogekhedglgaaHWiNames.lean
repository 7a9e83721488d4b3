/- WideNames, reckoned. -/
import Derived.Test.YtbjogekhedglgaaHWiY
namespace Go.Proofs.Ytbjogekhedglgaa
set_option linter.unusedSimpArgs false
set_option linter.unusedVariables false
open Go.RowKit
theorem wideNames_run (w : World) : Calls Try.prog 8 #[] w fun e w' => e = .returned (.bool true) ∧ Below w.heap.size w w' :=
  EW.calls_plainY enters EV.ext64_ok wideY_ok (fuel := 3000) (vs := []) (us := []) .nil rfl (by kernel_rfl) w
end Go.Proofs.Ytbjogekhedglgaa
