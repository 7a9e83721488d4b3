/- RleNames, reckoned. -/
import Derived.Test.YtnmkpekfkfckoaaHRlX
namespace Go.Proofs.Ytnmkpekfkfckoaa
set_option linter.unusedSimpArgs false
set_option linter.unusedVariables false
open Go.RowKit
theorem rleNames_run (w : World) : Calls Try.prog 10 #[] w fun e w' => e = .returned (.bool true) ∧ Below w.heap.size w w' :=
  EW.calls_plainZ enters EV.noX_ok rlZ_ok (fuel := 3000) (vs := []) (us := []) .nil rfl (by kernel_rfl) w
end Go.Proofs.Ytnmkpekfkfckoaa
