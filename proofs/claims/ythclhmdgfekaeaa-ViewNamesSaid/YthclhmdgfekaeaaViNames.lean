/- ViewNames, reckoned. -/
import Derived.Test.YthclhmdgfekaeaaClosed
import Derived.Test.YthclhmdgfekaeaaExt64
namespace Go.Proofs.Ythclhmdgfekaeaa
open Go.RowKit
theorem viewNames_run (w : World) : Calls Try.prog 11 #[] w fun e w' => e = .returned (.bool true) ∧ Below w.heap.size w w' :=
  EV.calls_plain enters EV.ext64_ok (fuel := 1000) (us := []) (by kernel_rfl) w
end Go.Proofs.Ythclhmdgfekaeaa
