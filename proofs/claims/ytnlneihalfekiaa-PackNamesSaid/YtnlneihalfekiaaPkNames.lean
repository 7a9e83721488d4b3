/- PackNames, reckoned. -/
import Derived.Test.YtnlneihalfekiaaClosed
namespace Go.Proofs.Ytnlneihalfekiaa
open Go.RowKit
theorem packNames_run (w : World) : Calls Try.prog 7 #[] w fun e w' => e = .returned (.bool true) ∧ Below w.heap.size w w' :=
  EV.calls_plain enters (fuel := 1000) (us := []) (by kernel_rfl) w
end Go.Proofs.Ytnlneihalfekiaa
