/- FormatNames, reckoned. -/
import Derived.Test.YtafhojmnbpegpaaGreatHFmA
namespace Go.Proofs.YtafhojmnbpegpaaGreat
set_option linter.unusedSimpArgs false
set_option linter.unusedVariables false
open Go.RowKit
set_option maxRecDepth 20000
theorem formatNames_run (w : World) : Calls Tryz.prog 7 #[] w fun e w' => e = .returned (.bool true) ∧ Below w.heap.size w w' :=
  EW.calls_plainZ enters EV.noX_ok crcA_ok (fuel := 5000) (vs := []) (us := []) .nil rfl (by kernel_rfl) w
end Go.Proofs.YtafhojmnbpegpaaGreat
