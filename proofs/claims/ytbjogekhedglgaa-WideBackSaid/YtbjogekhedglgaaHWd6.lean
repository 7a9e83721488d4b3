/- WideDivides: the walk of the law. -/
import Derived.Test.YtbjogekhedglgaaHWd5
namespace Go.Proofs.Ytbjogekhedglgaa
set_option linter.unusedSimpArgs false
set_option linter.unusedVariables false
open Go.RowKit EV
open SX (Wr Tv Qu Rm Sh Is conjP eqs_iff eqs_false)
open EW (PlL PlT PlV PlVs LfV Mm Bt Opn GV nums)
set_option maxRecDepth 20000
theorem rdivS (x c : Int) (w : World) (ha : x.natAbs < 1606938044258990275541962092341162602522202) (hc : c ≠ 0) (hd' : c.natAbs < 1606938044258990275541962092341162602522202) : Calls Try.prog 26 #[BZ x, BZ c] w fun e w' => e = .returned (.tuple #[BZ (x.fdiv c), BZ (x - x.fdiv c * c), .int .i64 0]) ∧ Below w.heap.size w w' := rdiv x c w ha hc hd'
end Go.Proofs.Ytbjogekhedglgaa
