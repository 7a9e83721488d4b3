/- WideCounts: the walk of the law. -/
import Derived.Test.YthclhmdgfekaeaaHWd4
namespace Go.Proofs.Ythclhmdgfekaeaa
set_option linter.unusedSimpArgs false
set_option linter.unusedVariables false
open Go.RowKit EV
open SX (Wr Tv Qu Rm Sh Is conjP eqs_iff eqs_false)
open EW (PlL PlT PlV PlVs LfV Mm Bt Opn GV nums)
set_option maxRecDepth 20000
theorem rmul64 (a b : Int) (w : World) (ha0 : -9223372036854775808 ≤ a) (ha1 : a ≤ 9223372036854775807) (hb0 : -9223372036854775808 ≤ b) (hb1 : b ≤ 9223372036854775807) : Calls Try.prog 45 #[BZ a, BZ b] w fun e w' => e = .returned (BZ (a * b)) ∧ Below w.heap.size w w' := rmulZ a b w (by omega) (by omega)
end Go.Proofs.Ythclhmdgfekaeaa
