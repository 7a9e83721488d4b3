/- Numbers of up to 320 bits as lists of digits of 16 bits: what is read, put, compared. No program in sight. The document's numbers: of 64 bits, sums, differences, which is less. The document's numbers: sums, the other sign, products, powers of 2, which is less, quotients. The document's numbers: which is less, of api.Wide, as api.Wide. The document's numbers: quotients. -/
import Derived.Test.YtbjogekhedglgaaHZE
import Derived.Test.YtbjogekhedglgaaRows
namespace Go.Proofs.Ytbjogekhedglgaa
set_option linter.unusedSimpArgs false
set_option linter.unusedVariables false
open Go.RowKit EV
open SX (Wr Tv Qu Rm Sh Is conjP eqs_iff eqs_false)
open EW (PlL PlT PlV PlVs LfV Mm Bt Opn GV)
set_option maxRecDepth 20000
def up (m i : Nat) : Nat := m / 65536 ^ i
end Go.Proofs.Ytbjogekhedglgaa
namespace Go.Proofs.Ytbjogekhedglgaa
set_option linter.unusedSimpArgs false
set_option linter.unusedVariables false
open Go.RowKit EV
open SX (Wr Tv Qu Rm Sh Is conjP eqs_iff eqs_false)
open EW (PlL PlT PlV PlVs LfV Mm Bt Opn GV)
set_option maxRecDepth 20000
/-- A number of 128 bits. -/
abbrev W2 (z : Int) : Value := .agg #[.int .i64 (z / 18446744073709551616), .int .u64 (z % 18446744073709551616)]
end Go.Proofs.Ytbjogekhedglgaa
