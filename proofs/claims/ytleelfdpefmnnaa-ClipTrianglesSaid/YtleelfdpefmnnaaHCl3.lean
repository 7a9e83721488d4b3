/- Package clip: Cross; a crossing lies near its plane. -/
import Derived.Test.YtleelfdpefmnnaaHCl2
namespace Go.Proofs.Ytleelfdpefmnnaa
set_option linter.unusedSimpArgs false
set_option linter.unusedVariables false
open Go.RowKit EV
open SX (Wr Tv Qu Rm Sh Is conjP eqs_iff eqs_false)
open EW (PlL PlT PlV PlVs LfV Mm Bt Opn GV nums)
set_option maxRecDepth 20000
abbrev I (n : Int) : Value := .int .i64 n
abbrev CRO (p : Int) (A B X : Value) : Prop := ∀ w : World, Calls Try.prog 22 #[I p, A, B] w fun x w' => x = .returned X ∧ Below w.heap.size w w'
end Go.Proofs.Ytleelfdpefmnnaa
