/- WideDivides: the walk of the law. -/
import Derived.Test.YthclhmdgfekaeaaHWd5
namespace Go.Proofs.Ythclhmdgfekaeaa
set_option linter.unusedSimpArgs false
set_option linter.unusedVariables false
open Go.RowKit EV
open SX (Wr Tv Qu Rm Sh Is conjP eqs_iff eqs_false)
open EW (PlL PlT PlV PlVs LfV Mm Bt Opn GV nums)
set_option maxRecDepth 20000
theorem rdivS (x c : Int) (w : World) (ha : x.natAbs < 1606938044258990275541962092341162602522202) (hc : c ≠ 0) (hd' : c.natAbs < 1606938044258990275541962092341162602522202) : Calls Try.prog 47 #[BZ x, BZ c] w fun e w' => e = .returned (.tuple #[BZ (x.fdiv c), BZ (x - x.fdiv c * c), .int .i64 0]) ∧ Below w.heap.size w w' := rdiv x c w ha hc hd'
theorem prod_nat {a b : Int} (ha0 : -9223372036854775808 ≤ a) (ha1 : a ≤ 9223372036854775807) (hb0 : -9223372036854775808 ≤ b) (hb1 : b ≤ 9223372036854775807) : (a * b).natAbs ≤ 85070591730234615865843651857942052864 := by
  rw [Int.natAbs_mul]
  have : a.natAbs * b.natAbs ≤ 9223372036854775808 * 9223372036854775808 := Nat.mul_le_mul (by omega) (by omega)
  omega
end Go.Proofs.Ythclhmdgfekaeaa
