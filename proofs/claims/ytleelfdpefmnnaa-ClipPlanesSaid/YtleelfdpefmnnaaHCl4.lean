/- ClipEdges: the walk. -/
import Derived.Test.YtleelfdpefmnnaaHCl3
namespace Go.Proofs.Ytleelfdpefmnnaa
set_option linter.unusedSimpArgs false
set_option linter.unusedVariables false
open Go.RowKit EV
open SX (Wr Tv Qu Rm Sh Is conjP eqs_iff eqs_false)
open EW (PlL PlT PlV PlVs LfV Mm Bt Opn GV nums)
set_option maxRecDepth 20000
theorem dst_ok (p x y z q : Int) (p0 : 0 ≤ p) (p1 : p < 7) (h : Sm4 x y z q) : DST p (V4 x y z q) (dsV p x y z q) 0 := fun w => by
  have := cDist p x y z q w p0 p1
  rwa [if_pos h, if_pos h] at this
theorem dst_no (p x y z q : Int) (p0 : 0 ≤ p) (p1 : p < 7) (h : ¬ Sm4 x y z q) : DST p (V4 x y z q) 0 90 := fun w => by
  have := cDist p x y z q w p0 p1
  rwa [if_neg h, if_neg h] at this
end Go.Proofs.Ytleelfdpefmnnaa
