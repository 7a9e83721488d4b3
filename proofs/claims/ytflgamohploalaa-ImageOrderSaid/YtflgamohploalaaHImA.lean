import Derived.Test.YtflgamohploalaaHIm8
import Derived.Test.YtflgamohploalaaHEwT
/- image: signs of pixels, rows as texts. -/
namespace Go.Proofs.Ytflgamohploalaa
set_option linter.unusedSimpArgs false
set_option linter.unusedVariables false
open Go.RowKit EV
open SX (Wr Tv Qu Rm Sh Is conjP eqs_iff eqs_false)
open EW (PlL PlT PlV PlVs LfV Mm Bt Opn GV YT lpOf nums)
set_option maxRecDepth 20000
theorem pvs_take : ∀ (l : List Px) (k : Nat), (pvs l).take (k * 4) = pvs (l.take k)
  | [], k => by simp [pvs]
  | p :: l, 0 => by simp [pvs]
  | p :: l, k + 1 => by
    have := pvs_take l k
    rw [show (k + 1) * 4 = k * 4 + 1 + 1 + 1 + 1 by omega]
    simpa [pvs, Px.vals] using this
end Go.Proofs.Ytflgamohploalaa
/- image: sign, slices.Chunk of pixels, Rows. -/
/- image: Rows. -/
