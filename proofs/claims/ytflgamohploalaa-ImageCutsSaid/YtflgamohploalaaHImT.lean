/- image: signs of pixels, rows as texts. -/
import Derived.Test.YtflgamohploalaaHIm8
import Derived.Test.YtflgamohploalaaHEw9
import Derived.Test.YtflgamohploalaaHEwT
namespace Go.Proofs.Ytflgamohploalaa
set_option linter.unusedSimpArgs false
set_option linter.unusedVariables false
open Go.RowKit EV
open SX (Wr Tv Qu Rm Sh Is conjP eqs_iff eqs_false)
open EW (PlL PlT PlV PlVs LfV Mm Bt Opn GV YT lpOf nums)
set_option maxRecDepth 20000
theorem pvs_take : ∀ (l : List Px) (k : Nat), (pvs l).take (k * 4) = pvs (l.take k)
  | [], k => by simp [pvs]
  | p :: l, 0 => by simp [pvs]
  | p :: l, k + 1 => by
    have := pvs_take l k
    rw [show (k + 1) * 4 = k * 4 + 1 + 1 + 1 + 1 by omega]
    simpa [pvs, Px.vals] using this
theorem pvs_drop : ∀ (l : List Px) (k : Nat), (pvs l).drop (k * 4) = pvs (l.drop k)
  | [], k => by simp [pvs]
  | p :: l, 0 => by simp [pvs]
  | p :: l, k + 1 => by
    have := pvs_drop l k
    rw [show (k + 1) * 4 = k * 4 + 1 + 1 + 1 + 1 by omega]
    simpa [pvs, Px.vals] using this
theorem pvs_part {l : List Px} {a k : Nat} (h : a + k ≤ l.length) : EW.Sub (pvs l) (pvs ((l.drop a).take k)) (a * 4) := by
  rw [← pvs_take, ← pvs_drop]
  exact EW.Sub.of (by rw [pvs_length]; omega)
end Go.Proofs.Ytflgamohploalaa
