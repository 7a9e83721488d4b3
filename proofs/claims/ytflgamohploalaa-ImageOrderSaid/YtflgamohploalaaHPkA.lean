/- Package pack: numbers as bytes: plain laws. -/
import Derived.Test.YtflgamohploalaaHEw7
namespace Go.Proofs.Ytflgamohploalaa
set_option linter.unusedSimpArgs false
set_option linter.unusedVariables false
open Go.RowKit EV
open SX (Wr Tv Qu Rm Sh Is)
open EW (Bt nums)
set_option maxRecDepth 20000
/-- Bytes. -/
abbrev By (l : List Int) : Prop := ∀ x ∈ l, 0 ≤ x ∧ x < 256
end Go.Proofs.Ytflgamohploalaa
