/- image: New, Merge; the document's. -/
import Derived.Test.YtflgamohploalaaHImN
namespace Go.Proofs.Ytflgamohploalaa
set_option linter.unusedSimpArgs false
set_option linter.unusedVariables false
open Go.RowKit EV
open SX (Wr Tv Qu Rm Sh Is conjP eqs_iff eqs_false)
open EW (PlL PlT PlV PlVs LfV Mm Bt Opn GV YT lpOf nums)
set_option maxRecDepth 20000
set_option linter.unusedSectionVars false
theorem sp_of_im {w h : Int} {l : List Px} (hi : imOk w h l) : spOk l := ⟨by have := sz_mul hi.1; have := hi.2.1; omega, hi.2.2⟩
theorem im_len {w h : Int} {l : List Px} (hi : imOk w h l) : l.length ≤ 4096 := (sp_of_im hi).1
end Go.Proofs.Ytflgamohploalaa
