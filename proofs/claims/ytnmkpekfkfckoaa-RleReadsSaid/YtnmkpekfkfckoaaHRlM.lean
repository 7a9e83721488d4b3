/- RleWrites: whatever comes in. -/
import Derived.Test.YtnmkpekfkfckoaaHRlL
import Derived.Test.YtnmkpekfkfckoaaHRow5
namespace Go.Proofs.Ytnmkpekfkfckoaa
set_option linter.unusedSimpArgs false
set_option linter.unusedVariables false
open Go.RowKit Go.ChangeShapes Go.WideShapes EV
open SX (Wr Tv Qu Rm Sh Is conjP eqs_iff eqs_false)
open EW (PlL PlT PlV PlVs LfV Mm Bt Opn GV YT lpOf nums)
set_option maxRecDepth 20000
theorem wf_of {l : List Px} (h : ∀ p ∈ l, p.wf) (i : Nat) (hi : i < l.length) : (l.getD i Px.zero).wf := by
  rw [List.getD_eq_getElem?_getD, List.getElem?_eq_getElem hi]
  exact h _ (List.getElem_mem hi)
end Go.Proofs.Ytnmkpekfkfckoaa
