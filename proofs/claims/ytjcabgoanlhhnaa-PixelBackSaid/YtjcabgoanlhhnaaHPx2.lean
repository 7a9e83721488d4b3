/- Package pixel: Cmp, Near, Of; the document's Of. -/
import Derived.Test.YtjcabgoanlhhnaaHPx1
import Derived.Test.YtjcabgoanlhhnaaHZE
namespace Go.Proofs.Ytjcabgoanlhhnaa
set_option linter.unusedSimpArgs false
set_option linter.unusedVariables false
open Go.RowKit EV
open SX (Wr Tv Qu Rm Sh Is conjP eqs_iff eqs_false)
open EW (PlL PlT PlV PlVs LfV Mm Bt Opn GV)
set_option maxRecDepth 20000
def Px.zero : Px := ⟨0, 0, 0, 0⟩
theorem pcheck_is (p : Px) (r : Int) (w : World) (h : (if p.may then 0 else 130) = r) : Calls Try.prog 10 #[p.val] w fun e w' => e = .returned (.int .i64 r) ∧ Below w.heap.size w w' := h ▸ pcheck p w
theorem rmay_is (p : Px) (r : Bool) (w : World) (h : decide p.may = r) : Calls Try.prog 16 #[p.val] w fun e w' => e = .returned (.bool r) ∧ Below w.heap.size w w' := h ▸ rmay p w
end Go.Proofs.Ytjcabgoanlhhnaa
