/- ClipEdges: the walk. -/
import Derived.Test.YthclhmdgfekaeaaHCl3
namespace Go.Proofs.Ythclhmdgfekaeaa
set_option linter.unusedSimpArgs false
set_option linter.unusedVariables false
open Go.RowKit EV
open SX (Wr Tv Qu Rm Sh Is conjP eqs_iff eqs_false)
open EW (PlL PlT PlV PlVs LfV Mm Bt Opn GV nums)
set_option maxRecDepth 20000
abbrev Btw (a b x : Int) : Prop := (a ≤ x ∧ x ≤ b) ∨ (b ≤ x ∧ x ≤ a)
theorem btw {a b P Q : Int} (h0 : 0 ≤ P) (h1 : Q < 0) : Btw a b (a + cq (b - a) P (P - Q)) := by
  have := cq_bd (D := b - a) (P := P) (C := P - Q) h0 (by omega)
  unfold Btw; omega
theorem sm_btw {a b x : Int} (ha : Sm a) (hB : Sm b) (h : Btw a b x) : Sm x := by unfold Btw at h; unfold Sm at *; omega
end Go.Proofs.Ythclhmdgfekaeaa
