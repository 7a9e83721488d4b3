/- Package wide: Sub, Cmp, Sign, MulDiv; the document's Cut. -/
import Derived.Test.YtbjogekhedglgaaHZW
import Derived.Test.YtbjogekhedglgaaHBgF
namespace Go.Proofs.Ytbjogekhedglgaa
set_option linter.unusedSimpArgs false
set_option linter.unusedVariables false
open Go.RowKit EV
open SX (Wr Tv Qu Rm Sh Is conjP eqs_iff eqs_false)
open EW (PlL PlT PlV PlVs LfV Mm Bt Opn GV nums)
set_option maxRecDepth 20000
theorem rcutV (z : Int) (w : World) (h : z.natAbs < 1606938044258990275541962092341162602522202993782792835301376) : Calls Try.prog 14 #[BZ z] w fun e w' => e = .returned (.tuple #[W2 (wV z), .int .i64 (wE z)]) ∧ Below w.heap.size w w' := by
  refine (rcut z w h).mono ?_
  rintro e w' ⟨rfl, hb⟩
  refine ⟨?_, hb⟩
  unfold wV wE
  by_cases hz : In128 z
  · rw [if_pos hz, if_pos hz, if_pos hz]
  · rw [if_neg hz, if_neg hz, if_neg hz]
end Go.Proofs.Ytbjogekhedglgaa
