/- ImageSpans: the walk. -/
import Derived.Test.YtflgamohploalaaHImJ
import Derived.Test.YtflgamohploalaaHImE
namespace Go.Proofs.Ytflgamohploalaa
set_option linter.unusedSimpArgs false
set_option linter.unusedVariables false
open Go.RowKit Go.ChangeShapes Go.WideShapes EV
open SX (Wr Tv Qu Rm Sh Is conjP eqs_iff eqs_false)
open EW (PlL PlT PlV PlVs LfV Mm Bt Opn GV YT lpOf nums)
set_option maxRecDepth 20000
instance (j : Nat) (l : List Px) (x : Int) : EW.PutA (j * 4 + 1) [.int .i64 x] (pvs l) (pvs (l.set j ⟨(l.getD j Px.zero).z, x, (l.getD j Px.zero).t, (l.getD j Px.zero).c⟩)) (j < l.length) := ⟨fun h => by
  induction l generalizing j with
  | nil => simp at h
  | cons p l ih =>
    cases j with
    | zero => rfl
    | succ j =>
      have := ih j (by simpa using h)
      rw [show (j + 1) * 4 + 1 = j * 4 + 1 + 1 + 1 + 1 + 1 by omega]
      simp only [pvs, List.flatMap_cons, List.set_cons_succ, List.getD_cons_succ] at this ⊢
      simp only [Px.vals, List.cons_append, List.nil_append, putL]
      exact congrArg _ (congrArg _ (congrArg _ (congrArg _ this)))⟩
end Go.Proofs.Ytflgamohploalaa
