/- image: nearer, Over; the document's. -/
import Derived.Test.YtflgamohploalaaHImH
import Derived.Test.YtflgamohploalaaHPxO
namespace Go.Proofs.Ytflgamohploalaa
set_option linter.unusedSimpArgs false
set_option linter.unusedVariables false
open Go.RowKit EV
open SX (Wr Tv Qu Rm Sh Is conjP eqs_iff eqs_false)
open EW (PlL PlT PlV PlVs LfV Mm Bt Opn GV YT lpOf nums)
set_option maxRecDepth 20000
theorem set_at {y : List Px} {i q : Nat} {p : Px} (hi : i < y.length) : (y.set i p).getD q Px.zero = if q = i then p else y.getD q Px.zero := by
  rw [List.getD_eq_getElem?_getD, List.getD_eq_getElem?_getD, List.getElem?_set]
  by_cases h : i = q
  · subst h; simp [hi]
  · rw [if_neg h, if_neg (fun e => h e.symm)]
instance (j : Nat) (l : List Px) (z o t c : Int) : EW.PutA (j * 4) [.int .u32 z, .int .i64 o, .int .i64 t, .int .u32 c] (pvs l) (pvs (l.set j ⟨z, o, t, c⟩)) (j < l.length) := ⟨fun h => pvs_put l j ⟨z, o, t, c⟩ h⟩
end Go.Proofs.Ytflgamohploalaa
