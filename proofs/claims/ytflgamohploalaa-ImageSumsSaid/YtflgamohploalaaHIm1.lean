/- image: Set, Same; the document's. -/
import Derived.Test.YtflgamohploalaaHIm0
import Derived.Test.YtflgamohploalaaHEwJ
namespace Go.Proofs.Ytflgamohploalaa
set_option linter.unusedSimpArgs false
set_option linter.unusedVariables false
open Go.RowKit EV
open SX (Wr Tv Qu Rm Sh Is conjP eqs_iff eqs_false)
open EW (PlL PlT PlV PlVs LfV Mm Bt Opn GV YT lpOf nums)
set_option maxRecDepth 20000
theorem pvs_at (l : List Px) (j k : Nat) (h : j < l.length) (hk : k < 4) : (pvs l)[j * 4 + k]? = (l.getD j Px.zero).vals[k]? := by
  have := congrArg (fun x => x[k]?) (pvs_cut l j h)
  rw [List.getElem?_take, if_pos hk, List.getElem?_drop] at this
  rw [this, List.getD_eq_getElem?_getD, List.getElem?_eq_getElem h]
  rfl
instance (l : List Px) (j : Nat) : EW.GetC ((pvs l).map C.v) (j * 4) (.v (.int .u32 (l.getD j Px.zero).z)) (j < l.length) := ⟨fun h => by
  rw [List.getElem?_map, ← Nat.add_zero (j * 4), pvs_at l j 0 h (by omega)]; rfl⟩
noncomputable def WP (o : Bool) (l : List Px) : Ws := [(.l 0, .l true), (.b 0, .b (.w o (pvs l)))]
end Go.Proofs.Ytflgamohploalaa
