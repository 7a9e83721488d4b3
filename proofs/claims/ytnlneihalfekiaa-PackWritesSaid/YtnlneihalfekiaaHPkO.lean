/- PackBack: the walk of the law. -/
import Derived.Test.YtnlneihalfekiaaHPkN
import Derived.Test.YtnlneihalfekiaaHPkP
namespace Go.Proofs.Ytnlneihalfekiaa
set_option linter.unusedSimpArgs false
set_option linter.unusedVariables false
open Go.RowKit EV
open SX (Wr Tv Qu Rm Sh Is conjP eqs_iff eqs_false)
open EW (PlL PlT PlV PlVs LfV Mm Bt Opn GV YT lpOf nums)
set_option maxRecDepth 20000
theorem obs_one (l : List Ob) : ∀ x ∈ obs l, x.oneCell' = true := by
  intro x hx
  obtain ⟨o, _, hx⟩ := List.mem_flatMap.1 hx
  simp only [Ob.vals, List.mem_cons, List.not_mem_nil, or_false] at hx
  rcases hx with rfl | rfl | rfl | rfl | rfl | rfl | rfl <;> rfl
abbrev oc (m : Nat) (o : Ob) : List C := [.v (.int .i64 o.k), .v (.int .u64 o.u), .v (.int .i64 o.i), .v (.int .i64 o.n), .v (.int .i64 o.m), .v (.bool o.f), .g m 0 o.bs.length o.bs.length 1]
end Go.Proofs.Ytnlneihalfekiaa
