/- Package wide: Sub, Cmp, Sign, MulDiv; the document's Cut. -/
import Derived.Test.YthclhmdgfekaeaaHZW
import Derived.Test.YthclhmdgfekaeaaHBgF
namespace Go.Proofs.Ythclhmdgfekaeaa
set_option linter.unusedSimpArgs false
set_option linter.unusedVariables false
open Go.RowKit EV
open SX (Wr Tv Qu Rm Sh Is conjP eqs_iff eqs_false)
open EW (PlL PlT PlV PlVs LfV Mm Bt Opn GV nums)
set_option maxRecDepth 20000
def iV (z : Int) : Int := if -9223372036854775808 ≤ z ∧ z ≤ 9223372036854775807 then z else 0
def iE (z : Int) : Int := if -9223372036854775808 ≤ z ∧ z ≤ 9223372036854775807 then 0 else 20
theorem wint' (z : Int) (w : World) (hz : In128 z) : Calls Try.prog 72 #[W2 z] w fun e w' => e = .returned (.tuple #[.int .i64 (iV z), .int .i64 (iE z)]) ∧ Below w.heap.size w w' := wint z w hz
theorem dQ_in {z c : Int} (hz : In128 z) : In128 (dQ z c) := by
  unfold dQ; split
  · exact ⟨by omega, by omega⟩
  · split
    · assumption
    · exact ⟨by omega, by omega⟩
def mdE (a b c : Int) : Int := if dE (a * b) c = 0 then iE (dQ (a * b) c) else dE (a * b) c
def mdV (a b c : Int) : Int := if dE (a * b) c = 0 then iV (dQ (a * b) c) else 0
theorem wmuldiv (a b c : Int) (w : World) (ha0 : -9223372036854775808 ≤ a) (ha1 : a ≤ 9223372036854775807) (hb0 : -9223372036854775808 ≤ b) (hb1 : b ≤ 9223372036854775807) (hc0 : -9223372036854775808 ≤ c) (hc1 : c ≤ 9223372036854775807) : Calls Try.prog 58 #[.int .i64 a, .int .i64 b, .int .i64 c] w fun e w' => e = .returned (.tuple #[.int .i64 (mdV a b c), .int .i64 (mdE a b c)]) ∧ Below w.heap.size w w' := by
  have h1 := fun w => wmul a b w ha0 ha1 hb0 hb1
  have hp := prod128 ha0 ha1 hb0 hb1
  unfold mdV mdE
  generalize a * b = p at *
  have h2 := fun w => wdiv p c w hp hc0 hc1
  have hd := dQ_in (c := c) hp
  generalize dQ p c = q at *
  generalize dE p c = e at *
  generalize dR p c = r at *
  have h3 := fun w => wint' q w hd
  refine EW.eEnter Try.func58 rfl Try.ntmps58 ?_
  all_goals try (refine EW.nm ?_)
  all_goals try ((first | refine EW.eRegL (id := 0) ?_ | refine EW.eReg (id := 0) ?_); refine EW.eAssign ?_; refine EW.eAssign ?_; refine EW.eEnd ?_; (try refine EW.nm ?_))
  all_goals try ((first | refine EW.eRegL (id := 1) ?_ | refine EW.eReg (id := 1) ?_); refine EW.eMove ?_; refine EW.eMove ?_; refine EW.eCall Try.call75 (fun w => h1 w) ?_; refine EW.eMove ?_; refine EW.eCall Try.call71 (fun w => h2 w) ?_; refine EW.eMove ?_; (first | refine EW.eExtC ?_ | refine EW.eExtA ?_); (first | refine EW.eExtC ?_ | refine EW.eExtA ?_); (first | refine EW.eExtC ?_ | refine EW.eExtA ?_); refine EW.eAlloc ?_; (first | refine EW.eStoreW (k := 2) ?_ | refine EW.eStore (k := 2) ?_); refine EW.eAssign ?_; refine EW.eAssign ?_; refine EW.eEnd ?_; (try refine EW.nm ?_))
  all_goals try ((first | refine EW.eRegL (id := 2) ?_ | refine EW.eReg (id := 2) ?_); refine EW.eMove ?_; refine EW.eNeq ?_; refine EW.eEnd ?_; (try refine EW.nm ?_))
  all_goals try (first | refine EW.eYes (x := Operand.tmp 21) ?_ | refine EW.eNo (x := Operand.tmp 21) ?_ | (refine EW.eCond (x := Operand.tmp 21) ?_ ?_ <;> (intro hb hb'; (try dsimp only at hb'); (try (exfalso; first | omega | with_reducible exact absurd rfl hb')))))
  all_goals try (refine EW.nm ?_)
  all_goals try ((first | refine EW.eRegL (id := 3) ?_ | refine EW.eReg (id := 3) ?_); refine EW.eMove ?_; refine EW.eAssign ?_; refine EW.eAssign ?_; refine EW.eEnd ?_; (try refine EW.nm ?_))
  all_goals try (with_reducible refine EW.parkK ?_)
  all_goals try ((first | refine EW.eRegL (id := 4) ?_ | refine EW.eReg (id := 4) ?_); refine EW.eLoadA (k := 2) ?_; refine EW.eCall Try.call72 (fun w => h3 w) ?_; (first | refine EW.eExtC ?_ | refine EW.eExtA ?_); (first | refine EW.eExtC ?_ | refine EW.eExtA ?_); refine EW.eAssign ?_; refine EW.eAssign ?_; refine EW.eEnd ?_; (try refine EW.nm ?_))
  all_goals try (with_reducible refine EW.parkK ?_)
  all_goals try (refine EW.Park.mk ?_)
  all_goals (refine EW.eLeaveP ?_; intro w' hW; refine ⟨?_, hW⟩)
  all_goals simp [*]
end Go.Proofs.Ythclhmdgfekaeaa
