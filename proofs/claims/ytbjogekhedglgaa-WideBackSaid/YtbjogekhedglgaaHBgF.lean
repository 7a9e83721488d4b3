/- The document's numbers: of api.Wide. -/
import Derived.Test.YtbjogekhedglgaaHZG
namespace Go.Proofs.Ytbjogekhedglgaa
set_option linter.unusedSimpArgs false
set_option linter.unusedVariables false
open Go.RowKit EV
open SX (Wr Tv Qu Rm Sh Is conjP eqs_iff eqs_false)
open EW (PlL PlT PlV PlVs LfV Mm Bt Opn GV)
set_option maxRecDepth 20000
theorem rcut (z : Int) (w : World) (h : z.natAbs < 1606938044258990275541962092341162602522202993782792835301376) : Calls Try.prog 14 #[BZ z] w fun e w' => e = .returned (if -170141183460469231731687303715884105728 ≤ z ∧ z < 170141183460469231731687303715884105728 then .tuple #[W2 z, .int .i64 0] else .tuple #[W2 0, .int .i64 20]) ∧ Below w.heap.size w w' := by
  by_cases hz : -170141183460469231731687303715884105728 ≤ z ∧ z < 170141183460469231731687303715884105728
  · have := fun w => rto z w h
    rw [if_pos hz]
    simp only [if_pos hz] at this
    refine EW.eEnter Try.func14 rfl Try.ntmps14 ?_
    all_goals try (refine EW.nm ?_)
    all_goals try ((first | refine EW.eRegL (id := 0) ?_ | refine EW.eReg (id := 0) ?_); refine EW.eBox ?_; refine EW.eAlloc ?_; refine EW.eAssign ?_; refine EW.eEnd ?_; (try refine EW.nm ?_))
    all_goals try ((first | refine EW.eRegL (id := 1) ?_ | refine EW.eReg (id := 1) ?_); refine EW.eLoadA (k := 21) ?_; refine EW.eCall Try.call10 (fun w => this w) ?_; refine EW.eMove ?_; (first | refine EW.eExtC ?_ | refine EW.eExtA ?_); (first | refine EW.eExtC ?_ | refine EW.eExtA ?_); refine EW.eAlloc ?_; (first | refine EW.eStoreW (k := 2) ?_ | refine EW.eStore (k := 2) ?_); refine EW.eAssign ?_; refine EW.eEnd ?_; (try refine EW.nm ?_))
    all_goals try ((first | refine EW.eRegL (id := 2) ?_ | refine EW.eReg (id := 2) ?_); refine EW.eMove ?_; refine EW.eNot ?_; refine EW.eEnd ?_; (try refine EW.nm ?_))
    all_goals try (first | refine EW.eYes (x := Operand.tmp 12) ?_ | refine EW.eNo (x := Operand.tmp 12) ?_ | (refine EW.eCond (x := Operand.tmp 12) ?_ ?_ <;> (intro hb hb'; (try dsimp only at hb'); (try (exfalso; first | omega | with_reducible exact absurd rfl hb')))))
    all_goals try (refine EW.nm ?_)
    all_goals try ((first | refine EW.eRegL (id := 3) ?_ | refine EW.eReg (id := 3) ?_); refine EW.eBuild (place := fun i => [(0, 1), (1, 1)][i]?) ?_; (first | refine EW.eStoreW (k := 2) ?_ | refine EW.eStore (k := 2) ?_); refine EW.eAssign ?_; refine EW.eEnd ?_; (try refine EW.nm ?_))
    all_goals try ((first | refine EW.eRegL (id := 4) ?_ | refine EW.eReg (id := 4) ?_); refine EW.eLoadA (k := 2) ?_; (first | refine EW.eStoreW (k := 2) ?_ | refine EW.eStore (k := 2) ?_); refine EW.eAssign ?_; refine EW.eEnd ?_; (try refine EW.nm ?_))
    all_goals (refine EW.eLeaveP ?_; intro w' hW; refine ⟨?_, hW⟩)
    all_goals rfl
  · have := fun w => rto z w h
    rw [if_neg hz]
    simp only [if_neg hz] at this
    refine EW.eEnter Try.func14 rfl Try.ntmps14 ?_
    all_goals try (refine EW.nm ?_)
    all_goals try ((first | refine EW.eRegL (id := 0) ?_ | refine EW.eReg (id := 0) ?_); refine EW.eBox ?_; refine EW.eAlloc ?_; refine EW.eAssign ?_; refine EW.eEnd ?_; (try refine EW.nm ?_))
    all_goals try ((first | refine EW.eRegL (id := 1) ?_ | refine EW.eReg (id := 1) ?_); refine EW.eLoadA (k := 21) ?_; refine EW.eCall Try.call10 (fun w => this w) ?_; refine EW.eMove ?_; (first | refine EW.eExtC ?_ | refine EW.eExtA ?_); (first | refine EW.eExtC ?_ | refine EW.eExtA ?_); refine EW.eAlloc ?_; (first | refine EW.eStoreW (k := 2) ?_ | refine EW.eStore (k := 2) ?_); refine EW.eAssign ?_; refine EW.eEnd ?_; (try refine EW.nm ?_))
    all_goals try ((first | refine EW.eRegL (id := 2) ?_ | refine EW.eReg (id := 2) ?_); refine EW.eMove ?_; refine EW.eNot ?_; refine EW.eEnd ?_; (try refine EW.nm ?_))
    all_goals try (first | refine EW.eYes (x := Operand.tmp 12) ?_ | refine EW.eNo (x := Operand.tmp 12) ?_ | (refine EW.eCond (x := Operand.tmp 12) ?_ ?_ <;> (intro hb hb'; (try dsimp only at hb'); (try (exfalso; first | omega | with_reducible exact absurd rfl hb')))))
    all_goals try (refine EW.nm ?_)
    all_goals try ((first | refine EW.eRegL (id := 3) ?_ | refine EW.eReg (id := 3) ?_); refine EW.eBuild (place := fun i => [(0, 1), (1, 1)][i]?) ?_; (first | refine EW.eStoreW (k := 2) ?_ | refine EW.eStore (k := 2) ?_); refine EW.eAssign ?_; refine EW.eEnd ?_; (try refine EW.nm ?_))
    all_goals try ((first | refine EW.eRegL (id := 4) ?_ | refine EW.eReg (id := 4) ?_); refine EW.eLoadA (k := 2) ?_; (first | refine EW.eStoreW (k := 2) ?_ | refine EW.eStore (k := 2) ?_); refine EW.eAssign ?_; refine EW.eEnd ?_; (try refine EW.nm ?_))
    all_goals (refine EW.eLeaveP ?_; intro w' hW; refine ⟨?_, hW⟩)
    all_goals rfl
end Go.Proofs.Ytbjogekhedglgaa
