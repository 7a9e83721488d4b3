/- view: the law's alive. (The same proof as in Vp1, which cannot be imported beside ZN.) -/
import Derived.Test.YthclhmdgfekaeaaHVt6
namespace Go.Proofs.Ythclhmdgfekaeaa
set_option linter.unusedSimpArgs false
set_option linter.unusedVariables false
open Go.RowKit EV
open SX (Wr Tv Qu Rm Sh Is conjP eqs_iff eqs_false)
open EW (PlL PlT PlV PlVs LfV Mm Bt Opn GV YT lpOf nums)
set_option maxRecDepth 20000
theorem valive (w : World) : Calls Try.prog 12 #[] w fun e w' => e = .returned (.bool true) ∧ Below w.heap.size w w' := by
  have c1 : ∀ w : World, Calls Try.prog 13 #[V4 0 0 0 4096, .int .i64 4, .int .i64 2] w fun e w' => e = .returned (.tuple #[.agg #[.int .i64 32, .int .i64 16, .int .i64 0], .int .i64 0]) ∧ Below w.heap.size w w' := fun w => by
    have := vcorner_y 0 0 0 4096 4 2 w (by decide) (by decide)
    rwa [show crX 0 4096 4 = 32 by decide +kernel, show crY 0 4096 2 = 16 by decide +kernel, show crZ 0 4096 = 0 by decide +kernel] at this
  have c2 : ∀ w : World, Calls Try.prog 13 #[V4 4096 4096 4096 4096, .int .i64 4, .int .i64 2] w fun e w' => e = .returned (.tuple #[.agg #[.int .i64 64, .int .i64 0, .int .i64 16777215], .int .i64 0]) ∧ Below w.heap.size w w' := fun w => by
    have := vcorner_y 4096 4096 4096 4096 4 2 w (by decide) (by decide)
    rwa [show crX 4096 4096 4 = 64 by decide +kernel, show crY 4096 4096 2 = 0 by decide +kernel, show crZ 4096 4096 = 16777215 by decide +kernel] at this
  have c3 : ∀ w : World, Calls Try.prog 13 #[V4 (-1) (-1) 1 4096, .int .i64 4, .int .i64 2] w fun e w' => e = .returned (.tuple #[.agg #[.int .i64 31, .int .i64 16, .int .i64 4095], .int .i64 0]) ∧ Below w.heap.size w w' := fun w => by
    have := vcorner_y (-1) (-1) 1 4096 4 2 w (by decide) (by decide)
    rwa [show crX (-1) 4096 4 = 31 by decide +kernel, show crY (-1) 4096 2 = 16 by decide +kernel, show crZ 1 4096 = 4095 by decide +kernel] at this
  refine EW.eEnter Try.func12 rfl Try.ntmps12 ?_
  all_goals try (refine EW.nm ?_)
  all_goals try ((first | refine EW.eRegL (id := 0) ?_ | refine EW.eReg (id := 0) ?_); refine EW.eAssign ?_; refine EW.eEnd ?_; (try refine EW.nm ?_))
  all_goals try ((first | refine EW.eRegL (id := 1) ?_ | refine EW.eReg (id := 1) ?_); refine EW.eBuild (place := fun i => some (i * 1, 1)) ?_; (first | refine EW.eCall Try.call13 (fun w => c1 w) ?_ | refine EW.eCall Try.call13 (fun w => c2 w) ?_ | refine EW.eCall Try.call13 (fun w => c3 w) ?_); refine EW.eMove ?_; (first | refine EW.eExtC ?_ | refine EW.eExtA ?_); (first | refine EW.eExtC ?_ | refine EW.eExtA ?_); refine EW.eAlloc ?_; (first | refine EW.eStoreW (k := 3) ?_ | refine EW.eStore (k := 3) ?_); refine EW.eAssign ?_; refine EW.eEnd ?_; (try refine EW.nm ?_))
  all_goals try ((first | refine EW.eRegL (id := 2) ?_ | refine EW.eReg (id := 2) ?_); refine EW.eBuild (place := fun i => some (i * 1, 1)) ?_; (first | refine EW.eCall Try.call13 (fun w => c1 w) ?_ | refine EW.eCall Try.call13 (fun w => c2 w) ?_ | refine EW.eCall Try.call13 (fun w => c3 w) ?_); refine EW.eMove ?_; (first | refine EW.eExtC ?_ | refine EW.eExtA ?_); (first | refine EW.eExtC ?_ | refine EW.eExtA ?_); refine EW.eAlloc ?_; (first | refine EW.eStoreW (k := 3) ?_ | refine EW.eStore (k := 3) ?_); refine EW.eAssign ?_; refine EW.eEnd ?_; (try refine EW.nm ?_))
  all_goals try ((first | refine EW.eRegL (id := 3) ?_ | refine EW.eReg (id := 3) ?_); refine EW.eBuild (place := fun i => some (i * 1, 1)) ?_; (first | refine EW.eCall Try.call13 (fun w => c1 w) ?_ | refine EW.eCall Try.call13 (fun w => c2 w) ?_ | refine EW.eCall Try.call13 (fun w => c3 w) ?_); refine EW.eMove ?_; (first | refine EW.eExtC ?_ | refine EW.eExtA ?_); (first | refine EW.eExtC ?_ | refine EW.eExtA ?_); refine EW.eAlloc ?_; (first | refine EW.eStoreW (k := 3) ?_ | refine EW.eStore (k := 3) ?_); refine EW.eAssign ?_; refine EW.eEnd ?_; (try refine EW.nm ?_))
  all_goals try ((first | refine EW.eRegL (id := 4) ?_ | refine EW.eReg (id := 4) ?_); refine EW.eLoadA (k := 3) ?_; refine EW.eBuild (place := fun i => [(0, 1), (1, 1), (2, 1)][i]?) ?_; refine EW.eEqlA ?_; refine EW.eMove ?_)
  all_goals try (refine EW.eGuard (j := 3) (o := ⟨some 26, _, _, _, _, _⟩) ?_ ?_ <;> (intro hb hb'; (try dsimp only at hb'); (try (exfalso; first | omega | with_reducible exact absurd rfl hb'))))
  all_goals try ((first | refine EW.eSkipT (j := 3) ?_ | refine EW.eSkipU (j := 3) ?_ | refine EW.eMove ?_); (first | refine EW.eSkipT (j := 3) ?_ | refine EW.eSkipU (j := 3) ?_ | refine EW.eEql ?_); (first | refine EW.ePickT ?_ | refine EW.ePickF ?_); refine EW.eMove ?_)
  all_goals try (refine EW.eGuard (j := 7) (o := ⟨some 30, _, _, _, _, _⟩) ?_ ?_ <;> (intro hb hb'; (try dsimp only at hb'); (try (exfalso; first | omega | with_reducible exact absurd rfl hb'))))
  all_goals try ((first | refine EW.eSkipT (j := 7) ?_ | refine EW.eSkipU (j := 7) ?_ | refine EW.eLoadA (k := 3) ?_); (first | refine EW.eSkipT (j := 7) ?_ | refine EW.eSkipU (j := 7) ?_ | refine EW.eBuild (place := fun i => [(0, 1), (1, 1), (2, 1)][i]?) ?_); (first | refine EW.eSkipT (j := 7) ?_ | refine EW.eSkipU (j := 7) ?_ | refine EW.eEqlA ?_); (first | refine EW.ePickT ?_ | refine EW.ePickF ?_); refine EW.eMove ?_)
  all_goals try (refine EW.eGuard (j := 12) (o := ⟨some 35, _, _, _, _, _⟩) ?_ ?_ <;> (intro hb hb'; (try dsimp only at hb'); (try (exfalso; first | omega | with_reducible exact absurd rfl hb'))))
  all_goals try ((first | refine EW.eSkipT (j := 12) ?_ | refine EW.eSkipU (j := 12) ?_ | refine EW.eMove ?_); (first | refine EW.eSkipT (j := 12) ?_ | refine EW.eSkipU (j := 12) ?_ | refine EW.eEql ?_); (first | refine EW.ePickT ?_ | refine EW.ePickF ?_); refine EW.eMove ?_)
  all_goals try (refine EW.eGuard (j := 16) (o := ⟨some 39, _, _, _, _, _⟩) ?_ ?_ <;> (intro hb hb'; (try dsimp only at hb'); (try (exfalso; first | omega | with_reducible exact absurd rfl hb'))))
  all_goals try ((first | refine EW.eSkipT (j := 16) ?_ | refine EW.eSkipU (j := 16) ?_ | refine EW.eLoadA (k := 3) ?_); (first | refine EW.eSkipT (j := 16) ?_ | refine EW.eSkipU (j := 16) ?_ | refine EW.eBuild (place := fun i => [(0, 1), (1, 1), (2, 1)][i]?) ?_); (first | refine EW.eSkipT (j := 16) ?_ | refine EW.eSkipU (j := 16) ?_ | refine EW.eEqlA ?_); (first | refine EW.ePickT ?_ | refine EW.ePickF ?_); refine EW.eMove ?_)
  all_goals try (refine EW.eGuard (j := 21) (o := ⟨some 44, _, _, _, _, _⟩) ?_ ?_ <;> (intro hb hb'; (try dsimp only at hb'); (try (exfalso; first | omega | with_reducible exact absurd rfl hb'))))
  all_goals try ((first | refine EW.eSkipT (j := 21) ?_ | refine EW.eSkipU (j := 21) ?_ | refine EW.eMove ?_); (first | refine EW.eSkipT (j := 21) ?_ | refine EW.eSkipU (j := 21) ?_ | refine EW.eEql ?_); (first | refine EW.ePickT ?_ | refine EW.ePickF ?_); refine EW.eAssign ?_; refine EW.eEnd ?_; (try refine EW.nm ?_))
  all_goals try (with_reducible refine EW.parkK ?_)
  all_goals try (refine EW.Park.mk ?_)
  all_goals (refine EW.eLeaveP ?_; intro w' hW; refine ⟨?_, hW⟩)
  all_goals rfl
end Go.Proofs.Ythclhmdgfekaeaa
