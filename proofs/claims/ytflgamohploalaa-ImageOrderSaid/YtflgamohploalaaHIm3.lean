/- image: sized, whole; the document's. -/
import Derived.Test.YtflgamohploalaaHIm2
namespace Go.Proofs.Ytflgamohploalaa
set_option linter.unusedSimpArgs false
set_option linter.unusedVariables false
open Go.RowKit EV
open SX (Wr Tv Qu Rm Sh Is conjP eqs_iff eqs_false)
open EW (PlL PlT PlV PlVs LfV Mm Bt Opn GV YT lpOf nums)
set_option maxRecDepth 20000
abbrev Szd (a b : Int) : Prop := 1 ≤ a ∧ a ≤ 64 ∧ 1 ≤ b ∧ b ≤ 64
theorem min_i (a b : Int) : Mm .min [.int .i64 a, .int .i64 b] .i64 (min a b) := by
  rcases Int.le_total a b with h | h
  · rw [Int.min_eq_left h]; exact Mm.min2l h
  · rw [Int.min_eq_right h]; exact Mm.min2r h
theorem max_i (a b : Int) : Mm .max [.int .i64 a, .int .i64 b] .i64 (max a b) := by
  rcases Int.le_total a b with h | h
  · rw [Int.max_eq_right h]; exact Mm.max2r h
  · rw [Int.max_eq_left h]; exact Mm.max2l h
theorem isized_y (a b : Int) (w : World) (h : Szd a b) : Calls Try.prog 53 #[.int .i64 a, .int .i64 b] w fun e w' => e = .returned (.bool true) ∧ Below w.heap.size w w' := by
  refine EW.eEnter Try.func53 rfl Try.ntmps53 ?_
  all_goals try (refine EW.nm ?_)
  all_goals try ((first | refine EW.eRegL (id := 0) ?_ | refine EW.eReg (id := 0) ?_); refine EW.eAssign ?_; refine EW.eEnd ?_; (try refine EW.nm ?_))
  all_goals try ((first | refine EW.eRegL (id := 1) ?_ | refine EW.eReg (id := 1) ?_); refine EW.eMove ?_; refine EW.eMove ?_; refine EW.eMin ?_ (hr' := min_i a b); refine EW.eGeq ?_; refine EW.eMove ?_)
  all_goals try (refine EW.eGuard (j := 4) (o := ⟨some 10, _, _, _, _, _⟩) ?_ ?_ <;> (intro hb hb'; (try dsimp only at hb'); (try (exfalso; first | omega | with_reducible exact absurd rfl hb'))))
  all_goals try ((first | refine EW.eSkipT (j := 4) ?_ | refine EW.eSkipU (j := 4) ?_ | refine EW.eMove ?_); (first | refine EW.eSkipT (j := 4) ?_ | refine EW.eSkipU (j := 4) ?_ | refine EW.eMove ?_); (first | refine EW.eSkipT (j := 4) ?_ | refine EW.eSkipU (j := 4) ?_ | refine EW.eMax ?_ (hr' := max_i a b)); (first | refine EW.eSkipT (j := 4) ?_ | refine EW.eSkipU (j := 4) ?_ | refine EW.eLeq ?_); (first | refine EW.ePickT ?_ | refine EW.ePickF ?_); refine EW.eAssign ?_; refine EW.eEnd ?_; (try refine EW.nm ?_))
  all_goals try (with_reducible refine EW.parkK ?_)
  all_goals try (refine EW.Park.mk ?_)
  all_goals (refine EW.eLeaveP ?_; intro w' hW; refine ⟨?_, hW⟩)
  all_goals first | rfl | (refine congrArg (fun b => Ending.returned (.bool b)) ?_; simp; omega)
theorem isized_n (a b : Int) (w : World) (h : ¬ Szd a b) : Calls Try.prog 53 #[.int .i64 a, .int .i64 b] w fun e w' => e = .returned (.bool false) ∧ Below w.heap.size w w' := by
  refine EW.eEnter Try.func53 rfl Try.ntmps53 ?_
  all_goals try (refine EW.nm ?_)
  all_goals try ((first | refine EW.eRegL (id := 0) ?_ | refine EW.eReg (id := 0) ?_); refine EW.eAssign ?_; refine EW.eEnd ?_; (try refine EW.nm ?_))
  all_goals try ((first | refine EW.eRegL (id := 1) ?_ | refine EW.eReg (id := 1) ?_); refine EW.eMove ?_; refine EW.eMove ?_; refine EW.eMin ?_ (hr' := min_i a b); refine EW.eGeq ?_; refine EW.eMove ?_)
  all_goals try (refine EW.eGuard (j := 4) (o := ⟨some 10, _, _, _, _, _⟩) ?_ ?_ <;> (intro hb hb'; (try dsimp only at hb'); (try (exfalso; first | omega | with_reducible exact absurd rfl hb'))))
  all_goals try ((first | refine EW.eSkipT (j := 4) ?_ | refine EW.eSkipU (j := 4) ?_ | refine EW.eMove ?_); (first | refine EW.eSkipT (j := 4) ?_ | refine EW.eSkipU (j := 4) ?_ | refine EW.eMove ?_); (first | refine EW.eSkipT (j := 4) ?_ | refine EW.eSkipU (j := 4) ?_ | refine EW.eMax ?_ (hr' := max_i a b)); (first | refine EW.eSkipT (j := 4) ?_ | refine EW.eSkipU (j := 4) ?_ | refine EW.eLeq ?_); (first | refine EW.ePickT ?_ | refine EW.ePickF ?_); refine EW.eAssign ?_; refine EW.eEnd ?_; (try refine EW.nm ?_))
  all_goals try (with_reducible refine EW.parkK ?_)
  all_goals try (refine EW.Park.mk ?_)
  all_goals (refine EW.eLeaveP ?_; intro w' hW; refine ⟨?_, hW⟩)
  all_goals first | rfl | (refine congrArg (fun b => Ending.returned (.bool b)) ?_; simp; omega)
theorem dsized_y (a b : Int) (w : World) (h : Szd a b) : Calls Try.prog 55 #[.int .i64 a, .int .i64 b] w fun e w' => e = .returned (.bool true) ∧ Below w.heap.size w w' := by
  refine EW.eEnter Try.func55 rfl Try.ntmps55 ?_
  all_goals try (refine EW.nm ?_)
  all_goals try ((first | refine EW.eRegL (id := 0) ?_ | refine EW.eReg (id := 0) ?_); refine EW.eAssign ?_; refine EW.eEnd ?_; (try refine EW.nm ?_))
  all_goals try ((first | refine EW.eRegL (id := 1) ?_ | refine EW.eReg (id := 1) ?_); refine EW.eMove ?_; refine EW.eGeq ?_; refine EW.eMove ?_)
  all_goals try (refine EW.eGuard (j := 2) (o := ⟨some 8, _, _, _, _, _⟩) ?_ ?_ <;> (intro hb hb'; (try dsimp only at hb'); (try (exfalso; first | omega | with_reducible exact absurd rfl hb'))))
  all_goals try ((first | refine EW.eSkipT (j := 2) ?_ | refine EW.eSkipU (j := 2) ?_ | refine EW.eMove ?_); (first | refine EW.eSkipT (j := 2) ?_ | refine EW.eSkipU (j := 2) ?_ | refine EW.eLeq ?_); (first | refine EW.ePickT ?_ | refine EW.ePickF ?_); refine EW.eMove ?_)
  all_goals try (refine EW.eGuard (j := 6) (o := ⟨some 12, _, _, _, _, _⟩) ?_ ?_ <;> (intro hb hb'; (try dsimp only at hb'); (try (exfalso; first | omega | with_reducible exact absurd rfl hb'))))
  all_goals try ((first | refine EW.eSkipT (j := 6) ?_ | refine EW.eSkipU (j := 6) ?_ | refine EW.eMove ?_); (first | refine EW.eSkipT (j := 6) ?_ | refine EW.eSkipU (j := 6) ?_ | refine EW.eGeq ?_); (first | refine EW.ePickT ?_ | refine EW.ePickF ?_); refine EW.eMove ?_)
  all_goals try (refine EW.eGuard (j := 10) (o := ⟨some 16, _, _, _, _, _⟩) ?_ ?_ <;> (intro hb hb'; (try dsimp only at hb'); (try (exfalso; first | omega | with_reducible exact absurd rfl hb'))))
  all_goals try ((first | refine EW.eSkipT (j := 10) ?_ | refine EW.eSkipU (j := 10) ?_ | refine EW.eMove ?_); (first | refine EW.eSkipT (j := 10) ?_ | refine EW.eSkipU (j := 10) ?_ | refine EW.eLeq ?_); (first | refine EW.ePickT ?_ | refine EW.ePickF ?_); refine EW.eAssign ?_; refine EW.eEnd ?_; (try refine EW.nm ?_))
  all_goals try (with_reducible refine EW.parkK ?_)
  all_goals try (refine EW.Park.mk ?_)
  all_goals (refine EW.eLeaveP ?_; intro w' hW; refine ⟨?_, hW⟩)
  all_goals first | rfl | (refine congrArg (fun b => Ending.returned (.bool b)) ?_; simp; omega)
theorem dsized_n (a b : Int) (w : World) (h : ¬ Szd a b) : Calls Try.prog 55 #[.int .i64 a, .int .i64 b] w fun e w' => e = .returned (.bool false) ∧ Below w.heap.size w w' := by
  refine EW.eEnter Try.func55 rfl Try.ntmps55 ?_
  all_goals try (refine EW.nm ?_)
  all_goals try ((first | refine EW.eRegL (id := 0) ?_ | refine EW.eReg (id := 0) ?_); refine EW.eAssign ?_; refine EW.eEnd ?_; (try refine EW.nm ?_))
  all_goals try ((first | refine EW.eRegL (id := 1) ?_ | refine EW.eReg (id := 1) ?_); refine EW.eMove ?_; refine EW.eGeq ?_; refine EW.eMove ?_)
  all_goals try (refine EW.eGuard (j := 2) (o := ⟨some 8, _, _, _, _, _⟩) ?_ ?_ <;> (intro hb hb'; (try dsimp only at hb'); (try (exfalso; first | omega | with_reducible exact absurd rfl hb'))))
  all_goals try ((first | refine EW.eSkipT (j := 2) ?_ | refine EW.eSkipU (j := 2) ?_ | refine EW.eMove ?_); (first | refine EW.eSkipT (j := 2) ?_ | refine EW.eSkipU (j := 2) ?_ | refine EW.eLeq ?_); (first | refine EW.ePickT ?_ | refine EW.ePickF ?_); refine EW.eMove ?_)
  all_goals try (refine EW.eGuard (j := 6) (o := ⟨some 12, _, _, _, _, _⟩) ?_ ?_ <;> (intro hb hb'; (try dsimp only at hb'); (try (exfalso; first | omega | with_reducible exact absurd rfl hb'))))
  all_goals try ((first | refine EW.eSkipT (j := 6) ?_ | refine EW.eSkipU (j := 6) ?_ | refine EW.eMove ?_); (first | refine EW.eSkipT (j := 6) ?_ | refine EW.eSkipU (j := 6) ?_ | refine EW.eGeq ?_); (first | refine EW.ePickT ?_ | refine EW.ePickF ?_); refine EW.eMove ?_)
  all_goals try (refine EW.eGuard (j := 10) (o := ⟨some 16, _, _, _, _, _⟩) ?_ ?_ <;> (intro hb hb'; (try dsimp only at hb'); (try (exfalso; first | omega | with_reducible exact absurd rfl hb'))))
  all_goals try ((first | refine EW.eSkipT (j := 10) ?_ | refine EW.eSkipU (j := 10) ?_ | refine EW.eMove ?_); (first | refine EW.eSkipT (j := 10) ?_ | refine EW.eSkipU (j := 10) ?_ | refine EW.eLeq ?_); (first | refine EW.ePickT ?_ | refine EW.ePickF ?_); refine EW.eAssign ?_; refine EW.eEnd ?_; (try refine EW.nm ?_))
  all_goals try (with_reducible refine EW.parkK ?_)
  all_goals try (refine EW.Park.mk ?_)
  all_goals (refine EW.eLeaveP ?_; intro w' hW; refine ⟨?_, hW⟩)
  all_goals first | rfl | (refine congrArg (fun b => Ending.returned (.bool b)) ?_; simp; omega)
end Go.Proofs.Ytflgamohploalaa
