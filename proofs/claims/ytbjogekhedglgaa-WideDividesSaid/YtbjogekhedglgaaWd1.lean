/- Package wide: Of, size, turned, plus, Add, Mul. -/
import Derived.Test.YtbjogekhedglgaaWd0
namespace Go.Proofs.Ytbjogekhedglgaa
set_option linter.unusedSimpArgs false
set_option linter.unusedVariables false
open Go.RowKit EV
open SX (Wr Tv Qu Rm Sh Is conjP eqs_iff eqs_false)
open EW (PlL PlT PlV PlVs LfV Mm Bt Opn GV nums)
set_option maxRecDepth 20000
theorem wof (n : Int) (w : World) (h0 : -9223372036854775808 ≤ n) (h1 : n ≤ 9223372036854775807) : Calls Try.prog 22 #[.int .i64 n] w fun e w' => e = .returned (W2 n) ∧ Below w.heap.size w w' := by
  refine EW.eEnter Try.func22 rfl Try.ntmps22 ?_
  all_goals try (refine EW.nm ?_)
  all_goals try ((first | refine EW.eRegL (id := 0) ?_ | refine EW.eReg (id := 0) ?_); refine EW.eAlloc ?_; refine EW.eEnd ?_; (try refine EW.nm ?_))
  all_goals try ((first | refine EW.eRegL (id := 1) ?_ | refine EW.eReg (id := 1) ?_); refine EW.eMove ?_; refine EW.eShr ?_; refine EW.eMove ?_; refine EW.eConv ?_; refine EW.eBuild (place := fun i => [(0, 1), (1, 1)][i]?) ?_; (first | refine EW.eStoreW (k := 2) ?_ | refine EW.eStore (k := 2) ?_); refine EW.eEnd ?_; (try refine EW.nm ?_))
  all_goals (refine EW.eLeaveP ?_; intro w' hW; refine ⟨?_, hW⟩)
  all_goals exact w2_eq (by omega) rfl
theorem wsize (n : Int) (w : World) (h0 : -9223372036854775808 ≤ n) (h1 : n ≤ 9223372036854775807) : Calls Try.prog 41 #[.int .i64 n] w fun e w' => e = .returned (.int .u64 (n.natAbs : Int)) ∧ Below w.heap.size w w' := by
  refine EW.eEnter Try.func41 rfl Try.ntmps41 ?_
  all_goals try (refine EW.nm ?_)
  all_goals try ((first | refine EW.eRegL (id := 0) ?_ | refine EW.eReg (id := 0) ?_); refine EW.eAssign ?_; refine EW.eEnd ?_; (try refine EW.nm ?_))
  all_goals try ((first | refine EW.eRegL (id := 1) ?_ | refine EW.eReg (id := 1) ?_); refine EW.eMove ?_; refine EW.eLss ?_; refine EW.eEnd ?_; (try refine EW.nm ?_))
  all_goals try (first | refine EW.eYes (x := Operand.tmp 4) ?_ | refine EW.eNo (x := Operand.tmp 4) ?_ | (refine EW.eCond (x := Operand.tmp 4) ?_ ?_ <;> (intro hb hb'; (try dsimp only at hb'); (try (exfalso; first | omega | with_reducible exact absurd rfl hb')))))
  all_goals try (refine EW.nm ?_)
  all_goals try ((first | refine EW.eRegL (id := 2) ?_ | refine EW.eReg (id := 2) ?_); refine EW.eMove ?_; refine EW.eConv ?_; refine EW.eNeg ?_; refine EW.eAssign ?_; refine EW.eEnd ?_; (try refine EW.nm ?_))
  all_goals try ((first | refine EW.eRegL (id := 3) ?_ | refine EW.eReg (id := 3) ?_); refine EW.eMove ?_; refine EW.eConv ?_; refine EW.eAssign ?_; refine EW.eEnd ?_; (try refine EW.nm ?_))
  all_goals (refine EW.eLeaveP ?_; intro w' hW; refine ⟨?_, hW⟩)
  all_goals (refine congrArg (fun n => Ending.returned (.int .u64 n)) ?_; omega)
theorem wturned (z : Int) (w : World) (hz : In128 z) : Calls Try.prog 39 #[W2 z] w fun e w' => e = .returned (W2 (w128 (-z))) ∧ Below w.heap.size w w' := by
  obtain ⟨b, hb, hb0, hb1⟩ : ∃ b : Int, (if 0 < z % 18446744073709551616 + 0 then (1 : Int) else 0) = b ∧ 0 ≤ b ∧ b ≤ 1 := ⟨_, rfl, by split <;> omega, by split <;> omega⟩
  have s1 := sub64 0 (z % 18446744073709551616) 0 (by omega) (by omega) (by omega) (by omega) (by omega)
  rw [hb] at s1
  have s2 := sub64 0 (z / 18446744073709551616 % 18446744073709551616) b (by omega) (by omega) (by omega) hb0 hb1
  refine EW.eEnter Try.func39 rfl Try.ntmps39 ?_
  all_goals try (refine EW.nm ?_)
  all_goals try ((first | refine EW.eRegL (id := 0) ?_ | refine EW.eReg (id := 0) ?_); refine EW.eBox ?_; refine EW.eAlloc ?_; refine EW.eEnd ?_; (try refine EW.nm ?_))
  all_goals try ((first | refine EW.eRegL (id := 1) ?_ | refine EW.eReg (id := 1) ?_); refine EW.eFieldAddr (k := 1) ?_; refine EW.eLoad1 ?_; (first | (refine eCallV s1 ?_) | (refine eCallV s2 ?_)); refine EW.eMove ?_; (first | refine EW.eExtC ?_ | refine EW.eExtA ?_); (first | refine EW.eExtC ?_ | refine EW.eExtA ?_); refine EW.eAssign ?_; refine EW.eAssign ?_; refine EW.eEnd ?_; (try refine EW.nm ?_))
  all_goals try ((first | refine EW.eRegL (id := 2) ?_ | refine EW.eReg (id := 2) ?_); refine EW.eFieldAddr (k := 1) ?_; refine EW.eLoad1 ?_; refine EW.eConv ?_; refine EW.eMove ?_; (first | (refine eCallV s1 ?_) | (refine eCallV s2 ?_)); refine EW.eMove ?_; (first | refine EW.eExtC ?_ | refine EW.eExtA ?_); (first | refine EW.eExtC ?_ | refine EW.eExtA ?_); refine EW.eAssign ?_; refine EW.eAssign ?_; refine EW.eEnd ?_; (try refine EW.nm ?_))
  all_goals try ((first | refine EW.eRegL (id := 3) ?_ | refine EW.eReg (id := 3) ?_); refine EW.eMove ?_; refine EW.eConv ?_; refine EW.eMove ?_; refine EW.eBuild (place := fun i => [(0, 1), (1, 1)][i]?) ?_; (first | refine EW.eStoreW (k := 2) ?_ | refine EW.eStore (k := 2) ?_); refine EW.eEnd ?_; (try refine EW.nm ?_))
  all_goals (refine EW.eLeaveP ?_; intro w' hW; refine ⟨?_, hW⟩)
  all_goals refine w2_eq ?_ ?_
  all_goals unfold w128
  all_goals unfold In128 at hz
  · rw [IntKind.wrap_i64]; split at hb <;> subst hb <;> omega
  · omega
theorem wplus (x y : Int) (w : World) (hx : In128 x) (hy : In128 y) : Calls Try.prog 35 #[W2 x, W2 y] w fun e w' => e = .returned (W2 (w128 (x + y))) ∧ Below w.heap.size w w' := by
  have s1 := add64 (x % 18446744073709551616) (y % 18446744073709551616) 0 (by omega) (by omega) (by omega) (by omega) (by omega) (by omega)
  refine EW.eEnter Try.func35 rfl Try.ntmps35 ?_
  all_goals try (refine EW.nm ?_)
  all_goals try ((first | refine EW.eRegL (id := 0) ?_ | refine EW.eReg (id := 0) ?_); refine EW.eBox ?_; refine EW.eBox ?_; refine EW.eAlloc ?_; refine EW.eEnd ?_; (try refine EW.nm ?_))
  all_goals try ((first | refine EW.eRegL (id := 1) ?_ | refine EW.eReg (id := 1) ?_); refine EW.eFieldAddr (k := 1) ?_; refine EW.eLoad1 ?_; refine EW.eFieldAddr (k := 1) ?_; refine EW.eLoad1 ?_; (first | (refine eCallV s1 ?_)); refine EW.eMove ?_; (first | refine EW.eExtC ?_ | refine EW.eExtA ?_); (first | refine EW.eExtC ?_ | refine EW.eExtA ?_); refine EW.eAssign ?_; refine EW.eAssign ?_; refine EW.eEnd ?_; (try refine EW.nm ?_))
  all_goals try ((first | refine EW.eRegL (id := 2) ?_ | refine EW.eReg (id := 2) ?_); refine EW.eFieldAddr (k := 1) ?_; refine EW.eLoad1 ?_; refine EW.eFieldAddr (k := 1) ?_; refine EW.eLoad1 ?_; refine EW.eAdd ?_; refine EW.eMove ?_; refine EW.eConv ?_; refine EW.eAdd ?_; refine EW.eMove ?_; refine EW.eBuild (place := fun i => [(0, 1), (1, 1)][i]?) ?_; (first | refine EW.eStoreW (k := 2) ?_ | refine EW.eStore (k := 2) ?_); refine EW.eEnd ?_; (try refine EW.nm ?_))
  all_goals (refine EW.eLeaveP ?_; intro w' hW; refine ⟨?_, hW⟩)
  all_goals refine w2_eq ?_ ?_
  all_goals unfold w128
  all_goals unfold In128 at hx hy
  · simp only [IntKind.wrap_i64]; omega
  · omega
end Go.Proofs.Ytbjogekhedglgaa
