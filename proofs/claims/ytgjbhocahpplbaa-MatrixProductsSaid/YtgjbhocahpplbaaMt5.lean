/- Package matrix: sum. -/
import Derived.Test.YtgjbhocahpplbaaMt2
import Derived.Test.YtgjbhocahpplbaaWd3
import Derived.Test.YtgjbhocahpplbaaWs1
namespace Go.Proofs.Ytgjbhocahpplbaa
set_option linter.unusedSimpArgs false
set_option linter.unusedVariables false
open Go.RowKit EV
open SX (Wr Tv Qu Rm Sh Is conjP eqs_iff eqs_false)
open EW (PlL PlT PlV PlVs LfV Mm Bt Opn GV YT lpOf nums)
set_option maxRecDepth 20000
theorem mclamp (x lo hi : Int) (w : World) : Calls Try.prog 31 #[.int .i64 x, .int .i64 lo, .int .i64 hi] w fun e w' => e = .returned (.int .i64 (if x < lo then lo else if hi < x then hi else x)) ∧ Below w.heap.size w w' := by
  refine EW.eEnter Try.func31 rfl Try.ntmps31 ?_
  all_goals try (refine EW.nm ?_)
  all_goals try ((first | refine EW.eRegL (id := 0) ?_ | refine EW.eReg (id := 0) ?_); refine EW.eAssign ?_; refine EW.eEnd ?_; (try refine EW.nm ?_))
  all_goals try ((first | refine EW.eRegL (id := 1) ?_ | refine EW.eReg (id := 1) ?_); refine EW.eMove ?_; refine EW.eMove ?_; refine EW.eLss ?_; refine EW.eEnd ?_; (try refine EW.nm ?_))
  all_goals try (first | refine EW.eYes (x := Operand.tmp 9) ?_ | refine EW.eNo (x := Operand.tmp 9) ?_ | (refine EW.eCond (x := Operand.tmp 9) ?_ ?_ <;> (intro hb hb'; (try dsimp only at hb'); (try (exfalso; first | omega | with_reducible exact absurd rfl hb')))))
  all_goals try (refine EW.nm ?_)
  all_goals try ((first | refine EW.eRegL (id := 2) ?_ | refine EW.eReg (id := 2) ?_); refine EW.eMove ?_; refine EW.eAssign ?_; refine EW.eEnd ?_; (try refine EW.nm ?_))
  all_goals try ((first | refine EW.eRegL (id := 3) ?_ | refine EW.eReg (id := 3) ?_); refine EW.eMove ?_; refine EW.eMove ?_; refine EW.eMin ?_; refine EW.eAssign ?_; refine EW.eEnd ?_; (try refine EW.nm ?_))
  all_goals (refine EW.eLeaveP ?_; intro w' hW; refine ⟨?_, hW⟩)
  all_goals (first | rfl | (refine congrArg Ending.returned ?_; simp only [Value.int.injEq, Value.bool.injEq, true_and]; (repeat' split) <;> first | rfl | omega))
theorem pre_pd (a b : List Int) : ∀ k, pre a b k = pd a b k
  | 0 => rfl
  | k + 1 => by rw [pre, pd, pre_pd a b k]
def sE (q : Int) : Int := if okQ q then 0 else 30
theorem ms_no {q : Int} (h : ¬ okQ q) : Ending.returned (.tuple #[.int .i64 0, .int .i64 30]) = Ending.returned (.tuple #[.int .i64 (valQ q), .int .i64 (sE q)]) := by rw [valQ, sE, if_neg h, if_neg h]
theorem ms_yes {q : Int} (h : okQ q) : Ending.returned (.tuple #[.int .i64 q, .int .i64 0]) = Ending.returned (.tuple #[.int .i64 (valQ q), .int .i64 (sE q)]) := by rw [valQ, sE, if_pos h, if_pos h]
theorem div_q {S : Int} (hS : In128 S) : dQ S 65536 = S / 65536 ∧ dE S 65536 = 0 := by
  have e : S.fdiv 65536 = S / 65536 := Int.fdiv_eq_ediv_of_nonneg _ (by omega)
  unfold In128 at hS
  have h : In128 (S / 65536) := ⟨by omega, by omega⟩
  have h0 : ¬ (65536 : Int) = 0 := by decide
  simp only [dQ, dE, if_neg h0, e, if_pos h]; exact ⟨trivial, trivial⟩
theorem clamp_iff (k : Int) : (if k < -4611686018427387904 then -4611686018427387904 else if 4611686018427387904 < k then 4611686018427387904 else k) = k ↔ okQ k := by
  unfold okQ; split
  · omega
  · split <;> omega
theorem msum (r v : List Int) (w : World) (kr : Ok64 r) (kv : Ok64 v) (lr : r.length = 4) (lv : v.length = 4) (hall : ∀ i, i ≤ 4 → In128 (pre r v i)) : Calls Try.prog 25 #[Nm r, Nm v] w fun e w' => e = .returned (.tuple #[.int .i64 (valQ (dq r v)), .int .i64 (sE (dq r v))]) ∧ Below w.heap.size w w' := by
  have hS := hall 4 (by omega)
  have hD := fun w => wdiv (pre r v 4) 65536 w hS (by omega) (by omega)
  obtain ⟨e1, e2⟩ := div_q hS
  rw [e1, e2] at hD
  rw [pre_pd, show pd r v 4 / 65536 = dq r v from rfl, ← pre_pd] at hD
  have hq : In128 (dq r v) := by unfold dq; rw [← pre_pd]; unfold In128 at *; omega
  generalize dR (pre r v 4) 65536 = rest at *
  generalize dq r v = q at *
  have hI : ∃ k s, ((-9223372036854775808 ≤ q ∧ q ≤ 9223372036854775807 ∧ k = q ∧ s = 0) ∨ (¬ (-9223372036854775808 ≤ q ∧ q ≤ 9223372036854775807) ∧ k = 0 ∧ s = 20)) ∧ ∀ w, Calls Try.prog 30 #[W2 q] w fun e w' => e = .returned (.tuple #[.int .i64 k, .int .i64 s]) ∧ Below w.heap.size w w' := by
    by_cases h : -9223372036854775808 ≤ q ∧ q ≤ 9223372036854775807
    · exact ⟨q, 0, .inl ⟨h.1, h.2, rfl, rfl⟩, fun w => by have := wint q w hq; rwa [if_pos h, if_pos h] at this⟩
    · exact ⟨0, 20, .inr ⟨h, rfl, rfl⟩, fun w => by have := wint q w hq; rwa [if_neg h, if_neg h] at this⟩
  obtain ⟨k, s, hks, hI⟩ := hI
  refine EW.eEnter Try.func25 rfl Try.ntmps25 ?_
  all_goals try (refine EW.nm ?_)
  all_goals try ((first | refine EW.eRegL (id := 0) ?_ | refine EW.eReg (id := 0) ?_); refine EW.eBox ?_; refine EW.eBox ?_; refine EW.eAssign ?_; refine EW.eAssign ?_; refine EW.eEnd ?_; (try refine EW.nm ?_))
  all_goals (refine EW.eToW 10 true (nums .i64 r) ?_; refine EW.eToW 20 true (nums .i64 v) ?_)
  all_goals try ((first | refine EW.eRegL (id := 1) ?_ | refine EW.eReg (id := 1) ?_); refine EW.eSliceP (z := 1) ?_; refine EW.eSliceP (z := 1) ?_; refine EW.eCallN [10, 20] Try.call28 (wsum_ok true true r v 4 4 4 4 4 lr lv kr kv rfl (by omega) (by omega) hall) ?_; refine EW.eMove ?_; (first | refine EW.eExtC ?_ | refine EW.eExtA ?_); (first | refine EW.eExtC ?_ | refine EW.eExtA ?_); refine EW.eAlloc ?_; (first | refine EW.eStoreW (k := 2) ?_ | refine EW.eStore (k := 2) ?_); refine EW.eAssign ?_; refine EW.eDraw ?_; (try refine EW.nm ?_))
  all_goals try ((first | refine EW.eRegL (id := 2) ?_ | refine EW.eReg (id := 2) ?_); refine EW.eMove ?_; refine EW.eNeq ?_; refine EW.eEnd ?_; (try refine EW.nm ?_))
  all_goals try (first | refine EW.eYes (x := Operand.tmp 19) ?_ | refine EW.eNo (x := Operand.tmp 19) ?_ | (refine EW.eCond (x := Operand.tmp 19) ?_ ?_ <;> (intro hb hb'; (try dsimp only at hb'); (try (exfalso; first | omega | with_reducible exact absurd rfl hb')))))
  all_goals try (refine EW.nm ?_)
  all_goals try ((first | refine EW.eRegL (id := 3) ?_ | refine EW.eReg (id := 3) ?_); refine EW.eAssign ?_; refine EW.eAssign ?_; refine EW.eEnd ?_; (try refine EW.nm ?_))
  all_goals try ((first | refine EW.eRegL (id := 4) ?_ | refine EW.eReg (id := 4) ?_); refine EW.eLoadA (k := 2) ?_; refine EW.eCall Try.call29 (fun w => hD w) ?_; refine EW.eMove ?_; (first | refine EW.eExtC ?_ | refine EW.eExtA ?_); (first | refine EW.eExtC ?_ | refine EW.eExtA ?_); (first | refine EW.eExtC ?_ | refine EW.eExtA ?_); refine EW.eAlloc ?_; (first | refine EW.eStoreW (k := 2) ?_ | refine EW.eStore (k := 2) ?_); refine EW.eAssign ?_; refine EW.eAssign ?_; refine EW.eEnd ?_; (try refine EW.nm ?_))
  all_goals try ((first | refine EW.eRegL (id := 5) ?_ | refine EW.eReg (id := 5) ?_); refine EW.eLoadA (k := 2) ?_; refine EW.eCall Try.call30 (fun w => hI w) ?_; refine EW.eMove ?_; (first | refine EW.eExtC ?_ | refine EW.eExtA ?_); (first | refine EW.eExtC ?_ | refine EW.eExtA ?_); refine EW.eAssign ?_; refine EW.eAssign ?_; refine EW.eEnd ?_; (try refine EW.nm ?_))
  all_goals try ((first | refine EW.eRegL (id := 6) ?_ | refine EW.eReg (id := 6) ?_); refine EW.eMove ?_; refine EW.eNeq ?_; refine EW.eMove ?_)
  all_goals try (refine EW.eGuard (j := 2) (o := ⟨some 34, _, _, _, _, _⟩) ?_ ?_ <;> (intro hb hb'; (try dsimp only at hb'); (try (exfalso; first | omega | with_reducible exact absurd rfl hb'))))
  all_goals try ((first | refine EW.eSkipF (j := 2) ?_ | refine EW.eSkipU (j := 2) ?_ | refine EW.eMove ?_); (first | refine EW.eSkipF (j := 2) ?_ | refine EW.eSkipU (j := 2) ?_ | refine EW.eNeq ?_); (first | refine EW.ePickT ?_ | refine EW.ePickF ?_); refine EW.eMove ?_)
  all_goals try (refine EW.eGuard (j := 6) (o := ⟨some 38, _, _, _, _, _⟩) ?_ ?_ <;> (intro hb hb'; (try dsimp only at hb'); (try (exfalso; first | omega | with_reducible exact absurd rfl hb'))))
  all_goals try ((first | refine EW.eSkipF (j := 6) ?_ | refine EW.eSkipU (j := 6) ?_ | refine EW.eMove ?_); (first | refine EW.eSkipF (j := 6) ?_ | refine EW.eSkipU (j := 6) ?_ | refine EW.eCall Try.call31 (fun w => mclamp k (-4611686018427387904) 4611686018427387904 w) ?_); (first | refine EW.eSkipF (j := 6) ?_ | refine EW.eSkipU (j := 6) ?_ | refine EW.eMove ?_); (first | refine EW.eSkipF (j := 6) ?_ | refine EW.eSkipU (j := 6) ?_ | refine EW.eNeq ?_); (first | refine EW.ePickT ?_ | refine EW.ePickF ?_); refine EW.eEnd ?_; (try refine EW.nm ?_))
  all_goals try (first | refine EW.eYes (x := Operand.tmp 42) ?_ | refine EW.eNo (x := Operand.tmp 42) ?_ | (refine EW.eCond (x := Operand.tmp 42) ?_ ?_ <;> (intro hb hb'; (try dsimp only at hb'); (try (exfalso; first | omega | with_reducible exact absurd rfl hb')))))
  all_goals try (refine EW.nm ?_)
  all_goals try ((first | refine EW.eRegL (id := 7) ?_ | refine EW.eReg (id := 7) ?_); refine EW.eAssign ?_; refine EW.eAssign ?_; refine EW.eEnd ?_; (try refine EW.nm ?_))
  all_goals try ((first | refine EW.eRegL (id := 8) ?_ | refine EW.eReg (id := 8) ?_); refine EW.eMove ?_; refine EW.eAssign ?_; refine EW.eAssign ?_; refine EW.eEnd ?_; (try refine EW.nm ?_))
  all_goals (refine EW.eLeaveP ?_; intro w' hW; refine ⟨?_, hW⟩)
  · exact ms_no (by unfold okQ; omega)
  · rw [clamp_iff] at hb'
    obtain rfl : k = q := by omega
    exact ms_no hb'
  · rw [clamp_iff] at hb'
    obtain rfl : k = q := by omega
    exact ms_yes hb'
end Go.Proofs.Ytgjbhocahpplbaa
