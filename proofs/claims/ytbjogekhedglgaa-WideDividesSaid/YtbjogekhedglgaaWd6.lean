/- WideDivides: the walk of the law. -/
import Derived.Test.YtbjogekhedglgaaWd5
namespace Go.Proofs.Ytbjogekhedglgaa
set_option linter.unusedSimpArgs false
set_option linter.unusedVariables false
open Go.RowKit EV
open SX (Wr Tv Qu Rm Sh Is conjP eqs_iff eqs_false)
open EW (PlL PlT PlV PlVs LfV Mm Bt Opn GV nums)
set_option maxRecDepth 20000
theorem rdivS (x c : Int) (w : World) (ha : x.natAbs < 1606938044258990275541962092341162602522202) (hc : c ≠ 0) (hd' : c.natAbs < 1606938044258990275541962092341162602522202) : Calls Try.prog 26 #[BZ x, BZ c] w fun e w' => e = .returned (.tuple #[BZ (x.fdiv c), BZ (x - x.fdiv c * c), .int .i64 0]) ∧ Below w.heap.size w w' := rdiv x c w ha hc hd'
/-- Quotients by 0. -/
theorem divides0 (x a b : Int) (w : World) (hx : In128 x) (ha0 : -9223372036854775808 ≤ a) (ha1 : a ≤ 9223372036854775807) (hb0 : -9223372036854775808 ≤ b) (hb1 : b ≤ 9223372036854775807) : Calls Try.prog 4 #[W2 x, .int .i64 a, .int .i64 b, .int .i64 0] w fun e w' => e = .returned (.bool true) ∧ Below w.heap.size w w' := by
  have hF := fun w => rfrom (x / 18446744073709551616) (x % 18446744073709551616) w (by unfold In128 at hx; omega) (by unfold In128 at hx; omega) (by omega) (by omega)
  rw [show x / 18446744073709551616 * 18446744073709551616 + x % 18446744073709551616 = x by omega] at hF
  have hD := fun w => wdiv x 0 w hx (by omega) (by omega)
  rw [show dQ x 0 = 0 from rfl, show dR x 0 = 0 from rfl, show dE x 0 = 21 from rfl] at hD
  have hC := fun w => rcutV 0 w (by decide)
  have hM := fun w => wmuldiv a b 0 w ha0 ha1 hb0 hb1 (by omega) (by omega)
  rw [show mdV a b 0 = 0 from rfl, show mdE a b 0 = 21 from rfl] at hM
  refine EW.eEnter Try.func4 rfl Try.ntmps4 ?_
  all_goals try (refine EW.nm ?_)
  all_goals try ((first | refine EW.eRegL (id := 0) ?_ | refine EW.eReg (id := 0) ?_); refine EW.eBox ?_; refine EW.eAssign ?_; refine EW.eEnd ?_; (try refine EW.nm ?_))
  all_goals try ((first | refine EW.eRegL (id := 1) ?_ | refine EW.eReg (id := 1) ?_); refine EW.eLoadA (k := 2) ?_; refine EW.eMove ?_; refine EW.eCall Try.call25 (fun w => hD w) ?_; refine EW.eMove ?_; (first | refine EW.eExtC ?_ | refine EW.eExtA ?_); (first | refine EW.eExtC ?_ | refine EW.eExtA ?_); (first | refine EW.eExtC ?_ | refine EW.eExtA ?_); refine EW.eAlloc ?_; (first | refine EW.eStoreW (k := 2) ?_ | refine EW.eStore (k := 2) ?_); refine EW.eAssign ?_; refine EW.eAssign ?_; refine EW.eEnd ?_; (try refine EW.nm ?_))
  all_goals try ((first | refine EW.eRegL (id := 2) ?_ | refine EW.eReg (id := 2) ?_); refine EW.eLoadA (k := 2) ?_; refine EW.eCall Try.call9 (fun w => hF w) ?_; refine EW.eMove ?_; refine EW.eCall Try.call12 (fun w => rof 0 w (by omega) (by omega)) ?_; refine EW.eCall Try.call26 (fun w => rdiv0 x w) ?_; refine EW.eMove ?_; (first | refine EW.eExtC ?_ | refine EW.eExtA ?_); (first | refine EW.eExtC ?_ | refine EW.eExtA ?_); (first | refine EW.eExtC ?_ | refine EW.eExtA ?_); refine EW.eAlloc ?_; refine EW.eAlloc ?_; (first | refine EW.eStoreW (k := 21) ?_ | refine EW.eStore (k := 21) ?_); (first | refine EW.eStoreW (k := 21) ?_ | refine EW.eStore (k := 21) ?_); refine EW.eAssign ?_; refine EW.eEnd ?_; (try refine EW.nm ?_))
  all_goals try ((first | refine EW.eRegL (id := 3) ?_ | refine EW.eReg (id := 3) ?_); refine EW.eLoadA (k := 21) ?_; refine EW.eCall Try.call14 (fun w => hC w) ?_; refine EW.eMove ?_; (first | refine EW.eExtC ?_ | refine EW.eExtA ?_); (first | refine EW.eExtC ?_ | refine EW.eExtA ?_); refine EW.eAlloc ?_; (first | refine EW.eStoreW (k := 2) ?_ | refine EW.eStore (k := 2) ?_); refine EW.eAssign ?_; refine EW.eEnd ?_; (try refine EW.nm ?_))
  all_goals try ((first | refine EW.eRegL (id := 4) ?_ | refine EW.eReg (id := 4) ?_); refine EW.eMove ?_; refine EW.eMove ?_; refine EW.eMove ?_; refine EW.eCall Try.call27 (fun w => hM w) ?_; refine EW.eMove ?_; (first | refine EW.eExtC ?_ | refine EW.eExtA ?_); (first | refine EW.eExtC ?_ | refine EW.eExtA ?_); refine EW.eAssign ?_; refine EW.eAssign ?_; refine EW.eEnd ?_; (try refine EW.nm ?_))
  all_goals try ((first | refine EW.eRegL (id := 5) ?_ | refine EW.eReg (id := 5) ?_); refine EW.eMove ?_; refine EW.eNeq ?_; refine EW.eEnd ?_; (try refine EW.nm ?_))
  all_goals try (first | refine EW.eYes (x := Operand.tmp 52) ?_ | refine EW.eNo (x := Operand.tmp 52) ?_ | (refine EW.eCond (x := Operand.tmp 52) ?_ ?_ <;> (intro hb hb'; (try dsimp only at hb'); (try (exfalso; first | omega | with_reducible exact absurd rfl hb')))))
  all_goals try (refine EW.nm ?_)
  all_goals try ((first | refine EW.eRegL (id := 6) ?_ | refine EW.eReg (id := 6) ?_); refine EW.eMove ?_; refine EW.eMove ?_; refine EW.eEql ?_; refine EW.eMove ?_)
  all_goals try (refine EW.eGuard (j := 3) (o := ⟨some 57, _, _, _, _, _⟩) ?_ ?_ <;> (intro hb hb'; (try dsimp only at hb'); (try (exfalso; first | omega | with_reducible exact absurd rfl hb'))))
  all_goals try ((first | refine EW.eSkipT (j := 3) ?_ | refine EW.eSkipU (j := 3) ?_ | refine EW.eMove ?_); (first | refine EW.eSkipT (j := 3) ?_ | refine EW.eSkipU (j := 3) ?_ | refine EW.eMove ?_); (first | refine EW.eSkipT (j := 3) ?_ | refine EW.eSkipU (j := 3) ?_ | refine EW.eEql ?_); (first | refine EW.ePickT ?_ | refine EW.ePickF ?_); refine EW.eMove ?_)
  all_goals try (refine EW.eGuard (j := 8) (o := ⟨some 62, _, _, _, _, _⟩) ?_ ?_ <;> (intro hb hb'; (try dsimp only at hb'); (try (exfalso; first | omega | with_reducible exact absurd rfl hb'))))
  all_goals try ((first | refine EW.eSkipT (j := 8) ?_ | refine EW.eSkipU (j := 8) ?_ | refine EW.eMove ?_); (first | refine EW.eSkipT (j := 8) ?_ | refine EW.eSkipU (j := 8) ?_ | refine EW.eEql ?_); (first | refine EW.ePickT ?_ | refine EW.ePickF ?_); refine EW.eAssign ?_; refine EW.eEnd ?_; (try refine EW.nm ?_))
  all_goals try ((first | refine EW.eRegL (id := 7) ?_ | refine EW.eReg (id := 7) ?_); refine EW.eMove ?_; refine EW.eNeq ?_; refine EW.eEnd ?_; (try refine EW.nm ?_))
  all_goals try (first | refine EW.eYes (x := Operand.tmp 66) ?_ | refine EW.eNo (x := Operand.tmp 66) ?_ | (refine EW.eCond (x := Operand.tmp 66) ?_ ?_ <;> (intro hb hb'; (try dsimp only at hb'); (try (exfalso; first | omega | with_reducible exact absurd rfl hb')))))
  all_goals try (refine EW.nm ?_)
  all_goals try ((first | refine EW.eRegL (id := 8) ?_ | refine EW.eReg (id := 8) ?_); refine EW.eMove ?_; refine EW.eMove ?_; refine EW.eNeq ?_; refine EW.eMove ?_)
  all_goals try (refine EW.eGuard (j := 3) (o := ⟨some 71, _, _, _, _, _⟩) ?_ ?_ <;> (intro hb hb'; (try dsimp only at hb'); (try (exfalso; first | omega | with_reducible exact absurd rfl hb'))))
  all_goals try ((first | refine EW.eSkipF (j := 3) ?_ | refine EW.eSkipU (j := 3) ?_ | refine EW.eLoadA (k := 2) ?_); (first | refine EW.eSkipF (j := 3) ?_ | refine EW.eSkipU (j := 3) ?_ | refine EW.eLoadA (k := 2) ?_); (first | refine EW.eSkipF (j := 3) ?_ | refine EW.eSkipU (j := 3) ?_ | refine EW.eNeqA ?_); (first | refine EW.ePickT ?_ | refine EW.ePickF ?_); refine EW.eMove ?_)
  all_goals try (refine EW.eGuard (j := 8) (o := ⟨some 76, _, _, _, _, _⟩) ?_ ?_ <;> (intro hb hb'; (try dsimp only at hb'); (try (exfalso; first | omega | with_reducible exact absurd rfl hb'))))
  all_goals try ((first | refine EW.eSkipF (j := 8) ?_ | refine EW.eSkipU (j := 8) ?_ | refine EW.eMove ?_); (first | refine EW.eSkipF (j := 8) ?_ | refine EW.eSkipU (j := 8) ?_ | refine EW.eNeq ?_); (first | refine EW.ePickT ?_ | refine EW.ePickF ?_); refine EW.eEnd ?_; (try refine EW.nm ?_))
  all_goals try (first | refine EW.eYes (x := Operand.tmp 78) ?_ | refine EW.eNo (x := Operand.tmp 78) ?_ | (refine EW.eCond (x := Operand.tmp 78) ?_ ?_ <;> (intro hb hb'; (try dsimp only at hb'); (try (exfalso; first | omega | with_reducible exact absurd rfl hb')))))
  all_goals try (refine EW.nm ?_)
  all_goals try ((first | refine EW.eRegL (id := 9) ?_ | refine EW.eReg (id := 9) ?_); refine EW.eAssign ?_; refine EW.eEnd ?_; (try refine EW.nm ?_))
  all_goals try ((first | refine EW.eRegL (id := 10) ?_ | refine EW.eReg (id := 10) ?_); refine EW.eMove ?_; refine EW.eNeq ?_; refine EW.eMove ?_)
  all_goals try (refine EW.eGuard (j := 2) (o := ⟨some 82, _, _, _, _, _⟩) ?_ ?_ <;> (intro hb hb'; (try dsimp only at hb'); (try (exfalso; first | omega | with_reducible exact absurd rfl hb'))))
  all_goals try ((first | refine EW.eSkipF (j := 2) ?_ | refine EW.eSkipU (j := 2) ?_ | refine EW.eLoadA (k := 2) ?_); (first | refine EW.eSkipF (j := 2) ?_ | refine EW.eSkipU (j := 2) ?_ | refine EW.eLoadA (k := 2) ?_); (first | refine EW.eSkipF (j := 2) ?_ | refine EW.eSkipU (j := 2) ?_ | refine EW.eNeqA ?_); (first | refine EW.ePickT ?_ | refine EW.ePickF ?_); refine EW.eMove ?_)
  all_goals try (refine EW.eGuard (j := 7) (o := ⟨some 87, _, _, _, _, _⟩) ?_ ?_ <;> (intro hb hb'; (try dsimp only at hb'); (try (exfalso; first | omega | with_reducible exact absurd rfl hb'))))
  all_goals try ((first | refine EW.eSkipF (j := 7) ?_ | refine EW.eSkipU (j := 7) ?_ | refine EW.eMove ?_); (first | refine EW.eSkipF (j := 7) ?_ | refine EW.eSkipU (j := 7) ?_ | refine EW.eCall Try.call12 (fun w => rof 0 w (by omega) (by omega)) ?_); (first | refine EW.eSkipF (j := 7) ?_ | refine EW.eSkipU (j := 7) ?_ | refine EW.eLoadA (k := 21) ?_); (first | refine EW.eSkipF (j := 7) ?_ | refine EW.eSkipU (j := 7) ?_ | refine EW.eNeqA ?_); (first | refine EW.ePickT ?_ | refine EW.ePickF ?_); refine EW.eDraw ?_; (try refine EW.nm ?_))
  all_goals try (first | refine EW.eYes (x := Operand.tmp 91) ?_ | refine EW.eNo (x := Operand.tmp 91) ?_ | (refine EW.eCond (x := Operand.tmp 91) ?_ ?_ <;> (intro hb hb'; (try dsimp only at hb'); (try (exfalso; first | omega | with_reducible exact absurd rfl hb')))))
  all_goals try (refine EW.nm ?_)
  all_goals try ((first | refine EW.eRegL (id := 11) ?_ | refine EW.eReg (id := 11) ?_); refine EW.eAssign ?_; refine EW.eEnd ?_; (try refine EW.nm ?_))
  all_goals try ((first | refine EW.eRegL (id := 12) ?_ | refine EW.eReg (id := 12) ?_); refine EW.eMove ?_; refine EW.eCall Try.call12 (fun w => rof 0 w (by omega) (by omega)) ?_; refine EW.eMove ?_; refine EW.eCall Try.call12 (fun w => rof 0 w (by omega) (by omega)) ?_; fail "no contract of mullion/mullionref02.Mul"; refine EW.eMove ?_; refine EW.eCall Try.call12 (fun w => rof 0 w (by omega) (by omega)) ?_; refine EW.eCall Try.call26 (fun w => rdiv0 x w) ?_; refine EW.eMove ?_; (first | refine EW.eExtC ?_ | refine EW.eExtA ?_); (first | refine EW.eExtC ?_ | refine EW.eExtA ?_); (first | refine EW.eExtC ?_ | refine EW.eExtA ?_); refine EW.eAlloc ?_; refine EW.eAlloc ?_; (first | refine EW.eStoreW (k := 21) ?_ | refine EW.eStore (k := 21) ?_); (first | refine EW.eStoreW (k := 21) ?_ | refine EW.eStore (k := 21) ?_); refine EW.eAssign ?_; refine EW.eEnd ?_; (try refine EW.nm ?_))
  all_goals try ((first | refine EW.eRegL (id := 13) ?_ | refine EW.eReg (id := 13) ?_); refine EW.eLoadA (k := 21) ?_; fail "no contract of mullion/mullionref02.Two"; fail "no contract of mullion/mullionref02.Neg"; fail "no contract of mullion/mullionref02.Less"; refine EW.eNot ?_; refine EW.eMove ?_)
  all_goals try (refine EW.eGuard (j := 5) (o := ⟨some 110, _, _, _, _, _⟩) ?_ ?_ <;> (intro hb hb'; (try dsimp only at hb'); (try (exfalso; first | omega | with_reducible exact absurd rfl hb'))))
  all_goals try ((first | refine EW.eSkipT (j := 5) ?_ | refine EW.eSkipU (j := 5) ?_ | refine EW.eLoadA (k := 21) ?_); (first | refine EW.eSkipT (j := 5) ?_ | refine EW.eSkipU (j := 5) ?_ | fail "no contract of mullion/mullionref02.Two"); (first | refine EW.eSkipT (j := 5) ?_ | refine EW.eSkipU (j := 5) ?_ | fail "no contract of mullion/mullionref02.Less"); (first | refine EW.ePickT ?_ | refine EW.ePickF ?_); refine EW.eAssign ?_; refine EW.eDraw ?_; (try refine EW.nm ?_))
  all_goals try ((first | refine EW.eRegL (id := 14) ?_ | refine EW.eReg (id := 14) ?_); refine EW.eMove ?_; refine EW.eMove ?_)
  all_goals try (refine EW.eGuard (j := 1) (o := ⟨some 116, _, _, _, _, _⟩) ?_ ?_ <;> (intro hb hb'; (try dsimp only at hb'); (try (exfalso; first | omega | with_reducible exact absurd rfl hb'))))
  all_goals try ((first | refine EW.eSkipT (j := 1) ?_ | refine EW.eSkipU (j := 1) ?_ | refine EW.eMove ?_); (first | refine EW.eSkipT (j := 1) ?_ | refine EW.eSkipU (j := 1) ?_ | refine EW.eEql ?_); (first | refine EW.ePickT ?_ | refine EW.ePickF ?_); refine EW.eMove ?_)
  all_goals try (refine EW.eGuard (j := 5) (o := ⟨some 120, _, _, _, _, _⟩) ?_ ?_ <;> (intro hb hb'; (try dsimp only at hb'); (try (exfalso; first | omega | with_reducible exact absurd rfl hb'))))
  all_goals try ((first | refine EW.eSkipT (j := 5) ?_ | refine EW.eSkipU (j := 5) ?_ | refine EW.eMove ?_); (first | refine EW.eSkipT (j := 5) ?_ | refine EW.eSkipU (j := 5) ?_ | refine EW.eCall Try.call12 (fun w => rof 0 w (by omega) (by omega)) ?_); (first | refine EW.eSkipT (j := 5) ?_ | refine EW.eSkipU (j := 5) ?_ | refine EW.eLoadA (k := 21) ?_); (first | refine EW.eSkipT (j := 5) ?_ | refine EW.eSkipU (j := 5) ?_ | refine EW.eEqlA ?_); (first | refine EW.ePickT ?_ | refine EW.ePickF ?_); refine EW.eMove ?_)
  all_goals try (refine EW.eGuard (j := 11) (o := ⟨some 126, _, _, _, _, _⟩) ?_ ?_ <;> (intro hb hb'; (try dsimp only at hb'); (try (exfalso; first | omega | with_reducible exact absurd rfl hb'))))
  all_goals try ((first | refine EW.eSkipF (j := 11) ?_ | refine EW.eSkipU (j := 11) ?_ | refine EW.eMove ?_); (first | refine EW.eSkipF (j := 11) ?_ | refine EW.eSkipU (j := 11) ?_ | refine EW.eNot ?_); (first | refine EW.eSkipF (j := 11) ?_ | refine EW.eSkipU (j := 11) ?_ | refine EW.eMove ?_))
  all_goals try (refine EW.eGuard (j := 14) (o := ⟨some 129, _, _, _, _, _⟩) ?_ ?_ <;> (intro hb hb'; (try dsimp only at hb'); (try (exfalso; first | omega | with_reducible exact absurd rfl hb'))))
  all_goals try ((first | refine EW.eSkipT (j := 14) ?_ | refine EW.eSkipU (j := 14) ?_ | refine EW.eMove ?_); (first | refine EW.eSkipT (j := 14) ?_ | refine EW.eSkipU (j := 14) ?_ | refine EW.eEql ?_); (first | refine EW.eSkipF (j := 11) ?_ | refine EW.eSkipU (j := 11) ?_ | refine EW.ePickT ?_ | refine EW.ePickF ?_); (first | refine EW.eSkipF (j := 11) ?_ | refine EW.eSkipU (j := 11) ?_ | refine EW.eMove ?_))
  all_goals try (refine EW.eGuard (j := 18) (o := ⟨some 133, _, _, _, _, _⟩) ?_ ?_ <;> (intro hb hb'; (try dsimp only at hb'); (try (exfalso; first | omega | with_reducible exact absurd rfl hb'))))
  all_goals try ((first | refine EW.eSkipT (j := 18) ?_ | refine EW.eSkipU (j := 18) ?_ | refine EW.eMove ?_); (first | refine EW.eSkipT (j := 18) ?_ | refine EW.eSkipU (j := 18) ?_ | refine EW.eEql ?_); (first | refine EW.eSkipF (j := 11) ?_ | refine EW.eSkipU (j := 11) ?_ | refine EW.ePickT ?_ | refine EW.ePickF ?_); (first | refine EW.ePickT ?_ | refine EW.ePickF ?_); refine EW.eAssign ?_; refine EW.eDraw ?_; (try refine EW.nm ?_))
  all_goals (refine EW.eLeaveP ?_; intro w' hW; refine ⟨?_, hW⟩)
  all_goals rfl
set_option maxHeartbeats 2000000 in
theorem divides (x a b c q r p s e m k n h u : Int) (w : World) (hx : In128 x) (ha0 : -9223372036854775808 ≤ a) (ha1 : a ≤ 9223372036854775807) (hb0 : -9223372036854775808 ≤ b) (hb1 : b ≤ 9223372036854775807) (hc0 : -9223372036854775808 ≤ c) (hc1 : c ≤ 9223372036854775807)
    (h1 : (e = 0 ∧ s = r ∧ -9223372036854775808 ≤ r ∧ r ≤ 9223372036854775807) ∨ (e = 20 ∧ r = 0))
    (h2 : (h = 0 ∧ n = m ∧ -9223372036854775808 ≤ m ∧ m ≤ 9223372036854775807) ∨ (h = 20 ∧ n = 0 ∧ (m < -9223372036854775808 ∨ 9223372036854775807 < m)))
    (hF : ∀ w, Calls Try.prog 9 #[W2 x] w fun e w' => e = .returned (BZ x) ∧ Below w.heap.size w w')
    (hD : ∀ w, Calls Try.prog 25 #[W2 x, .int .i64 c] w fun e' w' => e' = .returned (.tuple #[W2 q, .int .i64 r, .int .i64 e]) ∧ Below w.heap.size w w')
    (hR : ∀ w, Calls Try.prog 26 #[BZ x, BZ c] w fun e w' => e = .returned (.tuple #[BZ p, BZ s, .int .i64 0]) ∧ Below w.heap.size w w')
    (hC : ∀ w, Calls Try.prog 14 #[BZ p] w fun e' w' => e' = .returned (.tuple #[W2 q, .int .i64 e]) ∧ Below w.heap.size w w')
    (hM : ∀ w, Calls Try.prog 27 #[.int .i64 a, .int .i64 b, .int .i64 c] w fun e w' => e = .returned (.tuple #[.int .i64 n, .int .i64 h]) ∧ Below w.heap.size w w')
    (hP : ∀ w, Calls Try.prog 11 #[BZ a, BZ b] w fun e w' => e = .returned (BZ k) ∧ Below w.heap.size w w')
    (hQ : ∀ w, Calls Try.prog 26 #[BZ k, BZ c] w fun e w' => e = .returned (.tuple #[BZ m, BZ u, .int .i64 0]) ∧ Below w.heap.size w w')
    (hL1 : ∀ w, Calls Try.prog 18 #[BZ m, BZ (-9223372036854775808)] w fun e w' => e = .returned (.bool (decide (m < -9223372036854775808))) ∧ Below w.heap.size w w')
    (hL2 : ∀ w, Calls Try.prog 18 #[BZ m, BZ 9223372036854775808] w fun e w' => e = .returned (.bool (decide (m < 9223372036854775808))) ∧ Below w.heap.size w w') :
    Calls Try.prog 4 #[W2 x, .int .i64 a, .int .i64 b, .int .i64 c] w fun e w' => e = .returned (.bool true) ∧ Below w.heap.size w w' := by
  have hN2 := fun w => rneg 9223372036854775808 w (by have := W20_lit; omega)
  rcases h1 with ⟨rfl, rfl, g1, g2⟩ | ⟨rfl, rfl⟩ <;> rcases h2 with ⟨rfl, rfl, k1, k2⟩ | ⟨rfl, rfl, k3⟩
  all_goals refine EW.eEnter Try.func4 rfl Try.ntmps4 ?_
  all_goals try (refine EW.nm ?_)
  all_goals try ((first | refine EW.eRegL (id := 0) ?_ | refine EW.eReg (id := 0) ?_); refine EW.eBox ?_; refine EW.eAssign ?_; refine EW.eEnd ?_; (try refine EW.nm ?_))
  all_goals try ((first | refine EW.eRegL (id := 1) ?_ | refine EW.eReg (id := 1) ?_); refine EW.eLoadA (k := 2) ?_; refine EW.eMove ?_; refine EW.eCall Try.call25 (fun w => hD w) ?_; refine EW.eMove ?_; (first | refine EW.eExtC ?_ | refine EW.eExtA ?_); (first | refine EW.eExtC ?_ | refine EW.eExtA ?_); (first | refine EW.eExtC ?_ | refine EW.eExtA ?_); refine EW.eAlloc ?_; (first | refine EW.eStoreW (k := 2) ?_ | refine EW.eStore (k := 2) ?_); refine EW.eAssign ?_; refine EW.eAssign ?_; refine EW.eEnd ?_; (try refine EW.nm ?_))
  all_goals try ((first | refine EW.eRegL (id := 2) ?_ | refine EW.eReg (id := 2) ?_); refine EW.eLoadA (k := 2) ?_; refine EW.eCall Try.call9 (fun w => hF w) ?_; refine EW.eMove ?_; (first | refine EW.eCall Try.call12 (fun w => rof c w hc0 hc1) ?_ | refine EW.eCall Try.call12 (fun w => rof a w ha0 ha1) ?_ | refine EW.eCall Try.call12 (fun w => rof b w hb0 hb1) ?_ | refine EW.eCall Try.call12 (fun w => rof _ w g1 g2) ?_ | refine EW.eCall Try.call12 (fun w => rof _ w k1 k2) ?_); (first | refine EW.eCall Try.call26 (fun w => hR w) ?_ | refine EW.eCall Try.call26 (fun w => hQ w) ?_); refine EW.eMove ?_; (first | refine EW.eExtC ?_ | refine EW.eExtA ?_); (first | refine EW.eExtC ?_ | refine EW.eExtA ?_); (first | refine EW.eExtC ?_ | refine EW.eExtA ?_); refine EW.eAlloc ?_; refine EW.eAlloc ?_; (first | refine EW.eStoreW (k := 21) ?_ | refine EW.eStore (k := 21) ?_); (first | refine EW.eStoreW (k := 21) ?_ | refine EW.eStore (k := 21) ?_); refine EW.eAssign ?_; refine EW.eEnd ?_; (try refine EW.nm ?_))
  all_goals try ((first | refine EW.eRegL (id := 3) ?_ | refine EW.eReg (id := 3) ?_); refine EW.eLoadA (k := 21) ?_; refine EW.eCall Try.call14 (fun w => hC w) ?_; refine EW.eMove ?_; (first | refine EW.eExtC ?_ | refine EW.eExtA ?_); (first | refine EW.eExtC ?_ | refine EW.eExtA ?_); refine EW.eAlloc ?_; (first | refine EW.eStoreW (k := 2) ?_ | refine EW.eStore (k := 2) ?_); refine EW.eAssign ?_; refine EW.eEnd ?_; (try refine EW.nm ?_))
  all_goals try ((first | refine EW.eRegL (id := 4) ?_ | refine EW.eReg (id := 4) ?_); refine EW.eMove ?_; refine EW.eMove ?_; refine EW.eMove ?_; refine EW.eCall Try.call27 (fun w => hM w) ?_; refine EW.eMove ?_; (first | refine EW.eExtC ?_ | refine EW.eExtA ?_); (first | refine EW.eExtC ?_ | refine EW.eExtA ?_); refine EW.eAssign ?_; refine EW.eAssign ?_; refine EW.eEnd ?_; (try refine EW.nm ?_))
  all_goals try ((first | refine EW.eRegL (id := 5) ?_ | refine EW.eReg (id := 5) ?_); refine EW.eMove ?_; refine EW.eNeq ?_; refine EW.eEnd ?_; (try refine EW.nm ?_))
  all_goals try (first | refine EW.eYes (x := Operand.tmp 52) ?_ | refine EW.eNo (x := Operand.tmp 52) ?_ | (refine EW.eCond (x := Operand.tmp 52) ?_ ?_ <;> (intro hb hb'; (try dsimp only at hb'); (try (exfalso; first | omega | with_reducible exact absurd rfl hb')))))
  all_goals try (refine EW.nm ?_)
  all_goals try ((first | refine EW.eRegL (id := 6) ?_ | refine EW.eReg (id := 6) ?_); refine EW.eMove ?_; refine EW.eMove ?_; refine EW.eEql ?_; refine EW.eMove ?_)
  all_goals try (refine EW.eGuard (j := 3) (o := ⟨some 57, _, _, _, _, _⟩) ?_ ?_ <;> (intro hb hb'; (try dsimp only at hb'); (try (exfalso; first | omega | with_reducible exact absurd rfl hb'))))
  all_goals try ((first | refine EW.eSkipT (j := 3) ?_ | refine EW.eSkipU (j := 3) ?_ | refine EW.eMove ?_); (first | refine EW.eSkipT (j := 3) ?_ | refine EW.eSkipU (j := 3) ?_ | refine EW.eMove ?_); (first | refine EW.eSkipT (j := 3) ?_ | refine EW.eSkipU (j := 3) ?_ | refine EW.eEql ?_); (first | refine EW.ePickT ?_ | refine EW.ePickF ?_); refine EW.eMove ?_)
  all_goals try (refine EW.eGuard (j := 8) (o := ⟨some 62, _, _, _, _, _⟩) ?_ ?_ <;> (intro hb hb'; (try dsimp only at hb'); (try (exfalso; first | omega | with_reducible exact absurd rfl hb'))))
  all_goals try ((first | refine EW.eSkipT (j := 8) ?_ | refine EW.eSkipU (j := 8) ?_ | refine EW.eMove ?_); (first | refine EW.eSkipT (j := 8) ?_ | refine EW.eSkipU (j := 8) ?_ | refine EW.eEql ?_); (first | refine EW.ePickT ?_ | refine EW.ePickF ?_); refine EW.eAssign ?_; refine EW.eEnd ?_; (try refine EW.nm ?_))
  all_goals try ((first | refine EW.eRegL (id := 7) ?_ | refine EW.eReg (id := 7) ?_); refine EW.eMove ?_; refine EW.eNeq ?_; refine EW.eEnd ?_; (try refine EW.nm ?_))
  all_goals try (first | refine EW.eYes (x := Operand.tmp 66) ?_ | refine EW.eNo (x := Operand.tmp 66) ?_ | (refine EW.eCond (x := Operand.tmp 66) ?_ ?_ <;> (intro hb hb'; (try dsimp only at hb'); (try (exfalso; first | omega | with_reducible exact absurd rfl hb')))))
  all_goals try (refine EW.nm ?_)
  all_goals try ((first | refine EW.eRegL (id := 8) ?_ | refine EW.eReg (id := 8) ?_); refine EW.eMove ?_; refine EW.eMove ?_; refine EW.eNeq ?_; refine EW.eMove ?_)
  all_goals try (refine EW.eGuard (j := 3) (o := ⟨some 71, _, _, _, _, _⟩) ?_ ?_ <;> (intro hb hb'; (try dsimp only at hb'); (try (exfalso; first | omega | with_reducible exact absurd rfl hb'))))
  all_goals try ((first | refine EW.eSkipF (j := 3) ?_ | refine EW.eSkipU (j := 3) ?_ | refine EW.eLoadA (k := 2) ?_); (first | refine EW.eSkipF (j := 3) ?_ | refine EW.eSkipU (j := 3) ?_ | refine EW.eLoadA (k := 2) ?_); (first | refine EW.eSkipF (j := 3) ?_ | refine EW.eSkipU (j := 3) ?_ | refine EW.eNeqA ?_); (first | refine EW.ePickT ?_ | refine EW.ePickF ?_); refine EW.eMove ?_)
  all_goals try (refine EW.eGuard (j := 8) (o := ⟨some 76, _, _, _, _, _⟩) ?_ ?_ <;> (intro hb hb'; (try dsimp only at hb'); (try (exfalso; first | omega | with_reducible exact absurd rfl hb'))))
  all_goals try ((first | refine EW.eSkipF (j := 8) ?_ | refine EW.eSkipU (j := 8) ?_ | refine EW.eMove ?_); (first | refine EW.eSkipF (j := 8) ?_ | refine EW.eSkipU (j := 8) ?_ | refine EW.eNeq ?_); (first | refine EW.ePickT ?_ | refine EW.ePickF ?_); refine EW.eEnd ?_; (try refine EW.nm ?_))
  all_goals try (first | refine EW.eYes (x := Operand.tmp 78) ?_ | refine EW.eNo (x := Operand.tmp 78) ?_ | (refine EW.eCond (x := Operand.tmp 78) ?_ ?_ <;> (intro hb hb'; (try dsimp only at hb'); (try (exfalso; first | omega | with_reducible exact absurd rfl hb')))))
  all_goals try (refine EW.nm ?_)
  all_goals try ((first | refine EW.eRegL (id := 9) ?_ | refine EW.eReg (id := 9) ?_); refine EW.eAssign ?_; refine EW.eEnd ?_; (try refine EW.nm ?_))
  all_goals try ((first | refine EW.eRegL (id := 10) ?_ | refine EW.eReg (id := 10) ?_); refine EW.eMove ?_; refine EW.eNeq ?_; refine EW.eMove ?_)
  all_goals try (refine EW.eGuard (j := 2) (o := ⟨some 82, _, _, _, _, _⟩) ?_ ?_ <;> (intro hb hb'; (try dsimp only at hb'); (try (exfalso; first | omega | with_reducible exact absurd rfl hb'))))
  all_goals try ((first | refine EW.eSkipF (j := 2) ?_ | refine EW.eSkipU (j := 2) ?_ | refine EW.eLoadA (k := 2) ?_); (first | refine EW.eSkipF (j := 2) ?_ | refine EW.eSkipU (j := 2) ?_ | refine EW.eLoadA (k := 2) ?_); (first | refine EW.eSkipF (j := 2) ?_ | refine EW.eSkipU (j := 2) ?_ | refine EW.eNeqA ?_); (first | refine EW.ePickT ?_ | refine EW.ePickF ?_); refine EW.eMove ?_)
  all_goals try (refine EW.eGuard (j := 7) (o := ⟨some 87, _, _, _, _, _⟩) ?_ ?_ <;> (intro hb hb'; (try dsimp only at hb'); (try (exfalso; first | omega | with_reducible exact absurd rfl hb'))))
  all_goals try ((first | refine EW.eSkipF (j := 7) ?_ | refine EW.eSkipU (j := 7) ?_ | refine EW.eMove ?_); (first | refine EW.eSkipF (j := 7) ?_ | refine EW.eSkipU (j := 7) ?_ | refine EW.eCall Try.call12 (fun w => rof c w hc0 hc1) ?_ | refine EW.eCall Try.call12 (fun w => rof a w ha0 ha1) ?_ | refine EW.eCall Try.call12 (fun w => rof b w hb0 hb1) ?_ | refine EW.eCall Try.call12 (fun w => rof _ w g1 g2) ?_ | refine EW.eCall Try.call12 (fun w => rof _ w k1 k2) ?_); (first | refine EW.eSkipF (j := 7) ?_ | refine EW.eSkipU (j := 7) ?_ | refine EW.eLoadA (k := 21) ?_); (first | refine EW.eSkipF (j := 7) ?_ | refine EW.eSkipU (j := 7) ?_ | refine EW.eNeqA ?_); (first | refine EW.ePickT ?_ | refine EW.ePickF ?_); refine EW.eDraw ?_; (try refine EW.nm ?_))
  all_goals try (first | refine EW.eYes (x := Operand.tmp 91) ?_ | refine EW.eNo (x := Operand.tmp 91) ?_ | (refine EW.eCond (x := Operand.tmp 91) ?_ ?_ <;> (intro hb hb'; (try dsimp only at hb'); (try (exfalso; first | omega | with_reducible exact absurd rfl hb')))))
  all_goals try (refine EW.nm ?_)
  all_goals try ((first | refine EW.eRegL (id := 11) ?_ | refine EW.eReg (id := 11) ?_); refine EW.eAssign ?_; refine EW.eEnd ?_; (try refine EW.nm ?_))
  all_goals try ((first | refine EW.eRegL (id := 12) ?_ | refine EW.eReg (id := 12) ?_); refine EW.eMove ?_; (first | refine EW.eCall Try.call12 (fun w => rof c w hc0 hc1) ?_ | refine EW.eCall Try.call12 (fun w => rof a w ha0 ha1) ?_ | refine EW.eCall Try.call12 (fun w => rof b w hb0 hb1) ?_ | refine EW.eCall Try.call12 (fun w => rof _ w g1 g2) ?_ | refine EW.eCall Try.call12 (fun w => rof _ w k1 k2) ?_); refine EW.eMove ?_; (first | refine EW.eCall Try.call12 (fun w => rof c w hc0 hc1) ?_ | refine EW.eCall Try.call12 (fun w => rof a w ha0 ha1) ?_ | refine EW.eCall Try.call12 (fun w => rof b w hb0 hb1) ?_ | refine EW.eCall Try.call12 (fun w => rof _ w g1 g2) ?_ | refine EW.eCall Try.call12 (fun w => rof _ w k1 k2) ?_); refine EW.eCall Try.call11 (fun w => hP w) ?_; refine EW.eMove ?_; (first | refine EW.eCall Try.call12 (fun w => rof c w hc0 hc1) ?_ | refine EW.eCall Try.call12 (fun w => rof a w ha0 ha1) ?_ | refine EW.eCall Try.call12 (fun w => rof b w hb0 hb1) ?_ | refine EW.eCall Try.call12 (fun w => rof _ w g1 g2) ?_ | refine EW.eCall Try.call12 (fun w => rof _ w k1 k2) ?_); (first | refine EW.eCall Try.call26 (fun w => hR w) ?_ | refine EW.eCall Try.call26 (fun w => hQ w) ?_); refine EW.eMove ?_; (first | refine EW.eExtC ?_ | refine EW.eExtA ?_); (first | refine EW.eExtC ?_ | refine EW.eExtA ?_); (first | refine EW.eExtC ?_ | refine EW.eExtA ?_); refine EW.eAlloc ?_; refine EW.eAlloc ?_; (first | refine EW.eStoreW (k := 21) ?_ | refine EW.eStore (k := 21) ?_); (first | refine EW.eStoreW (k := 21) ?_ | refine EW.eStore (k := 21) ?_); refine EW.eAssign ?_; refine EW.eEnd ?_; (try refine EW.nm ?_))
  all_goals try ((first | refine EW.eRegL (id := 13) ?_ | refine EW.eReg (id := 13) ?_); refine EW.eLoadA (k := 21) ?_; refine EW.eCall Try.call20 (fun w => rtwo63 w) ?_; refine EW.eCall Try.call17 (fun w => hN2 w) ?_; (first | refine EW.eCall Try.call18 (fun w => hL1 w) ?_ | refine EW.eCall Try.call18 (fun w => hL2 w) ?_); refine EW.eNot ?_; refine EW.eMove ?_)
  all_goals try (refine EW.eGuard (j := 5) (o := ⟨some 110, _, _, _, _, _⟩) ?_ ?_ <;> (intro hb hb'; (try dsimp only at hb'); (try (exfalso; first | omega | with_reducible exact absurd rfl hb'))))
  all_goals try ((first | refine EW.eSkipT (j := 5) ?_ | refine EW.eSkipU (j := 5) ?_ | refine EW.eLoadA (k := 21) ?_); (first | refine EW.eSkipT (j := 5) ?_ | refine EW.eSkipU (j := 5) ?_ | refine EW.eCall Try.call20 (fun w => rtwo63 w) ?_); (first | refine EW.eSkipT (j := 5) ?_ | refine EW.eSkipU (j := 5) ?_ | refine EW.eCall Try.call18 (fun w => hL1 w) ?_ | refine EW.eCall Try.call18 (fun w => hL2 w) ?_); (first | refine EW.ePickT ?_ | refine EW.ePickF ?_); refine EW.eAssign ?_; refine EW.eDraw ?_; (try refine EW.nm ?_))
  all_goals try ((first | refine EW.eRegL (id := 14) ?_ | refine EW.eReg (id := 14) ?_); refine EW.eMove ?_; refine EW.eMove ?_)
  all_goals try (refine EW.eGuard (j := 1) (o := ⟨some 116, _, _, _, _, _⟩) ?_ ?_ <;> (intro hb hb'; (try dsimp only at hb'); (try (exfalso; first | omega | with_reducible exact absurd rfl hb'))))
  all_goals try ((first | refine EW.eSkipT (j := 1) ?_ | refine EW.eSkipU (j := 1) ?_ | refine EW.eMove ?_); (first | refine EW.eSkipT (j := 1) ?_ | refine EW.eSkipU (j := 1) ?_ | refine EW.eEql ?_); (first | refine EW.ePickT ?_ | refine EW.ePickF ?_); refine EW.eMove ?_)
  all_goals try (refine EW.eGuard (j := 5) (o := ⟨some 120, _, _, _, _, _⟩) ?_ ?_ <;> (intro hb hb'; (try dsimp only at hb'); (try (exfalso; first | omega | with_reducible exact absurd rfl hb'))))
  all_goals try ((first | refine EW.eSkipT (j := 5) ?_ | refine EW.eSkipU (j := 5) ?_ | refine EW.eMove ?_); (first | refine EW.eSkipT (j := 5) ?_ | refine EW.eSkipU (j := 5) ?_ | refine EW.eCall Try.call12 (fun w => rof c w hc0 hc1) ?_ | refine EW.eCall Try.call12 (fun w => rof a w ha0 ha1) ?_ | refine EW.eCall Try.call12 (fun w => rof b w hb0 hb1) ?_ | refine EW.eCall Try.call12 (fun w => rof _ w g1 g2) ?_ | refine EW.eCall Try.call12 (fun w => rof _ w k1 k2) ?_); (first | refine EW.eSkipT (j := 5) ?_ | refine EW.eSkipU (j := 5) ?_ | refine EW.eLoadA (k := 21) ?_); (first | refine EW.eSkipT (j := 5) ?_ | refine EW.eSkipU (j := 5) ?_ | refine EW.eEqlA ?_); (first | refine EW.ePickT ?_ | refine EW.ePickF ?_); refine EW.eMove ?_)
  all_goals try (refine EW.eGuard (j := 11) (o := ⟨some 126, _, _, _, _, _⟩) ?_ ?_ <;> (intro hb hb'; (try dsimp only at hb'); (try (exfalso; first | omega | with_reducible exact absurd rfl hb'))))
  all_goals try ((first | refine EW.eSkipF (j := 11) ?_ | refine EW.eSkipU (j := 11) ?_ | refine EW.eMove ?_); (first | refine EW.eSkipF (j := 11) ?_ | refine EW.eSkipU (j := 11) ?_ | refine EW.eNot ?_); (first | refine EW.eSkipF (j := 11) ?_ | refine EW.eSkipU (j := 11) ?_ | refine EW.eMove ?_))
  all_goals try (refine EW.eGuard (j := 14) (o := ⟨some 129, _, _, _, _, _⟩) ?_ ?_ <;> (intro hb hb'; (try dsimp only at hb'); (try (exfalso; first | omega | with_reducible exact absurd rfl hb'))))
  all_goals try ((first | refine EW.eSkipT (j := 14) ?_ | refine EW.eSkipU (j := 14) ?_ | refine EW.eMove ?_); (first | refine EW.eSkipT (j := 14) ?_ | refine EW.eSkipU (j := 14) ?_ | refine EW.eEql ?_); (first | refine EW.eSkipF (j := 11) ?_ | refine EW.eSkipU (j := 11) ?_ | refine EW.ePickT ?_ | refine EW.ePickF ?_); (first | refine EW.eSkipF (j := 11) ?_ | refine EW.eSkipU (j := 11) ?_ | refine EW.eMove ?_))
  all_goals try (refine EW.eGuard (j := 18) (o := ⟨some 133, _, _, _, _, _⟩) ?_ ?_ <;> (intro hb hb'; (try dsimp only at hb'); (try (exfalso; first | omega | with_reducible exact absurd rfl hb'))))
  all_goals try ((first | refine EW.eSkipT (j := 18) ?_ | refine EW.eSkipU (j := 18) ?_ | refine EW.eMove ?_); (first | refine EW.eSkipT (j := 18) ?_ | refine EW.eSkipU (j := 18) ?_ | refine EW.eEql ?_); (first | refine EW.eSkipF (j := 11) ?_ | refine EW.eSkipU (j := 11) ?_ | refine EW.ePickT ?_ | refine EW.ePickF ?_); (first | refine EW.ePickT ?_ | refine EW.ePickF ?_); refine EW.eAssign ?_; refine EW.eDraw ?_; (try refine EW.nm ?_))
  all_goals (refine EW.eLeaveP ?_; intro w' hW; refine ⟨?_, hW⟩)
  all_goals rfl
theorem rest_lt (x : Int) {c : Int} (hc : c ≠ 0) : (0 ≤ x - x.fdiv c * c ∧ x - x.fdiv c * c < c) ∨ (c < x - x.fdiv c * c ∧ x - x.fdiv c * c ≤ 0) := by
  have e1 := Int.fdiv_mul_add_fmod x c
  have h2 : x.fmod c = x - x.fdiv c * c := by omega
  rw [← h2]
  rcases Int.lt_or_gt_of_ne hc with h0 | h0
  · right
    have h3 := Int.fmod_nonneg_of_pos (-x) (show 0 < -c by omega)
    have h4 := Int.fmod_lt_of_pos (-x) (show 0 < -c by omega)
    rw [Int.neg_fmod_neg] at h3 h4; omega
  · left; exact ⟨Int.fmod_nonneg_of_pos x h0, Int.fmod_lt_of_pos x h0⟩
theorem fdiv_abs (x : Int) {c : Int} (hc : c ≠ 0) : (x.fdiv c).natAbs ≤ x.natAbs + 1 := by
  obtain ⟨g1, g2, g3⟩ := fdiv_cases (x := x) hc rfl
  have hq := Nat.div_le_self x.natAbs c.natAbs
  generalize x.natAbs / c.natAbs = q at *
  generalize x.natAbs % c.natAbs = r at *
  generalize x.fdiv c = z at *
  by_cases hs : decide (x < 0) = decide (c < 0)
  · have := g3 hs; omega
  · by_cases hr : r = 0
    · have := g2 hs hr; omega
    · have := g1 hs hr; omega
theorem prod_nat {a b : Int} (ha0 : -9223372036854775808 ≤ a) (ha1 : a ≤ 9223372036854775807) (hb0 : -9223372036854775808 ≤ b) (hb1 : b ≤ 9223372036854775807) : (a * b).natAbs ≤ 85070591730234615865843651857942052864 := by
  rw [Int.natAbs_mul]
  have : a.natAbs * b.natAbs ≤ 9223372036854775808 * 9223372036854775808 := Nat.mul_le_mul (by omega) (by omega)
  omega
theorem divides_c (x a b c : Int) (w : World) (hc : c ≠ 0) (hx : In128 x) (ha0 : -9223372036854775808 ≤ a) (ha1 : a ≤ 9223372036854775807) (hb0 : -9223372036854775808 ≤ b) (hb1 : b ≤ 9223372036854775807) (hc0 : -9223372036854775808 ≤ c) (hc1 : c ≤ 9223372036854775807) : Calls Try.prog 4 #[W2 x, .int .i64 a, .int .i64 b, .int .i64 c] w fun e w' => e = .returned (.bool true) ∧ Below w.heap.size w w' := by
  have hW := W20_lit
  have hxa : x.natAbs ≤ 170141183460469231731687303715884105728 := abs_le hx
  have hk := prod_nat ha0 ha1 hb0 hb1
  have hca : c.natAbs ≤ 9223372036854775808 := by omega
  have hF := fun w => rfrom (x / 18446744073709551616) (x % 18446744073709551616) w (by unfold In128 at hx; omega) (by unfold In128 at hx; omega) (by omega) (by omega)
  rw [show x / 18446744073709551616 * 18446744073709551616 + x % 18446744073709551616 = x by omega] at hF
  have hD := fun w => wdiv x c w hx hc0 hc1
  have hR := fun w => rdivS x c w (by omega) hc (by omega)
  have hQ := fun w => rdivS (a * b) c w (by omega) hc (by omega)
  have hM := fun w => wmuldiv a b c w ha0 ha1 hb0 hb1 hc0 hc1
  have hP := fun w => rmul64 a b w ha0 ha1 hb0 hb1
  have hz1 := fdiv_abs x hc
  have hz2 := fdiv_abs (a * b) hc
  have hr1 := rest_lt x hc
  have e1 : dQ x c = wV (x.fdiv c) := by unfold dQ wV; rw [if_neg hc]
  have e2 : dE x c = wE (x.fdiv c) := by unfold dE wE; rw [if_neg hc]
  have hin : In128 ((a * b).fdiv c) := ⟨by omega, by omega⟩
  have e3 : dQ (a * b) c = (a * b).fdiv c := by unfold dQ; rw [if_neg hc, if_pos hin]
  have e4 : dE (a * b) c = 0 := by unfold dE; rw [if_neg hc, if_pos hin]
  have e5 : mdV a b c = iV ((a * b).fdiv c) := by unfold mdV; rw [e4, if_pos rfl, e3]
  have e6 : mdE a b c = iE ((a * b).fdiv c) := by unfold mdE; rw [e4, if_pos rfl, e3]
  have hC := fun w => rcutV (x.fdiv c) w (by omega)
  have hL1 := fun w => rlessZ ((a * b).fdiv c) (-9223372036854775808) w (by omega)
  have hL2 := fun w => rlessZ ((a * b).fdiv c) 9223372036854775808 w (by omega)
  rw [e1, e2] at hD
  rw [e5, e6] at hM
  have e7 : dR x c = if In128 (x.fdiv c) then x - x.fdiv c * c else 0 := by unfold dR; rw [if_neg hc]
  refine divides x a b c (wV (x.fdiv c)) (dR x c) (x.fdiv c) (x - x.fdiv c * c) (wE (x.fdiv c)) ((a * b).fdiv c) (a * b) (iV ((a * b).fdiv c)) (iE ((a * b).fdiv c)) _ w hx ha0 ha1 hb0 hb1 hc0 hc1 ?_ ?_ hF hD hR hC hM hP hQ hL1 hL2
  · rw [e7]; unfold wE
    by_cases hi : In128 (x.fdiv c)
    · rw [if_pos hi, if_pos hi]; left; refine ⟨rfl, rfl, ?_, ?_⟩ <;> omega
    · rw [if_neg hi, if_neg hi]; right; exact ⟨rfl, rfl⟩
  · by_cases hi : -9223372036854775808 ≤ (a * b).fdiv c ∧ (a * b).fdiv c ≤ 9223372036854775807
    · obtain ⟨f1, f2⟩ := iV_yes hi
      rw [f1, f2]; left; exact ⟨rfl, rfl, hi.1, hi.2⟩
    · obtain ⟨f1, f2⟩ := iV_no hi
      rw [f1, f2]; right; exact ⟨rfl, rfl, by omega⟩
theorem divides_any (w : World) (h l a b c : Int) (g1 : -9223372036854775808 ≤ h) (g2 : h ≤ 9223372036854775807) (g3 : 0 ≤ l) (g4 : l < 18446744073709551616) (ha0 : -9223372036854775808 ≤ a) (ha1 : a ≤ 9223372036854775807) (hb0 : -9223372036854775808 ≤ b) (hb1 : b ≤ 9223372036854775807) (hc0 : -9223372036854775808 ≤ c) (hc1 : c ≤ 9223372036854775807) :
    Calls Try.prog 4 #[.agg #[.int .i64 h, .int .u64 l], .int .i64 a, .int .i64 b, .int .i64 c] w fun e w' => e = .returned (.bool true) ∧ Below w.heap.size w w' := by
  rw [w2_alt (z := h * 18446744073709551616 + l) (by omega) (by omega)]
  have hx : In128 (h * 18446744073709551616 + l) := ⟨by omega, by omega⟩
  generalize h * 18446744073709551616 + l = x at *
  by_cases hc : c = 0
  · subst hc; exact divides0 x a b w hx ha0 ha1 hb0 hb1
  · exact divides_c x a b c w hc hx ha0 ha1 hb0 hb1 hc0 hc1
end Go.Proofs.Ytbjogekhedglgaa
