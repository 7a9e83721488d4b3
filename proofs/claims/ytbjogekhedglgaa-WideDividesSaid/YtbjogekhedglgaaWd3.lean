/- Package wide: Div, MulDiv. -/
import Derived.Test.YtbjogekhedglgaaWd2
import Derived.Test.YtbjogekhedglgaaBg5
namespace Go.Proofs.Ytbjogekhedglgaa
set_option linter.unusedSimpArgs false
set_option linter.unusedVariables false
open Go.RowKit EV
open SX (Wr Tv Qu Rm Sh Is conjP eqs_iff eqs_false)
open EW (PlL PlT PlV PlVs LfV Mm Bt Opn GV nums)
set_option maxRecDepth 20000
theorem div_ok {z c q r : Int} (hc : c ≠ 0) (hq : z.fdiv c = q) (hi : In128 q) (hr : r = z - q * c) : Ending.returned (.tuple #[W2 q, .int .i64 r, .int .i64 0]) = Ending.returned (.tuple #[W2 (dQ z c), .int .i64 (dR z c), .int .i64 (dE z c)]) := by
  rw [dQ, dR, dE, if_neg hc, if_neg hc, if_neg hc, hq, if_pos hi, if_pos hi, if_pos hi, hr]
theorem div_big {z c q : Int} (hc : c ≠ 0) (hq : z.fdiv c = q) (hi : ¬ In128 q) : Ending.returned (.tuple #[.agg #[.int .i64 0, .int .u64 0], .int .i64 0, .int .i64 20]) = Ending.returned (.tuple #[W2 (dQ z c), .int .i64 (dR z c), .int .i64 (dE z c)]) := by
  rw [dQ, dR, dE, if_neg hc, if_neg hc, if_neg hc, hq, if_neg hi, if_neg hi, if_neg hi]; rfl
theorem w2_alt {a b z : Int} (h1 : a = z / 18446744073709551616) (h2 : b = z % 18446744073709551616) : Value.agg #[.int .i64 a, .int .u64 b] = W2 z := by rw [h1, h2]
/-- What comes out, in letters. -/
def resD (hi c C QH QL R NH NL MH ML : Int) : Value :=
  if (hi < 0) = (c < 0) then (if QH < 0 then .tuple #[.agg #[.int .i64 0, .int .u64 0], .int .i64 0, .int .i64 20] else .tuple #[.agg #[.int .i64 QH, .int .u64 QL], .int .i64 (if c < 0 then -R else R), .int .i64 0])
  else if 0 < R then .tuple #[.agg #[.int .i64 MH, .int .u64 ML], .int .i64 (if c < 0 then -(C - R) else C - R), .int .i64 0]
  else .tuple #[.agg #[.int .i64 NH, .int .u64 NL], .int .i64 (if c < 0 then -R else R), .int .i64 0]
theorem wdiv_walk (hi lo c ah al C QH QL R NH NL OH OL MH ML : Int) (w : World) (hc : c ≠ 0) (hR : 0 ≤ R ∧ R < C) (hC : C = if c < 0 then -c else c) (hb : -9223372036854775808 ≤ c ∧ c ≤ 9223372036854775807)
    (hS : ∀ w, Calls Try.prog 41 #[.int .i64 c] w fun e w' => e = .returned (.int .u64 C) ∧ Below w.heap.size w w')
    (hT : ∀ w, Calls Try.prog 39 #[.agg #[.int .i64 hi, .int .u64 lo]] w fun e w' => e = .returned (.agg #[.int .i64 ah, .int .u64 al]) ∧ Below w.heap.size w w')
    (hP1 : hi < 0 → ∀ w, Calls Try.prog 45 #[.agg #[.int .i64 ah, .int .u64 al], .int .u64 C] w fun e w' => e = .returned (.tuple #[.agg #[.int .i64 QH, .int .u64 QL], .int .u64 R]) ∧ Below w.heap.size w w')
    (hP2 : 0 ≤ hi → ∀ w, Calls Try.prog 45 #[.agg #[.int .i64 hi, .int .u64 lo], .int .u64 C] w fun e w' => e = .returned (.tuple #[.agg #[.int .i64 QH, .int .u64 QL], .int .u64 R]) ∧ Below w.heap.size w w')
    (hT2 : ∀ w, Calls Try.prog 39 #[.agg #[.int .i64 QH, .int .u64 QL]] w fun e w' => e = .returned (.agg #[.int .i64 NH, .int .u64 NL]) ∧ Below w.heap.size w w')
    (hO : ∀ w, Calls Try.prog 22 #[.int .i64 (-1)] w fun e w' => e = .returned (.agg #[.int .i64 OH, .int .u64 OL]) ∧ Below w.heap.size w w')
    (hPl : ∀ w, Calls Try.prog 35 #[.agg #[.int .i64 NH, .int .u64 NL], .agg #[.int .i64 OH, .int .u64 OL]] w fun e w' => e = .returned (.agg #[.int .i64 MH, .int .u64 ML]) ∧ Below w.heap.size w w') :
    Calls Try.prog 25 #[.agg #[.int .i64 hi, .int .u64 lo], .int .i64 c] w fun e w' => e = .returned (resD hi c C QH QL R NH NL MH ML) ∧ Below w.heap.size w w' := by
  obtain ⟨hR0, hR1⟩ := hR
  obtain ⟨hb0, hb1⟩ := hb
  have hC1 : C ≤ 9223372036854775808 := by rw [hC]; split <;> omega
  have hC2 : 0 ≤ c → C ≤ 9223372036854775807 := fun h => by rw [hC, if_neg (by omega)]; exact hb1
  clear hC
  unfold resD
  have n1 : 0 < R → IntKind.i64.wrap ((0 - (C - R)) % 18446744073709551616) = -(C - R) := fun h => by rw [IntKind.wrap_i64]; omega
  have n2 : IntKind.i64.wrap ((0 - R) % 18446744073709551616) = -R := by rw [IntKind.wrap_i64]; omega
  rcases Int.lt_or_le hi 0 with h1 | h1 <;> rcases Int.lt_or_le c 0 with h2 | h2
  · rw [if_pos (by rw [eq_iff_iff]; omega), if_pos h2]
    by_cases h3 : QH < 0
    all_goals
      first | rw [if_pos h3] | rw [if_neg h3]
      refine EW.eEnter Try.func25 rfl Try.ntmps25 ?_
      all_goals try (refine EW.nm ?_)
      all_goals try ((first | refine EW.eRegL (id := 0) ?_ | refine EW.eReg (id := 0) ?_); refine EW.eBox ?_; refine EW.eAlloc ?_; refine EW.eAssign ?_; refine EW.eAssign ?_; refine EW.eEnd ?_; (try refine EW.nm ?_))
      all_goals try ((first | refine EW.eRegL (id := 1) ?_ | refine EW.eReg (id := 1) ?_); refine EW.eMove ?_; refine EW.eEql ?_; refine EW.eEnd ?_; (try refine EW.nm ?_))
      all_goals try (first | refine EW.eYes (x := Operand.tmp 12) ?_ | refine EW.eNo (x := Operand.tmp 12) ?_ | (refine EW.eCond (x := Operand.tmp 12) ?_ ?_ <;> (intro hb hb'; (try dsimp only at hb'); (try (exfalso; first | omega | with_reducible exact absurd rfl hb')))))
      all_goals try (refine EW.nm ?_)
      all_goals try ((first | refine EW.eRegL (id := 2) ?_ | refine EW.eReg (id := 2) ?_); refine EW.eBuild (place := fun i => [(0, 1), (1, 1)][i]?) ?_; (first | refine EW.eStoreW (k := 2) ?_ | refine EW.eStore (k := 2) ?_); refine EW.eAssign ?_; refine EW.eAssign ?_; refine EW.eEnd ?_; (try refine EW.nm ?_))
      all_goals try ((first | refine EW.eRegL (id := 3) ?_ | refine EW.eReg (id := 3) ?_); refine EW.eFieldAddr (k := 1) ?_; refine EW.eLoad1 ?_; refine EW.eLss ?_; refine EW.eAssign ?_; refine EW.eEnd ?_; (try refine EW.nm ?_))
      all_goals try ((first | refine EW.eRegL (id := 4) ?_ | refine EW.eReg (id := 4) ?_); refine EW.eLoadA (k := 2) ?_; refine EW.eAlloc ?_; (first | refine EW.eStoreW (k := 2) ?_ | refine EW.eStore (k := 2) ?_); refine EW.eEnd ?_; (try refine EW.nm ?_))
      all_goals try ((first | refine EW.eRegL (id := 5) ?_ | refine EW.eReg (id := 5) ?_); refine EW.eMove ?_; refine EW.eEnd ?_; (try refine EW.nm ?_))
      all_goals try (first | refine EW.eYes (x := Operand.tmp 18) ?_ | refine EW.eNo (x := Operand.tmp 18) ?_ | (refine EW.eCond (x := Operand.tmp 18) ?_ ?_ <;> (intro hb hb'; (try dsimp only at hb'); (try (exfalso; first | omega | with_reducible exact absurd rfl hb')))))
      all_goals try (refine EW.nm ?_)
      all_goals try ((first | refine EW.eRegL (id := 6) ?_ | refine EW.eReg (id := 6) ?_); refine EW.eLoadA (k := 2) ?_; refine EW.eCall Try.call39 (fun w => hT w) ?_; (first | refine EW.eStoreW (k := 2) ?_ | refine EW.eStore (k := 2) ?_); refine EW.eEnd ?_; (try refine EW.nm ?_))
      all_goals try ((first | refine EW.eRegL (id := 7) ?_ | refine EW.eReg (id := 7) ?_); refine EW.eLoadA (k := 2) ?_; refine EW.eMove ?_; refine EW.eCall Try.call41 (fun w => hS w) ?_; refine EW.eCall Try.call45 (fun w => hP1 h1 w) ?_; refine EW.eMove ?_; (first | refine EW.eExtC ?_ | refine EW.eExtA ?_); (first | refine EW.eExtC ?_ | refine EW.eExtA ?_); refine EW.eAlloc ?_; (first | refine EW.eStoreW (k := 2) ?_ | refine EW.eStore (k := 2) ?_); refine EW.eAssign ?_; refine EW.eDraw ?_; (try refine EW.nm ?_))
      all_goals try ((first | refine EW.eRegL (id := 8) ?_ | refine EW.eReg (id := 8) ?_); refine EW.eMove ?_; refine EW.eMove ?_; refine EW.eLss ?_; refine EW.eNeqB ?_; refine EW.eEnd ?_; (try refine EW.nm ?_))
      all_goals try (first | refine EW.eYes (x := Operand.tmp 31) ?_ | refine EW.eNo (x := Operand.tmp 31) ?_ | (refine EW.eCond (x := Operand.tmp 31) ?_ ?_ <;> (intro hb hb'; (try dsimp only at hb'); (try (exfalso; first | omega | with_reducible exact absurd rfl hb')))))
      all_goals try (refine EW.nm ?_)
      all_goals try ((first | refine EW.eRegL (id := 9) ?_ | refine EW.eReg (id := 9) ?_); refine EW.eLoadA (k := 2) ?_; refine EW.eCall Try.call39 (fun w => hT w) ?_; (first | refine EW.eStoreW (k := 2) ?_ | refine EW.eStore (k := 2) ?_); refine EW.eEnd ?_; (try refine EW.nm ?_))
      all_goals try ((first | refine EW.eRegL (id := 10) ?_ | refine EW.eReg (id := 10) ?_); refine EW.eMove ?_; refine EW.eGtr ?_; refine EW.eEnd ?_; (try refine EW.nm ?_))
      all_goals try (first | refine EW.eYes (x := Operand.tmp 35) ?_ | refine EW.eNo (x := Operand.tmp 35) ?_ | (refine EW.eCond (x := Operand.tmp 35) ?_ ?_ <;> (intro hb hb'; (try dsimp only at hb'); (try (exfalso; first | omega | with_reducible exact absurd rfl hb')))))
      all_goals try (refine EW.nm ?_)
      all_goals try ((first | refine EW.eRegL (id := 11) ?_ | refine EW.eReg (id := 11) ?_); refine EW.eLoadA (k := 2) ?_; fail "no contract of mullion/wide.Of"; fail "no contract of mullion/wide.plus"; refine EW.eMove ?_; refine EW.eCall Try.call41 (fun w => hS w) ?_; refine EW.eMove ?_; refine EW.eSub ?_; (first | refine EW.eStoreW (k := 2) ?_ | refine EW.eStore (k := 2) ?_); refine EW.eAssign ?_; refine EW.eDraw ?_; (try refine EW.nm ?_))
      all_goals try ((first | refine EW.eRegL (id := 12) ?_ | refine EW.eReg (id := 12) ?_); refine EW.eFieldAddr (k := 1) ?_; refine EW.eLoad1 ?_; refine EW.eLss ?_; refine EW.eEnd ?_; (try refine EW.nm ?_))
      all_goals try (first | refine EW.eYes (x := Operand.tmp 45) ?_ | refine EW.eNo (x := Operand.tmp 45) ?_ | (refine EW.eCond (x := Operand.tmp 45) ?_ ?_ <;> (intro hb hb'; (try dsimp only at hb'); (try (exfalso; first | omega | with_reducible exact absurd rfl hb')))))
      all_goals try (refine EW.nm ?_)
      all_goals try ((first | refine EW.eRegL (id := 13) ?_ | refine EW.eReg (id := 13) ?_); refine EW.eBuild (place := fun i => [(0, 1), (1, 1)][i]?) ?_; (first | refine EW.eStoreW (k := 2) ?_ | refine EW.eStore (k := 2) ?_); refine EW.eAssign ?_; refine EW.eAssign ?_; refine EW.eEnd ?_; (try refine EW.nm ?_))
      all_goals try ((first | refine EW.eRegL (id := 14) ?_ | refine EW.eReg (id := 14) ?_); refine EW.eMove ?_; refine EW.eLss ?_; refine EW.eEnd ?_; (try refine EW.nm ?_))
      all_goals try (first | refine EW.eYes (x := Operand.tmp 48) ?_ | refine EW.eNo (x := Operand.tmp 48) ?_ | (refine EW.eCond (x := Operand.tmp 48) ?_ ?_ <;> (intro hb hb'; (try dsimp only at hb'); (try (exfalso; first | omega | with_reducible exact absurd rfl hb')))))
      all_goals try (refine EW.nm ?_)
      all_goals try ((first | refine EW.eRegL (id := 15) ?_ | refine EW.eReg (id := 15) ?_); refine EW.eLoadA (k := 2) ?_; refine EW.eMove ?_; refine EW.eNeg ?_; refine EW.eConv ?_; (first | refine EW.eStoreW (k := 2) ?_ | refine EW.eStore (k := 2) ?_); refine EW.eAssign ?_; refine EW.eAssign ?_; refine EW.eEnd ?_; (try refine EW.nm ?_))
      all_goals try ((first | refine EW.eRegL (id := 16) ?_ | refine EW.eReg (id := 16) ?_); refine EW.eLoadA (k := 2) ?_; refine EW.eMove ?_; refine EW.eConv ?_; (first | refine EW.eStoreW (k := 2) ?_ | refine EW.eStore (k := 2) ?_); refine EW.eAssign ?_; refine EW.eAssign ?_; refine EW.eEnd ?_; (try refine EW.nm ?_))
      all_goals (refine EW.eLeaveP ?_; intro w' hW; refine ⟨?_, hW⟩)
      all_goals first | rfl | (simp only [n2]; done) | (refine congrArg (fun n => Ending.returned (.tuple #[_, .int .i64 n, _])) ?_; omega)
  · have hcc : ¬ c < 0 := by omega
    rw [if_neg (by rw [eq_iff_iff]; omega)]
    simp only [if_neg hcc]
    have := hC2 h2
    by_cases h3 : 0 < R
    all_goals
      first | rw [if_pos h3] | rw [if_neg h3]
      refine EW.eEnter Try.func25 rfl Try.ntmps25 ?_
      all_goals try (refine EW.nm ?_)
      all_goals try ((first | refine EW.eRegL (id := 0) ?_ | refine EW.eReg (id := 0) ?_); refine EW.eBox ?_; refine EW.eAlloc ?_; refine EW.eAssign ?_; refine EW.eAssign ?_; refine EW.eEnd ?_; (try refine EW.nm ?_))
      all_goals try ((first | refine EW.eRegL (id := 1) ?_ | refine EW.eReg (id := 1) ?_); refine EW.eMove ?_; refine EW.eEql ?_; refine EW.eEnd ?_; (try refine EW.nm ?_))
      all_goals try (first | refine EW.eYes (x := Operand.tmp 12) ?_ | refine EW.eNo (x := Operand.tmp 12) ?_ | (refine EW.eCond (x := Operand.tmp 12) ?_ ?_ <;> (intro hb hb'; (try dsimp only at hb'); (try (exfalso; first | omega | with_reducible exact absurd rfl hb')))))
      all_goals try (refine EW.nm ?_)
      all_goals try ((first | refine EW.eRegL (id := 2) ?_ | refine EW.eReg (id := 2) ?_); refine EW.eBuild (place := fun i => [(0, 1), (1, 1)][i]?) ?_; (first | refine EW.eStoreW (k := 2) ?_ | refine EW.eStore (k := 2) ?_); refine EW.eAssign ?_; refine EW.eAssign ?_; refine EW.eEnd ?_; (try refine EW.nm ?_))
      all_goals try ((first | refine EW.eRegL (id := 3) ?_ | refine EW.eReg (id := 3) ?_); refine EW.eFieldAddr (k := 1) ?_; refine EW.eLoad1 ?_; refine EW.eLss ?_; refine EW.eAssign ?_; refine EW.eEnd ?_; (try refine EW.nm ?_))
      all_goals try ((first | refine EW.eRegL (id := 4) ?_ | refine EW.eReg (id := 4) ?_); refine EW.eLoadA (k := 2) ?_; refine EW.eAlloc ?_; (first | refine EW.eStoreW (k := 2) ?_ | refine EW.eStore (k := 2) ?_); refine EW.eEnd ?_; (try refine EW.nm ?_))
      all_goals try ((first | refine EW.eRegL (id := 5) ?_ | refine EW.eReg (id := 5) ?_); refine EW.eMove ?_; refine EW.eEnd ?_; (try refine EW.nm ?_))
      all_goals try (first | refine EW.eYes (x := Operand.tmp 18) ?_ | refine EW.eNo (x := Operand.tmp 18) ?_ | (refine EW.eCond (x := Operand.tmp 18) ?_ ?_ <;> (intro hb hb'; (try dsimp only at hb'); (try (exfalso; first | omega | with_reducible exact absurd rfl hb')))))
      all_goals try (refine EW.nm ?_)
      all_goals try ((first | refine EW.eRegL (id := 6) ?_ | refine EW.eReg (id := 6) ?_); refine EW.eLoadA (k := 2) ?_; (first | refine EW.eCall Try.call39 (fun w => hT w) ?_ | refine EW.eCall Try.call39 (fun w => hT2 w) ?_); (first | refine EW.eStoreW (k := 2) ?_ | refine EW.eStore (k := 2) ?_); refine EW.eEnd ?_; (try refine EW.nm ?_))
      all_goals try ((first | refine EW.eRegL (id := 7) ?_ | refine EW.eReg (id := 7) ?_); refine EW.eLoadA (k := 2) ?_; refine EW.eMove ?_; refine EW.eCall Try.call41 (fun w => hS w) ?_; refine EW.eCall Try.call45 (fun w => hP1 h1 w) ?_; refine EW.eMove ?_; (first | refine EW.eExtC ?_ | refine EW.eExtA ?_); (first | refine EW.eExtC ?_ | refine EW.eExtA ?_); refine EW.eAlloc ?_; (first | refine EW.eStoreW (k := 2) ?_ | refine EW.eStore (k := 2) ?_); refine EW.eAssign ?_; refine EW.eDraw ?_; (try refine EW.nm ?_))
      all_goals try ((first | refine EW.eRegL (id := 8) ?_ | refine EW.eReg (id := 8) ?_); refine EW.eMove ?_; refine EW.eMove ?_; refine EW.eLss ?_; refine EW.eNeqB ?_; refine EW.eEnd ?_; (try refine EW.nm ?_))
      all_goals try (first | refine EW.eYes (x := Operand.tmp 31) ?_ | refine EW.eNo (x := Operand.tmp 31) ?_ | (refine EW.eCond (x := Operand.tmp 31) ?_ ?_ <;> (intro hb hb'; (try dsimp only at hb'); (try (exfalso; first | omega | with_reducible exact absurd rfl hb')))))
      all_goals try (refine EW.nm ?_)
      all_goals try ((first | refine EW.eRegL (id := 9) ?_ | refine EW.eReg (id := 9) ?_); refine EW.eLoadA (k := 2) ?_; (first | refine EW.eCall Try.call39 (fun w => hT w) ?_ | refine EW.eCall Try.call39 (fun w => hT2 w) ?_); (first | refine EW.eStoreW (k := 2) ?_ | refine EW.eStore (k := 2) ?_); refine EW.eEnd ?_; (try refine EW.nm ?_))
      all_goals try ((first | refine EW.eRegL (id := 10) ?_ | refine EW.eReg (id := 10) ?_); refine EW.eMove ?_; refine EW.eGtr ?_; refine EW.eEnd ?_; (try refine EW.nm ?_))
      all_goals try (first | refine EW.eYes (x := Operand.tmp 35) ?_ | refine EW.eNo (x := Operand.tmp 35) ?_ | (refine EW.eCond (x := Operand.tmp 35) ?_ ?_ <;> (intro hb hb'; (try dsimp only at hb'); (try (exfalso; first | omega | with_reducible exact absurd rfl hb')))))
      all_goals try (refine EW.nm ?_)
      all_goals try ((first | refine EW.eRegL (id := 11) ?_ | refine EW.eReg (id := 11) ?_); refine EW.eLoadA (k := 2) ?_; refine EW.eCall Try.call22 (fun w => hO w) ?_; refine EW.eCall Try.call35 (fun w => hPl w) ?_; refine EW.eMove ?_; refine EW.eCall Try.call41 (fun w => hS w) ?_; refine EW.eMove ?_; refine EW.eSub ?_; (first | refine EW.eStoreW (k := 2) ?_ | refine EW.eStore (k := 2) ?_); refine EW.eAssign ?_; refine EW.eDraw ?_; (try refine EW.nm ?_))
      all_goals try ((first | refine EW.eRegL (id := 12) ?_ | refine EW.eReg (id := 12) ?_); refine EW.eFieldAddr (k := 1) ?_; refine EW.eLoad1 ?_; refine EW.eLss ?_; refine EW.eEnd ?_; (try refine EW.nm ?_))
      all_goals try (first | refine EW.eYes (x := Operand.tmp 45) ?_ | refine EW.eNo (x := Operand.tmp 45) ?_ | (refine EW.eCond (x := Operand.tmp 45) ?_ ?_ <;> (intro hb hb'; (try dsimp only at hb'); (try (exfalso; first | omega | with_reducible exact absurd rfl hb')))))
      all_goals try (refine EW.nm ?_)
      all_goals try ((first | refine EW.eRegL (id := 13) ?_ | refine EW.eReg (id := 13) ?_); refine EW.eBuild (place := fun i => [(0, 1), (1, 1)][i]?) ?_; (first | refine EW.eStoreW (k := 2) ?_ | refine EW.eStore (k := 2) ?_); refine EW.eAssign ?_; refine EW.eAssign ?_; refine EW.eEnd ?_; (try refine EW.nm ?_))
      all_goals try ((first | refine EW.eRegL (id := 14) ?_ | refine EW.eReg (id := 14) ?_); refine EW.eMove ?_; refine EW.eLss ?_; refine EW.eEnd ?_; (try refine EW.nm ?_))
      all_goals try (first | refine EW.eYes (x := Operand.tmp 48) ?_ | refine EW.eNo (x := Operand.tmp 48) ?_ | (refine EW.eCond (x := Operand.tmp 48) ?_ ?_ <;> (intro hb hb'; (try dsimp only at hb'); (try (exfalso; first | omega | with_reducible exact absurd rfl hb')))))
      all_goals try (refine EW.nm ?_)
      all_goals try ((first | refine EW.eRegL (id := 15) ?_ | refine EW.eReg (id := 15) ?_); refine EW.eLoadA (k := 2) ?_; refine EW.eMove ?_; refine EW.eNeg ?_; refine EW.eConv ?_; (first | refine EW.eStoreW (k := 2) ?_ | refine EW.eStore (k := 2) ?_); refine EW.eAssign ?_; refine EW.eAssign ?_; refine EW.eEnd ?_; (try refine EW.nm ?_))
      all_goals try ((first | refine EW.eRegL (id := 16) ?_ | refine EW.eReg (id := 16) ?_); refine EW.eLoadA (k := 2) ?_; refine EW.eMove ?_; refine EW.eConv ?_; (first | refine EW.eStoreW (k := 2) ?_ | refine EW.eStore (k := 2) ?_); refine EW.eAssign ?_; refine EW.eAssign ?_; refine EW.eEnd ?_; (try refine EW.nm ?_))
      all_goals (refine EW.eLeaveP ?_; intro w' hW; refine ⟨?_, hW⟩)
      all_goals rfl
  · rw [if_neg (by rw [eq_iff_iff]; omega), if_pos h2, if_pos h2]
    by_cases h3 : 0 < R
    all_goals
      first | (rw [if_pos h3]; have n3 := n1 h3) | rw [if_neg h3]
      refine EW.eEnter Try.func25 rfl Try.ntmps25 ?_
      all_goals try (refine EW.nm ?_)
      all_goals try ((first | refine EW.eRegL (id := 0) ?_ | refine EW.eReg (id := 0) ?_); refine EW.eBox ?_; refine EW.eAlloc ?_; refine EW.eAssign ?_; refine EW.eAssign ?_; refine EW.eEnd ?_; (try refine EW.nm ?_))
      all_goals try ((first | refine EW.eRegL (id := 1) ?_ | refine EW.eReg (id := 1) ?_); refine EW.eMove ?_; refine EW.eEql ?_; refine EW.eEnd ?_; (try refine EW.nm ?_))
      all_goals try (first | refine EW.eYes (x := Operand.tmp 12) ?_ | refine EW.eNo (x := Operand.tmp 12) ?_ | (refine EW.eCond (x := Operand.tmp 12) ?_ ?_ <;> (intro hb hb'; (try dsimp only at hb'); (try (exfalso; first | omega | with_reducible exact absurd rfl hb')))))
      all_goals try (refine EW.nm ?_)
      all_goals try ((first | refine EW.eRegL (id := 2) ?_ | refine EW.eReg (id := 2) ?_); refine EW.eBuild (place := fun i => [(0, 1), (1, 1)][i]?) ?_; (first | refine EW.eStoreW (k := 2) ?_ | refine EW.eStore (k := 2) ?_); refine EW.eAssign ?_; refine EW.eAssign ?_; refine EW.eEnd ?_; (try refine EW.nm ?_))
      all_goals try ((first | refine EW.eRegL (id := 3) ?_ | refine EW.eReg (id := 3) ?_); refine EW.eFieldAddr (k := 1) ?_; refine EW.eLoad1 ?_; refine EW.eLss ?_; refine EW.eAssign ?_; refine EW.eEnd ?_; (try refine EW.nm ?_))
      all_goals try ((first | refine EW.eRegL (id := 4) ?_ | refine EW.eReg (id := 4) ?_); refine EW.eLoadA (k := 2) ?_; refine EW.eAlloc ?_; (first | refine EW.eStoreW (k := 2) ?_ | refine EW.eStore (k := 2) ?_); refine EW.eEnd ?_; (try refine EW.nm ?_))
      all_goals try ((first | refine EW.eRegL (id := 5) ?_ | refine EW.eReg (id := 5) ?_); refine EW.eMove ?_; refine EW.eEnd ?_; (try refine EW.nm ?_))
      all_goals try (first | refine EW.eYes (x := Operand.tmp 18) ?_ | refine EW.eNo (x := Operand.tmp 18) ?_ | (refine EW.eCond (x := Operand.tmp 18) ?_ ?_ <;> (intro hb hb'; (try dsimp only at hb'); (try (exfalso; first | omega | with_reducible exact absurd rfl hb')))))
      all_goals try (refine EW.nm ?_)
      all_goals try ((first | refine EW.eRegL (id := 6) ?_ | refine EW.eReg (id := 6) ?_); refine EW.eLoadA (k := 2) ?_; refine EW.eCall Try.call39 (fun w => hT2 w) ?_; (first | refine EW.eStoreW (k := 2) ?_ | refine EW.eStore (k := 2) ?_); refine EW.eEnd ?_; (try refine EW.nm ?_))
      all_goals try ((first | refine EW.eRegL (id := 7) ?_ | refine EW.eReg (id := 7) ?_); refine EW.eLoadA (k := 2) ?_; refine EW.eMove ?_; refine EW.eCall Try.call41 (fun w => hS w) ?_; refine EW.eCall Try.call45 (fun w => hP2 h1 w) ?_; refine EW.eMove ?_; (first | refine EW.eExtC ?_ | refine EW.eExtA ?_); (first | refine EW.eExtC ?_ | refine EW.eExtA ?_); refine EW.eAlloc ?_; (first | refine EW.eStoreW (k := 2) ?_ | refine EW.eStore (k := 2) ?_); refine EW.eAssign ?_; refine EW.eDraw ?_; (try refine EW.nm ?_))
      all_goals try ((first | refine EW.eRegL (id := 8) ?_ | refine EW.eReg (id := 8) ?_); refine EW.eMove ?_; refine EW.eMove ?_; refine EW.eLss ?_; refine EW.eNeqB ?_; refine EW.eEnd ?_; (try refine EW.nm ?_))
      all_goals try (first | refine EW.eYes (x := Operand.tmp 31) ?_ | refine EW.eNo (x := Operand.tmp 31) ?_ | (refine EW.eCond (x := Operand.tmp 31) ?_ ?_ <;> (intro hb hb'; (try dsimp only at hb'); (try (exfalso; first | omega | with_reducible exact absurd rfl hb')))))
      all_goals try (refine EW.nm ?_)
      all_goals try ((first | refine EW.eRegL (id := 9) ?_ | refine EW.eReg (id := 9) ?_); refine EW.eLoadA (k := 2) ?_; refine EW.eCall Try.call39 (fun w => hT2 w) ?_; (first | refine EW.eStoreW (k := 2) ?_ | refine EW.eStore (k := 2) ?_); refine EW.eEnd ?_; (try refine EW.nm ?_))
      all_goals try ((first | refine EW.eRegL (id := 10) ?_ | refine EW.eReg (id := 10) ?_); refine EW.eMove ?_; refine EW.eGtr ?_; refine EW.eEnd ?_; (try refine EW.nm ?_))
      all_goals try (first | refine EW.eYes (x := Operand.tmp 35) ?_ | refine EW.eNo (x := Operand.tmp 35) ?_ | (refine EW.eCond (x := Operand.tmp 35) ?_ ?_ <;> (intro hb hb'; (try dsimp only at hb'); (try (exfalso; first | omega | with_reducible exact absurd rfl hb')))))
      all_goals try (refine EW.nm ?_)
      all_goals try ((first | refine EW.eRegL (id := 11) ?_ | refine EW.eReg (id := 11) ?_); refine EW.eLoadA (k := 2) ?_; refine EW.eCall Try.call22 (fun w => hO w) ?_; refine EW.eCall Try.call35 (fun w => hPl w) ?_; refine EW.eMove ?_; refine EW.eCall Try.call41 (fun w => hS w) ?_; refine EW.eMove ?_; refine EW.eSub ?_; (first | refine EW.eStoreW (k := 2) ?_ | refine EW.eStore (k := 2) ?_); refine EW.eAssign ?_; refine EW.eDraw ?_; (try refine EW.nm ?_))
      all_goals try ((first | refine EW.eRegL (id := 12) ?_ | refine EW.eReg (id := 12) ?_); refine EW.eFieldAddr (k := 1) ?_; refine EW.eLoad1 ?_; refine EW.eLss ?_; refine EW.eEnd ?_; (try refine EW.nm ?_))
      all_goals try (first | refine EW.eYes (x := Operand.tmp 45) ?_ | refine EW.eNo (x := Operand.tmp 45) ?_ | (refine EW.eCond (x := Operand.tmp 45) ?_ ?_ <;> (intro hb hb'; (try dsimp only at hb'); (try (exfalso; first | omega | with_reducible exact absurd rfl hb')))))
      all_goals try (refine EW.nm ?_)
      all_goals try ((first | refine EW.eRegL (id := 13) ?_ | refine EW.eReg (id := 13) ?_); refine EW.eBuild (place := fun i => [(0, 1), (1, 1)][i]?) ?_; (first | refine EW.eStoreW (k := 2) ?_ | refine EW.eStore (k := 2) ?_); refine EW.eAssign ?_; refine EW.eAssign ?_; refine EW.eEnd ?_; (try refine EW.nm ?_))
      all_goals try ((first | refine EW.eRegL (id := 14) ?_ | refine EW.eReg (id := 14) ?_); refine EW.eMove ?_; refine EW.eLss ?_; refine EW.eEnd ?_; (try refine EW.nm ?_))
      all_goals try (first | refine EW.eYes (x := Operand.tmp 48) ?_ | refine EW.eNo (x := Operand.tmp 48) ?_ | (refine EW.eCond (x := Operand.tmp 48) ?_ ?_ <;> (intro hb hb'; (try dsimp only at hb'); (try (exfalso; first | omega | with_reducible exact absurd rfl hb')))))
      all_goals try (refine EW.nm ?_)
      all_goals try ((first | refine EW.eRegL (id := 15) ?_ | refine EW.eReg (id := 15) ?_); refine EW.eLoadA (k := 2) ?_; refine EW.eMove ?_; refine EW.eNeg ?_; refine EW.eConv ?_; (first | refine EW.eStoreW (k := 2) ?_ | refine EW.eStore (k := 2) ?_); refine EW.eAssign ?_; refine EW.eAssign ?_; refine EW.eEnd ?_; (try refine EW.nm ?_))
      all_goals try ((first | refine EW.eRegL (id := 16) ?_ | refine EW.eReg (id := 16) ?_); refine EW.eLoadA (k := 2) ?_; refine EW.eMove ?_; refine EW.eConv ?_; (first | refine EW.eStoreW (k := 2) ?_ | refine EW.eStore (k := 2) ?_); refine EW.eAssign ?_; refine EW.eAssign ?_; refine EW.eEnd ?_; (try refine EW.nm ?_))
      all_goals (refine EW.eLeaveP ?_; intro w' hW; refine ⟨?_, hW⟩)
      all_goals first | rfl | (simp only [n3]; done) | (simp only [n2]; done) | (refine congrArg (fun n => Ending.returned (.tuple #[_, .int .i64 n, _])) ?_; omega)
  · have hcc : ¬ c < 0 := by omega
    rw [if_pos (by rw [eq_iff_iff]; omega)]
    simp only [if_neg hcc]
    have := hC2 h2
    by_cases h3 : QH < 0
    all_goals
      first | rw [if_pos h3] | rw [if_neg h3]
      refine EW.eEnter Try.func25 rfl Try.ntmps25 ?_
      all_goals try (refine EW.nm ?_)
      all_goals try ((first | refine EW.eRegL (id := 0) ?_ | refine EW.eReg (id := 0) ?_); refine EW.eBox ?_; refine EW.eAlloc ?_; refine EW.eAssign ?_; refine EW.eAssign ?_; refine EW.eEnd ?_; (try refine EW.nm ?_))
      all_goals try ((first | refine EW.eRegL (id := 1) ?_ | refine EW.eReg (id := 1) ?_); refine EW.eMove ?_; refine EW.eEql ?_; refine EW.eEnd ?_; (try refine EW.nm ?_))
      all_goals try (first | refine EW.eYes (x := Operand.tmp 12) ?_ | refine EW.eNo (x := Operand.tmp 12) ?_ | (refine EW.eCond (x := Operand.tmp 12) ?_ ?_ <;> (intro hb hb'; (try dsimp only at hb'); (try (exfalso; first | omega | with_reducible exact absurd rfl hb')))))
      all_goals try (refine EW.nm ?_)
      all_goals try ((first | refine EW.eRegL (id := 2) ?_ | refine EW.eReg (id := 2) ?_); refine EW.eBuild (place := fun i => [(0, 1), (1, 1)][i]?) ?_; (first | refine EW.eStoreW (k := 2) ?_ | refine EW.eStore (k := 2) ?_); refine EW.eAssign ?_; refine EW.eAssign ?_; refine EW.eEnd ?_; (try refine EW.nm ?_))
      all_goals try ((first | refine EW.eRegL (id := 3) ?_ | refine EW.eReg (id := 3) ?_); refine EW.eFieldAddr (k := 1) ?_; refine EW.eLoad1 ?_; refine EW.eLss ?_; refine EW.eAssign ?_; refine EW.eEnd ?_; (try refine EW.nm ?_))
      all_goals try ((first | refine EW.eRegL (id := 4) ?_ | refine EW.eReg (id := 4) ?_); refine EW.eLoadA (k := 2) ?_; refine EW.eAlloc ?_; (first | refine EW.eStoreW (k := 2) ?_ | refine EW.eStore (k := 2) ?_); refine EW.eEnd ?_; (try refine EW.nm ?_))
      all_goals try ((first | refine EW.eRegL (id := 5) ?_ | refine EW.eReg (id := 5) ?_); refine EW.eMove ?_; refine EW.eEnd ?_; (try refine EW.nm ?_))
      all_goals try (first | refine EW.eYes (x := Operand.tmp 18) ?_ | refine EW.eNo (x := Operand.tmp 18) ?_ | (refine EW.eCond (x := Operand.tmp 18) ?_ ?_ <;> (intro hb hb'; (try dsimp only at hb'); (try (exfalso; first | omega | with_reducible exact absurd rfl hb')))))
      all_goals try (refine EW.nm ?_)
      all_goals try ((first | refine EW.eRegL (id := 6) ?_ | refine EW.eReg (id := 6) ?_); refine EW.eLoadA (k := 2) ?_; fail "no contract of mullion/wide.turned"; (first | refine EW.eStoreW (k := 2) ?_ | refine EW.eStore (k := 2) ?_); refine EW.eEnd ?_; (try refine EW.nm ?_))
      all_goals try ((first | refine EW.eRegL (id := 7) ?_ | refine EW.eReg (id := 7) ?_); refine EW.eLoadA (k := 2) ?_; refine EW.eMove ?_; refine EW.eCall Try.call41 (fun w => hS w) ?_; refine EW.eCall Try.call45 (fun w => hP2 h1 w) ?_; refine EW.eMove ?_; (first | refine EW.eExtC ?_ | refine EW.eExtA ?_); (first | refine EW.eExtC ?_ | refine EW.eExtA ?_); refine EW.eAlloc ?_; (first | refine EW.eStoreW (k := 2) ?_ | refine EW.eStore (k := 2) ?_); refine EW.eAssign ?_; refine EW.eDraw ?_; (try refine EW.nm ?_))
      all_goals try ((first | refine EW.eRegL (id := 8) ?_ | refine EW.eReg (id := 8) ?_); refine EW.eMove ?_; refine EW.eMove ?_; refine EW.eLss ?_; refine EW.eNeqB ?_; refine EW.eEnd ?_; (try refine EW.nm ?_))
      all_goals try (first | refine EW.eYes (x := Operand.tmp 31) ?_ | refine EW.eNo (x := Operand.tmp 31) ?_ | (refine EW.eCond (x := Operand.tmp 31) ?_ ?_ <;> (intro hb hb'; (try dsimp only at hb'); (try (exfalso; first | omega | with_reducible exact absurd rfl hb')))))
      all_goals try (refine EW.nm ?_)
      all_goals try ((first | refine EW.eRegL (id := 9) ?_ | refine EW.eReg (id := 9) ?_); refine EW.eLoadA (k := 2) ?_; fail "no contract of mullion/wide.turned"; (first | refine EW.eStoreW (k := 2) ?_ | refine EW.eStore (k := 2) ?_); refine EW.eEnd ?_; (try refine EW.nm ?_))
      all_goals try ((first | refine EW.eRegL (id := 10) ?_ | refine EW.eReg (id := 10) ?_); refine EW.eMove ?_; refine EW.eGtr ?_; refine EW.eEnd ?_; (try refine EW.nm ?_))
      all_goals try (first | refine EW.eYes (x := Operand.tmp 35) ?_ | refine EW.eNo (x := Operand.tmp 35) ?_ | (refine EW.eCond (x := Operand.tmp 35) ?_ ?_ <;> (intro hb hb'; (try dsimp only at hb'); (try (exfalso; first | omega | with_reducible exact absurd rfl hb')))))
      all_goals try (refine EW.nm ?_)
      all_goals try ((first | refine EW.eRegL (id := 11) ?_ | refine EW.eReg (id := 11) ?_); refine EW.eLoadA (k := 2) ?_; fail "no contract of mullion/wide.Of"; fail "no contract of mullion/wide.plus"; refine EW.eMove ?_; refine EW.eCall Try.call41 (fun w => hS w) ?_; refine EW.eMove ?_; refine EW.eSub ?_; (first | refine EW.eStoreW (k := 2) ?_ | refine EW.eStore (k := 2) ?_); refine EW.eAssign ?_; refine EW.eDraw ?_; (try refine EW.nm ?_))
      all_goals try ((first | refine EW.eRegL (id := 12) ?_ | refine EW.eReg (id := 12) ?_); refine EW.eFieldAddr (k := 1) ?_; refine EW.eLoad1 ?_; refine EW.eLss ?_; refine EW.eEnd ?_; (try refine EW.nm ?_))
      all_goals try (first | refine EW.eYes (x := Operand.tmp 45) ?_ | refine EW.eNo (x := Operand.tmp 45) ?_ | (refine EW.eCond (x := Operand.tmp 45) ?_ ?_ <;> (intro hb hb'; (try dsimp only at hb'); (try (exfalso; first | omega | with_reducible exact absurd rfl hb')))))
      all_goals try (refine EW.nm ?_)
      all_goals try ((first | refine EW.eRegL (id := 13) ?_ | refine EW.eReg (id := 13) ?_); refine EW.eBuild (place := fun i => [(0, 1), (1, 1)][i]?) ?_; (first | refine EW.eStoreW (k := 2) ?_ | refine EW.eStore (k := 2) ?_); refine EW.eAssign ?_; refine EW.eAssign ?_; refine EW.eEnd ?_; (try refine EW.nm ?_))
      all_goals try ((first | refine EW.eRegL (id := 14) ?_ | refine EW.eReg (id := 14) ?_); refine EW.eMove ?_; refine EW.eLss ?_; refine EW.eEnd ?_; (try refine EW.nm ?_))
      all_goals try (first | refine EW.eYes (x := Operand.tmp 48) ?_ | refine EW.eNo (x := Operand.tmp 48) ?_ | (refine EW.eCond (x := Operand.tmp 48) ?_ ?_ <;> (intro hb hb'; (try dsimp only at hb'); (try (exfalso; first | omega | with_reducible exact absurd rfl hb')))))
      all_goals try (refine EW.nm ?_)
      all_goals try ((first | refine EW.eRegL (id := 15) ?_ | refine EW.eReg (id := 15) ?_); refine EW.eLoadA (k := 2) ?_; refine EW.eMove ?_; refine EW.eNeg ?_; refine EW.eConv ?_; (first | refine EW.eStoreW (k := 2) ?_ | refine EW.eStore (k := 2) ?_); refine EW.eAssign ?_; refine EW.eAssign ?_; refine EW.eEnd ?_; (try refine EW.nm ?_))
      all_goals try ((first | refine EW.eRegL (id := 16) ?_ | refine EW.eReg (id := 16) ?_); refine EW.eLoadA (k := 2) ?_; refine EW.eMove ?_; refine EW.eConv ?_; (first | refine EW.eStoreW (k := 2) ?_ | refine EW.eStore (k := 2) ?_); refine EW.eAssign ?_; refine EW.eAssign ?_; refine EW.eEnd ?_; (try refine EW.nm ?_))
      all_goals (refine EW.eLeaveP ?_; intro w' hW; refine ⟨?_, hW⟩)
      all_goals rfl
theorem w128_neg {Q : Int} (h0 : 0 ≤ Q) (h1 : Q ≤ 170141183460469231731687303715884105728) : w128 (-w128 Q) = -Q := by unfold w128; omega
theorem w128_bits {z : Int} (hz : In128 z) (hn : z < 0) : (z.natAbs : Int) = w128 (-z) / 18446744073709551616 % 18446744073709551616 * 18446744073709551616 + w128 (-z) % 18446744073709551616 := by
  rw [show (z.natAbs : Int) = -z from by omega]; unfold In128 at hz; unfold w128; omega
theorem pos_bits {z : Int} (hz : In128 z) (hn : 0 ≤ z) : (z.natAbs : Int) = z / 18446744073709551616 % 18446744073709551616 * 18446744073709551616 + z % 18446744073709551616 := by
  rw [show (z.natAbs : Int) = z from by omega]; unfold In128 at hz; omega
theorem big_hi {Q : Int} (h0 : 0 ≤ Q) (h1 : Q ≤ 170141183460469231731687303715884105728) (h : ¬ In128 Q) : w128 Q / 18446744073709551616 < 0 := by unfold In128 at h; unfold w128; omega
theorem neg_in {Q n : Nat} (h : Q ≤ n) (hn : n ≤ 170141183460469231731687303715884105728) : In128 (-(Q : Int)) := ⟨by omega, by omega⟩
theorem q_le {Q n : Nat} (h : Q ≤ n) (hn : n ≤ 170141183460469231731687303715884105728) : (Q : Int) ≤ 170141183460469231731687303715884105728 := by omega
theorem abs_le {z : Int} (hz : In128 z) : z.natAbs ≤ 170141183460469231731687303715884105728 := by unfold In128 at hz; omega
theorem one_in : In128 (-1) := ⟨by omega, by omega⟩
theorem sg_eq (z : Int) : (z / 18446744073709551616 < 0) ↔ (z < 0) := by omega
theorem small_hi {Q : Int} (h0 : 0 ≤ Q) : ¬ Q / 18446744073709551616 < 0 := by omega
set_option maxHeartbeats 2000000 in
theorem wdiv (z c : Int) (w : World) (hz : In128 z) (h0 : -9223372036854775808 ≤ c) (h1 : c ≤ 9223372036854775807) : Calls Try.prog 25 #[W2 z, .int .i64 c] w fun e w' => e = .returned (.tuple #[W2 (dQ z c), .int .i64 (dR z c), .int .i64 (dE z c)]) ∧ Below w.heap.size w w' := by
  by_cases hc : c = 0
  · subst hc
    refine EW.eEnter Try.func25 rfl Try.ntmps25 ?_
    all_goals try (refine EW.nm ?_)
    all_goals try ((first | refine EW.eRegL (id := 0) ?_ | refine EW.eReg (id := 0) ?_); refine EW.eBox ?_; refine EW.eAlloc ?_; refine EW.eAssign ?_; refine EW.eAssign ?_; refine EW.eEnd ?_; (try refine EW.nm ?_))
    all_goals try ((first | refine EW.eRegL (id := 1) ?_ | refine EW.eReg (id := 1) ?_); refine EW.eMove ?_; refine EW.eEql ?_; refine EW.eEnd ?_; (try refine EW.nm ?_))
    all_goals try (first | refine EW.eYes (x := Operand.tmp 12) ?_ | refine EW.eNo (x := Operand.tmp 12) ?_ | (refine EW.eCond (x := Operand.tmp 12) ?_ ?_ <;> (intro hb hb'; (try dsimp only at hb'); (try (exfalso; first | omega | with_reducible exact absurd rfl hb')))))
    all_goals try (refine EW.nm ?_)
    all_goals try ((first | refine EW.eRegL (id := 2) ?_ | refine EW.eReg (id := 2) ?_); refine EW.eBuild (place := fun i => [(0, 1), (1, 1)][i]?) ?_; (first | refine EW.eStoreW (k := 2) ?_ | refine EW.eStore (k := 2) ?_); refine EW.eAssign ?_; refine EW.eAssign ?_; refine EW.eEnd ?_; (try refine EW.nm ?_))
    all_goals try ((first | refine EW.eRegL (id := 3) ?_ | refine EW.eReg (id := 3) ?_); refine EW.eFieldAddr (k := 1) ?_; refine EW.eLoad1 ?_; refine EW.eLss ?_; refine EW.eAssign ?_; refine EW.eEnd ?_; (try refine EW.nm ?_))
    all_goals try ((first | refine EW.eRegL (id := 4) ?_ | refine EW.eReg (id := 4) ?_); refine EW.eLoadA (k := 2) ?_; refine EW.eAlloc ?_; (first | refine EW.eStoreW (k := 2) ?_ | refine EW.eStore (k := 2) ?_); refine EW.eEnd ?_; (try refine EW.nm ?_))
    all_goals try ((first | refine EW.eRegL (id := 5) ?_ | refine EW.eReg (id := 5) ?_); refine EW.eMove ?_; refine EW.eEnd ?_; (try refine EW.nm ?_))
    all_goals try (first | refine EW.eYes (x := Operand.tmp 18) ?_ | refine EW.eNo (x := Operand.tmp 18) ?_ | (refine EW.eCond (x := Operand.tmp 18) ?_ ?_ <;> (intro hb hb'; (try dsimp only at hb'); (try (exfalso; first | omega | with_reducible exact absurd rfl hb')))))
    all_goals try (refine EW.nm ?_)
    all_goals try ((first | refine EW.eRegL (id := 6) ?_ | refine EW.eReg (id := 6) ?_); refine EW.eLoadA (k := 2) ?_; fail "no contract of mullion/wide.turned"; (first | refine EW.eStoreW (k := 2) ?_ | refine EW.eStore (k := 2) ?_); refine EW.eEnd ?_; (try refine EW.nm ?_))
    all_goals try ((first | refine EW.eRegL (id := 7) ?_ | refine EW.eReg (id := 7) ?_); refine EW.eLoadA (k := 2) ?_; refine EW.eMove ?_; fail "no contract of mullion/wide.size"; fail "no contract of mullion/wide.parts"; refine EW.eMove ?_; (first | refine EW.eExtC ?_ | refine EW.eExtA ?_); (first | refine EW.eExtC ?_ | refine EW.eExtA ?_); refine EW.eAlloc ?_; (first | refine EW.eStoreW (k := 2) ?_ | refine EW.eStore (k := 2) ?_); refine EW.eAssign ?_; refine EW.eDraw ?_; (try refine EW.nm ?_))
    all_goals try ((first | refine EW.eRegL (id := 8) ?_ | refine EW.eReg (id := 8) ?_); refine EW.eMove ?_; refine EW.eMove ?_; refine EW.eLss ?_; refine EW.eNeqB ?_; refine EW.eEnd ?_; (try refine EW.nm ?_))
    all_goals try (first | refine EW.eYes (x := Operand.tmp 31) ?_ | refine EW.eNo (x := Operand.tmp 31) ?_ | (refine EW.eCond (x := Operand.tmp 31) ?_ ?_ <;> (intro hb hb'; (try dsimp only at hb'); (try (exfalso; first | omega | with_reducible exact absurd rfl hb')))))
    all_goals try (refine EW.nm ?_)
    all_goals try ((first | refine EW.eRegL (id := 9) ?_ | refine EW.eReg (id := 9) ?_); refine EW.eLoadA (k := 2) ?_; fail "no contract of mullion/wide.turned"; (first | refine EW.eStoreW (k := 2) ?_ | refine EW.eStore (k := 2) ?_); refine EW.eEnd ?_; (try refine EW.nm ?_))
    all_goals try ((first | refine EW.eRegL (id := 10) ?_ | refine EW.eReg (id := 10) ?_); refine EW.eMove ?_; refine EW.eGtr ?_; refine EW.eEnd ?_; (try refine EW.nm ?_))
    all_goals try (first | refine EW.eYes (x := Operand.tmp 35) ?_ | refine EW.eNo (x := Operand.tmp 35) ?_ | (refine EW.eCond (x := Operand.tmp 35) ?_ ?_ <;> (intro hb hb'; (try dsimp only at hb'); (try (exfalso; first | omega | with_reducible exact absurd rfl hb')))))
    all_goals try (refine EW.nm ?_)
    all_goals try ((first | refine EW.eRegL (id := 11) ?_ | refine EW.eReg (id := 11) ?_); refine EW.eLoadA (k := 2) ?_; fail "no contract of mullion/wide.Of"; fail "no contract of mullion/wide.plus"; refine EW.eMove ?_; fail "no contract of mullion/wide.size"; refine EW.eMove ?_; refine EW.eSub ?_; (first | refine EW.eStoreW (k := 2) ?_ | refine EW.eStore (k := 2) ?_); refine EW.eAssign ?_; refine EW.eDraw ?_; (try refine EW.nm ?_))
    all_goals try ((first | refine EW.eRegL (id := 12) ?_ | refine EW.eReg (id := 12) ?_); refine EW.eFieldAddr (k := 1) ?_; refine EW.eLoad1 ?_; refine EW.eLss ?_; refine EW.eEnd ?_; (try refine EW.nm ?_))
    all_goals try (first | refine EW.eYes (x := Operand.tmp 45) ?_ | refine EW.eNo (x := Operand.tmp 45) ?_ | (refine EW.eCond (x := Operand.tmp 45) ?_ ?_ <;> (intro hb hb'; (try dsimp only at hb'); (try (exfalso; first | omega | with_reducible exact absurd rfl hb')))))
    all_goals try (refine EW.nm ?_)
    all_goals try ((first | refine EW.eRegL (id := 13) ?_ | refine EW.eReg (id := 13) ?_); refine EW.eBuild (place := fun i => [(0, 1), (1, 1)][i]?) ?_; (first | refine EW.eStoreW (k := 2) ?_ | refine EW.eStore (k := 2) ?_); refine EW.eAssign ?_; refine EW.eAssign ?_; refine EW.eEnd ?_; (try refine EW.nm ?_))
    all_goals try ((first | refine EW.eRegL (id := 14) ?_ | refine EW.eReg (id := 14) ?_); refine EW.eMove ?_; refine EW.eLss ?_; refine EW.eEnd ?_; (try refine EW.nm ?_))
    all_goals try (first | refine EW.eYes (x := Operand.tmp 48) ?_ | refine EW.eNo (x := Operand.tmp 48) ?_ | (refine EW.eCond (x := Operand.tmp 48) ?_ ?_ <;> (intro hb hb'; (try dsimp only at hb'); (try (exfalso; first | omega | with_reducible exact absurd rfl hb')))))
    all_goals try (refine EW.nm ?_)
    all_goals try ((first | refine EW.eRegL (id := 15) ?_ | refine EW.eReg (id := 15) ?_); refine EW.eLoadA (k := 2) ?_; refine EW.eMove ?_; refine EW.eNeg ?_; refine EW.eConv ?_; (first | refine EW.eStoreW (k := 2) ?_ | refine EW.eStore (k := 2) ?_); refine EW.eAssign ?_; refine EW.eAssign ?_; refine EW.eEnd ?_; (try refine EW.nm ?_))
    all_goals try ((first | refine EW.eRegL (id := 16) ?_ | refine EW.eReg (id := 16) ?_); refine EW.eLoadA (k := 2) ?_; refine EW.eMove ?_; refine EW.eConv ?_; (first | refine EW.eStoreW (k := 2) ?_ | refine EW.eStore (k := 2) ?_); refine EW.eAssign ?_; refine EW.eAssign ?_; refine EW.eEnd ?_; (try refine EW.nm ?_))
    all_goals (refine EW.eLeaveP ?_; intro w' hW; refine ⟨?_, hW⟩)
    all_goals rfl
  obtain ⟨g1, g2, g3⟩ := fdiv_cases (x := z) hc rfl
  have hm := Nat.mod_add_div z.natAbs c.natAbs
  have hl := Nat.mod_lt z.natAbs (show 0 < c.natAbs by omega)
  have hqa := Nat.div_le_self z.natAbs c.natAbs
  have hP1 : z < 0 → ∀ w, _ := fun hn w => wparts (w128 (-z)) (z.natAbs : Int) (c.natAbs : Int) w (w128_bounds _) (w128_bits hz hn) (by omega) (by omega)
  have hP2 : 0 ≤ z → ∀ w, _ := fun hn w => wparts z (z.natAbs : Int) (c.natAbs : Int) w hz (pos_bits hz hn) (by omega) (by omega)
  rw [← Int.natCast_ediv, ← Int.natCast_emod] at hP1 hP2
  obtain ⟨Q, hQ⟩ : ∃ Q, z.natAbs / c.natAbs = Q := ⟨_, rfl⟩
  obtain ⟨r, hr⟩ : ∃ r, z.natAbs % c.natAbs = r := ⟨_, rfl⟩
  obtain ⟨q, hq⟩ : ∃ q, z.fdiv c = q := ⟨_, rfl⟩
  rw [hQ, hr] at hP1 hP2 hm g1 g2
  rw [hr] at hl
  rw [hQ] at hqa g3
  rw [hq] at g1 g2 g3
  have hza : z.natAbs ≤ 170141183460469231731687303715884105728 := abs_le hz
  have e2 : w128 (-w128 (Q : Int)) = -(Q : Int) := w128_neg (Int.natCast_nonneg _) (q_le hqa hza)
  have hT2 := fun w => wturned (w128 (Q : Int)) w (w128_bounds _)
  rw [e2] at hT2
  have hPl := fun w => wplus (-(Q : Int)) (-1) w (neg_in hqa hza) one_in
  refine (wdiv_walk _ _ c _ _ (c.natAbs : Int) _ _ (r : Int) _ _ _ _ _ _ w hc ⟨by omega, by omega⟩ (by split <;> omega) ⟨h0, h1⟩ (fun w => wsize c w h0 h1) (fun w => wturned z w hz) (fun hn => hP1 (by omega)) (fun hn => hP2 (by omega)) hT2 (fun w => wof (-1) w (by omega) (by omega)) hPl).mono ?_
  rintro e w' ⟨rfl, hb⟩
  refine ⟨?_, hb⟩
  clear hP1 hP2 hT2 hPl hQ hr
  have hm2 : (r : Int) + (c.natAbs : Int) * (Q : Int) = (z.natAbs : Int) := by rw [← Int.natCast_mul, ← Int.natCast_add, hm]
  rw [Int.mul_comm] at hm2
  unfold resD
  have key : ∀ {q' r' : Int}, q = q' → In128 q' → r' = z - q' * c → Ending.returned (.tuple #[W2 q', .int .i64 r', .int .i64 0]) = Ending.returned (.tuple #[W2 (dQ z c), .int .i64 (dR z c), .int .i64 (dE z c)]) := fun h1 h2 h3 => div_ok hc (hq.trans h1) h2 h3
  by_cases hs : decide (z < 0) = decide (c < 0)
  · have hq2 := g3 hs
    rw [decide_eq_decide] at hs
    rw [if_pos (by rw [eq_iff_iff, sg_eq]; exact hs)]
    by_cases hbig : In128 (Q : Int)
    · rw [w128_in hbig]
      have hbig' := hbig
      unfold In128 at hbig'
      rw [if_neg (small_hi (Int.natCast_nonneg _))]
      refine key hq2 hbig ?_
      rcases Int.lt_or_gt_of_ne hc with hc0 | hc0
      · rw [show (c.natAbs : Int) = -c from by omega, Int.mul_neg] at hm2
        rw [if_pos hc0]; omega
      · rw [show (c.natAbs : Int) = c from by omega] at hm2
        rw [if_neg (by omega)]; omega
    · have hbig' := hbig
      unfold In128 at hbig'
      rw [if_pos (big_hi (Int.natCast_nonneg _) (q_le hqa hza) hbig)]
      exact div_big hc (hq.trans hq2) hbig
  · have hs' := hs
    rw [decide_eq_decide] at hs'
    rw [if_neg (by rw [eq_iff_iff, sg_eq]; exact hs')]
    by_cases hr0 : r = 0
    · have hq2 := g2 hs hr0
      rw [if_neg (by omega)]
      refine key hq2 (neg_in hqa hza) ?_
      subst hr0
      rcases Int.lt_or_gt_of_ne hc with hc0 | hc0
      · rw [show (c.natAbs : Int) = -c from by omega, Int.mul_neg] at hm2
        rw [if_pos hc0, Int.neg_mul]; omega
      · rw [show (c.natAbs : Int) = c from by omega] at hm2
        rw [if_neg (by omega), Int.neg_mul]; omega
    · have hq2 := g1 hs hr0
      have hQ2 : (Q : Int) ≤ 170141183460469231731687303715884105727 := by
        rcases Nat.lt_or_ge 1 c.natAbs with hc1 | hc1
        · have : 2 * Q ≤ c.natAbs * Q := Nat.mul_le_mul_right _ hc1
          omega
        · omega
      rw [if_pos (by omega), w128_in ⟨by omega, by omega⟩]
      refine key (hq2.trans (by omega)) ⟨by omega, by omega⟩ ?_
      rcases Int.lt_or_gt_of_ne hc with hc0 | hc0
      · rw [show (c.natAbs : Int) = -c from by omega, Int.mul_neg] at hm2
        rw [show (c.natAbs : Int) = -c from by omega, if_pos hc0, Int.add_mul, Int.neg_mul]; omega
      · rw [show (c.natAbs : Int) = c from by omega] at hm2
        rw [show (c.natAbs : Int) = c from by omega, if_neg (by omega), Int.add_mul, Int.neg_mul]; omega
end Go.Proofs.Ytbjogekhedglgaa
