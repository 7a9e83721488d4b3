/- view: corners; the document's. -/
import Derived.Test.YthclhmdgfekaeaaHVx
import Derived.Test.YthclhmdgfekaeaaHWd6
import Derived.Test.YthclhmdgfekaeaaRows
import Derived.Test.YthclhmdgfekaeaaHEwJ
namespace Go.Proofs.Ythclhmdgfekaeaa
set_option linter.unusedSimpArgs false
set_option linter.unusedVariables false
open Go.RowKit EV
open SX (Wr Tv Qu Rm Sh Is conjP eqs_iff eqs_false)
open EW (PlL PlT PlV PlVs LfV Mm Bt Opn GV YT lpOf nums)
set_option maxRecDepth 20000
theorem div_between {X q lo hi : Int} (hq : 0 < q) (h0 : lo * q ≤ X) (h1 : X ≤ hi * q) : lo ≤ X / q ∧ X / q ≤ hi :=
  ⟨Int.le_ediv_of_mul_le hq h0, by
    have := Int.ediv_le_ediv hq h1
    rwa [Int.mul_ediv_cancel _ (by omega)] at this⟩
theorem crn_bounds {n q k : Int} (hq : 0 < q) (hk : 0 ≤ k) (h0 : -2 * q ≤ n) (h1 : n ≤ 4 * q) : -2 * k ≤ n * k / q ∧ n * k / q ≤ 4 * k := by
  refine div_between hq ?_ ?_
  · have := Int.mul_le_mul_of_nonneg_right h0 hk
    rw [show -2 * k * q = -2 * q * k by rw [Int.mul_assoc, Int.mul_comm k, ← Int.mul_assoc]]; exact this
  · have := Int.mul_le_mul_of_nonneg_right h1 hk
    rw [show 4 * k * q = 4 * q * k by rw [Int.mul_assoc, Int.mul_comm k, ← Int.mul_assoc]]; exact this
theorem z_bounds {z q : Int} (h0 : -8796093022208 < z) (h1 : z < 8796093022208) (hq : 4096 ≤ q) : -36028797018963968 ≤ z * 16777215 / q ∧ z * 16777215 / q ≤ 36028797018963968 :=
  div_between (by omega) (by omega) (by omega)
/-- The corner of a vertex. -/
def crX (x q W : Int) : Int := (x + q) * (8 * W) / q
def crY (y q H : Int) : Int := (q - y) * (8 * H) / q
def crZ (z q : Int) : Int := min (max (z * 16777215 / q) 0) 16777215
/-- A size that may be. -/
abbrev sized (a b : Int) : Prop := 1 ≤ a ∧ a ≤ 64 ∧ 1 ≤ b ∧ b ≤ 64
/-- A vertex that may be seen. -/
abbrev seenP (x y z q : Int) : Prop := (-8796093022208 < x ∧ x < 8796093022208 ∧ -8796093022208 < y ∧ y < 8796093022208 ∧ -8796093022208 < z ∧ z < 8796093022208 ∧ q < 8796093022208) ∧ 4096 ≤ q ∧ -3 * q ≤ x ∧ -3 * q ≤ y ∧ x ≤ 3 * q ∧ y ≤ 3 * q
theorem min_z (a b : Int) : Mm .min [.int .i64 a, .int .i64 b] .i64 (min a b) := by
  rcases Int.le_total a b with h | h
  · rw [Int.min_eq_left h]; exact Mm.min2l h
  · rw [Int.min_eq_right h]; exact Mm.min2r h
theorem max_z (a b : Int) : Mm .max [.int .i64 a, .int .i64 b] .i64 (max a b) := by
  rcases Int.le_total a b with h | h
  · rw [Int.max_eq_right h]; exact Mm.max2r h
  · rw [Int.max_eq_left h]; exact Mm.max2l h
theorem vcheck_y (a b : Int) (w : World) (h : sized a b) : Calls Try.prog 20 #[.int .i64 a, .int .i64 b] w fun e w' => e = .returned (.int .i64 0) ∧ Below w.heap.size w w' := by
  refine EW.eEnter Try.func20 rfl Try.ntmps20 ?_
  all_goals try (refine EW.nm ?_)
  all_goals try ((first | refine EW.eRegL (id := 0) ?_ | refine EW.eReg (id := 0) ?_); refine EW.eAssign ?_; refine EW.eEnd ?_; (try refine EW.nm ?_))
  all_goals try ((first | refine EW.eRegL (id := 1) ?_ | refine EW.eReg (id := 1) ?_); refine EW.eMove ?_; refine EW.eMove ?_; refine EW.eMin ?_ (hr' := min_z a b); refine EW.eLss ?_; refine EW.eMove ?_)
  all_goals try (refine EW.eGuard (j := 4) (o := ⟨some 10, _, _, _, _, _⟩) ?_ ?_ <;> (intro hb hb'; (try dsimp only at hb'); (try (exfalso; first | omega | with_reducible exact absurd rfl hb'))))
  all_goals try ((first | refine EW.eSkipF (j := 4) ?_ | refine EW.eSkipU (j := 4) ?_ | refine EW.eMove ?_); (first | refine EW.eSkipF (j := 4) ?_ | refine EW.eSkipU (j := 4) ?_ | refine EW.eMove ?_); (first | refine EW.eSkipF (j := 4) ?_ | refine EW.eSkipU (j := 4) ?_ | refine EW.eMax ?_ (hr' := max_z a b)); (first | refine EW.eSkipF (j := 4) ?_ | refine EW.eSkipU (j := 4) ?_ | refine EW.eGtr ?_); (first | refine EW.ePickT ?_ | refine EW.ePickF ?_); refine EW.eEnd ?_; (try refine EW.nm ?_))
  all_goals try (first | refine EW.eYes (x := Operand.tmp 14) ?_ | refine EW.eNo (x := Operand.tmp 14) ?_ | (refine EW.eCond (x := Operand.tmp 14) ?_ ?_ <;> (intro hb hb'; (try dsimp only at hb'); (try (exfalso; first | omega | with_reducible exact absurd rfl hb')))))
  all_goals try (refine EW.nm ?_)
  all_goals try ((first | refine EW.eRegL (id := 2) ?_ | refine EW.eReg (id := 2) ?_); refine EW.eAssign ?_; refine EW.eEnd ?_; (try refine EW.nm ?_))
  all_goals try (with_reducible refine EW.parkK ?_)
  all_goals try ((first | refine EW.eRegL (id := 3) ?_ | refine EW.eReg (id := 3) ?_); refine EW.eAssign ?_; refine EW.eEnd ?_; (try refine EW.nm ?_))
  all_goals try (with_reducible refine EW.parkK ?_)
  all_goals try (refine EW.Park.mk ?_)
  all_goals (refine EW.eLeaveP ?_; intro w' hW; refine ⟨?_, hW⟩)
  all_goals rfl
theorem vseen_y (x y z q : Int) (w : World) (h : seenP x y z q) : Calls Try.prog 29 #[V4 x y z q] w fun e w' => e = .returned (.bool true) ∧ Below w.heap.size w w' := by
  obtain ⟨⟨x0, x1, y0, y1, z0, z1, q1⟩, q0, a1, a2, a3, a4⟩ := h
  refine EW.eEnter Try.func29 rfl Try.ntmps29 ?_
  all_goals try (refine EW.nm ?_)
  all_goals try ((first | refine EW.eRegL (id := 0) ?_ | refine EW.eReg (id := 0) ?_); refine EW.eBox ?_; refine EW.eAssign ?_; refine EW.eEnd ?_; (try refine EW.nm ?_))
  all_goals try ((first | refine EW.eRegL (id := 1) ?_ | refine EW.eReg (id := 1) ?_); refine EW.eLoadA (k := 4) ?_; refine EW.eMove ?_; refine EW.eEnd ?_; (try refine EW.nm ?_))
  all_goals try (refine EW.eUnroll 5 ?_)
  all_goals try (refine EW.nm ?_)
  iterate 5 (
    all_goals try ((first | refine EW.eRegL (id := 2) ?_ | refine EW.eReg (id := 2) ?_); refine EW.eLss ?_; refine EW.eEnd ?_; (try refine EW.nm ?_))
    all_goals try (first | refine EW.eYes (x := Operand.tmp 10) ?_ | refine EW.eNo (x := Operand.tmp 10) ?_ | (refine EW.eCond (x := Operand.tmp 10) ?_ ?_ <;> (intro hb hb'; (try dsimp only at hb'); (try (exfalso; first | omega | with_reducible exact absurd rfl hb')))))
    all_goals try (refine EW.nm ?_)
    all_goals try ((first | refine EW.eRegL (id := 3) ?_ | refine EW.eReg (id := 3) ?_); refine EW.eIndex1 (z := 1) ?_; refine EW.eAssign ?_; refine EW.eEnd ?_; (try refine EW.nm ?_))
    all_goals try ((first | refine EW.eRegL (id := 4) ?_ | refine EW.eReg (id := 4) ?_); refine EW.eMove ?_; refine EW.eLeq ?_; refine EW.eMove ?_)
    all_goals try (refine EW.eGuard (j := 2) (o := ⟨some 15, _, _, _, _, _⟩) ?_ ?_ <;> (intro hb hb'; (try dsimp only at hb'); (try (exfalso; first | omega | with_reducible exact absurd rfl hb'))))
    all_goals try ((first | refine EW.eSkipF (j := 2) ?_ | refine EW.eSkipU (j := 2) ?_ | refine EW.eMove ?_); (first | refine EW.eSkipF (j := 2) ?_ | refine EW.eSkipU (j := 2) ?_ | refine EW.eGeq ?_); (first | refine EW.ePickT ?_ | refine EW.ePickF ?_); refine EW.eEnd ?_; (try refine EW.nm ?_))
    all_goals try (first | refine EW.eYes (x := Operand.tmp 17) ?_ | refine EW.eNo (x := Operand.tmp 17) ?_ | (refine EW.eCond (x := Operand.tmp 17) ?_ ?_ <;> (intro hb hb'; (try dsimp only at hb'); (try (exfalso; first | omega | with_reducible exact absurd rfl hb')))))
    all_goals try (refine EW.nm ?_)
    all_goals try ((first | refine EW.eRegL (id := 5) ?_ | refine EW.eReg (id := 5) ?_); refine EW.eAssign ?_; refine EW.eEnd ?_; (try refine EW.nm ?_))
    all_goals try (with_reducible refine EW.parkK ?_)
    all_goals try ((first | refine EW.eRegL (id := 6) ?_ | refine EW.eReg (id := 6) ?_); refine EW.eAdd ?_; refine EW.eMove ?_; refine EW.eEnd ?_; (try refine EW.nm ?_)))
  all_goals try ((first | refine EW.eRegL (id := 7) ?_ | refine EW.eReg (id := 7) ?_); refine EW.eIndexAddr (z := 1) ?_; refine EW.eLoad1 ?_; refine EW.eIndexAddr (z := 1) ?_; refine EW.eLoad1 ?_; refine EW.eIndexAddr (z := 1) ?_; refine EW.eLoad1 ?_; refine EW.eAssign ?_; refine EW.eAssign ?_; refine EW.eAssign ?_; refine EW.eDraw ?_; (try refine EW.nm ?_))
  all_goals try ((first | refine EW.eRegL (id := 8) ?_ | refine EW.eReg (id := 8) ?_); refine EW.eMove ?_; refine EW.eGeq ?_; refine EW.eMove ?_)
  all_goals try (refine EW.eGuard (j := 2) (o := ⟨some 28, _, _, _, _, _⟩) ?_ ?_ <;> (intro hb hb'; (try dsimp only at hb'); (try (exfalso; first | omega | with_reducible exact absurd rfl hb'))))
  all_goals try ((first | refine EW.eSkipT (j := 2) ?_ | refine EW.eSkipU (j := 2) ?_ | refine EW.eMove ?_); (first | refine EW.eSkipT (j := 2) ?_ | refine EW.eSkipU (j := 2) ?_ | refine EW.eMove ?_); (first | refine EW.eSkipT (j := 2) ?_ | refine EW.eSkipU (j := 2) ?_ | refine EW.eMin ?_ (hr' := min_z x y)); (first | refine EW.eSkipT (j := 2) ?_ | refine EW.eSkipU (j := 2) ?_ | refine EW.eMove ?_); (first | refine EW.eSkipT (j := 2) ?_ | refine EW.eSkipU (j := 2) ?_ | refine EW.eMul ?_); (first | refine EW.eSkipT (j := 2) ?_ | refine EW.eSkipU (j := 2) ?_ | refine EW.eGeq ?_); (first | refine EW.ePickT ?_ | refine EW.ePickF ?_); refine EW.eMove ?_)
  all_goals try (refine EW.eGuard (j := 10) (o := ⟨some 36, _, _, _, _, _⟩) ?_ ?_ <;> (intro hb hb'; (try dsimp only at hb'); (try (exfalso; first | omega | with_reducible exact absurd rfl hb'))))
  all_goals try ((first | refine EW.eSkipT (j := 10) ?_ | refine EW.eSkipU (j := 10) ?_ | refine EW.eMove ?_); (first | refine EW.eSkipT (j := 10) ?_ | refine EW.eSkipU (j := 10) ?_ | refine EW.eMove ?_); (first | refine EW.eSkipT (j := 10) ?_ | refine EW.eSkipU (j := 10) ?_ | refine EW.eMax ?_ (hr' := max_z x y)); (first | refine EW.eSkipT (j := 10) ?_ | refine EW.eSkipU (j := 10) ?_ | refine EW.eMove ?_); (first | refine EW.eSkipT (j := 10) ?_ | refine EW.eSkipU (j := 10) ?_ | refine EW.eMul ?_); (first | refine EW.eSkipT (j := 10) ?_ | refine EW.eSkipU (j := 10) ?_ | refine EW.eLeq ?_); (first | refine EW.ePickT ?_ | refine EW.ePickF ?_); refine EW.eAssign ?_; refine EW.eEnd ?_; (try refine EW.nm ?_))
  all_goals try (with_reducible refine EW.parkK ?_)
  all_goals try (refine EW.Park.mk ?_)
  all_goals (refine EW.eLeaveP ?_; intro w' hW; refine ⟨?_, hW⟩)
  all_goals first | rfl | (refine congrArg (fun b => Ending.returned (.bool b)) ?_; simp; omega)
theorem mdV_is {a b c q : Int} (hc : 0 < c) (hq : a * b / c = q) (h0 : -9223372036854775808 ≤ q) (h1 : q ≤ 9223372036854775807) : mdV a b c = q := by
  have hf : (a * b).fdiv c = q := by rw [Int.fdiv_eq_ediv_of_nonneg _ (by omega)]; exact hq
  have hi : In128 q := by unfold In128; omega
  have hcn : ¬ c = 0 := by omega
  have e1 : dE (a * b) c = 0 := by unfold dE; rw [if_neg hcn, hf, if_pos hi]
  have e2 : dQ (a * b) c = q := by unfold dQ; rw [if_neg hcn, hf, if_pos hi]
  unfold mdV
  rw [if_pos e1, e2, iV, if_pos ⟨h0, h1⟩]
theorem vdown (a b c q : Int) (w : World) (ha : -9223372036854775808 ≤ a ∧ a ≤ 9223372036854775807) (hb0 : -9223372036854775808 ≤ b ∧ b ≤ 9223372036854775807) (hc : 0 < c) (hc1 : c ≤ 9223372036854775807) (hq : a * b / c = q) (h0 : -9223372036854775808 ≤ q) (h1 : q ≤ 9223372036854775807) : Calls Try.prog 44 #[.int .i64 a, .int .i64 b, .int .i64 c] w fun e w' => e = .returned (.int .i64 q) ∧ Below w.heap.size w w' := by
  have hM := fun w => wmuldiv a b c w ha.1 ha.2 hb0.1 hb0.2 (by omega) hc1
  rw [mdV_is hc hq h0 h1] at hM
  generalize mdE a b c = e at *
  clear hq
  refine EW.eEnter Try.func44 rfl Try.ntmps44 ?_
  all_goals try (refine EW.nm ?_)
  all_goals try ((first | refine EW.eRegL (id := 0) ?_ | refine EW.eReg (id := 0) ?_); refine EW.eAssign ?_; refine EW.eEnd ?_; (try refine EW.nm ?_))
  all_goals try ((first | refine EW.eRegL (id := 1) ?_ | refine EW.eReg (id := 1) ?_); refine EW.eMove ?_; refine EW.eMove ?_; refine EW.eMove ?_; refine EW.eCall Try.call58 (fun w => hM w) ?_; refine EW.eMove ?_; (first | refine EW.eExtC ?_ | refine EW.eExtA ?_); (first | refine EW.eExtC ?_ | refine EW.eExtA ?_); refine EW.eAssign ?_; refine EW.eAssign ?_; refine EW.eEnd ?_; (try refine EW.nm ?_))
  all_goals try ((first | refine EW.eRegL (id := 2) ?_ | refine EW.eReg (id := 2) ?_); refine EW.eMove ?_; refine EW.eAssign ?_; refine EW.eEnd ?_; (try refine EW.nm ?_))
  all_goals try (with_reducible refine EW.parkK ?_)
  all_goals try (refine EW.Park.mk ?_)
  all_goals (refine EW.eLeaveP ?_; intro w' hW; refine ⟨?_, hW⟩)
  all_goals rfl
end Go.Proofs.Ythclhmdgfekaeaa
