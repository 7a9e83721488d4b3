/- Package clip: dist, May, Dist. -/
import Derived.Test.YthclhmdgfekaeaaHWd4
import Derived.Test.YthclhmdgfekaeaaHVx
namespace Go.Proofs.Ythclhmdgfekaeaa
set_option linter.unusedSimpArgs false
set_option linter.unusedVariables false
open Go.RowKit EV
open SX (Wr Tv Qu Rm Sh Is conjP eqs_iff eqs_false)
open EW (PlL PlT PlV PlVs LfV Mm Bt Opn GV nums)
set_option maxRecDepth 20000
def dsV (p x y z q : Int) : Int := if p = 0 then q - 4096 else if p = 1 then z else if p = 2 then q - z else if p = 5 then y + 2 * q else if p = 3 then x + 2 * q else if p = 6 then 2 * q - y else 2 * q - x
abbrev Sm (n : Int) : Prop := -8796093022208 < n ∧ n < 8796093022208
abbrev Sm4 (x y z q : Int) : Prop := Sm x ∧ Sm y ∧ Sm z ∧ Sm q
theorem cdist (p x y z q : Int) (w : World) (h : Sm4 x y z q) : Calls Try.prog 56 #[.int .i64 p, V4 x y z q] w fun e w' => e = .returned (.int .i64 (dsV p x y z q)) ∧ Below w.heap.size w w' := by
  obtain ⟨⟨x0, x1⟩, ⟨y0, y1⟩, ⟨z0, z1⟩, ⟨q0, q1⟩⟩ := h
  unfold dsV
  refine EW.eEnter Try.func56 rfl Try.ntmps56 ?_
  all_goals try (refine EW.nm ?_)
  all_goals try ((first | refine EW.eRegL (id := 0) ?_ | refine EW.eReg (id := 0) ?_); refine EW.eBox ?_; refine EW.eAssign ?_; refine EW.eEnd ?_; (try refine EW.nm ?_))
  all_goals try ((first | refine EW.eRegL (id := 1) ?_ | refine EW.eReg (id := 1) ?_); refine EW.eIndexAddr (z := 1) ?_; refine EW.eLoad1 ?_; refine EW.eIndexAddr (z := 1) ?_; refine EW.eLoad1 ?_; refine EW.eIndexAddr (z := 1) ?_; refine EW.eLoad1 ?_; refine EW.eIndexAddr (z := 1) ?_; refine EW.eLoad1 ?_; refine EW.eAssign ?_; refine EW.eAssign ?_; refine EW.eAssign ?_; refine EW.eAssign ?_; refine EW.eDraw ?_; (try refine EW.nm ?_))
  all_goals try ((first | refine EW.eRegL (id := 2) ?_ | refine EW.eReg (id := 2) ?_); refine EW.eMove ?_; refine EW.eEnd ?_; (try refine EW.nm ?_))
  all_goals try ((first | refine EW.eRegL (id := 3) ?_ | refine EW.eReg (id := 3) ?_); refine EW.eEql ?_; refine EW.eAssign ?_; refine EW.eEnd ?_; (try refine EW.nm ?_))
  all_goals try (first | refine EW.eYes (x := Operand.tmp 18) ?_ | refine EW.eNo (x := Operand.tmp 18) ?_ | (refine EW.eCond (x := Operand.tmp 18) ?_ ?_ <;> (intro hb hb'; (try dsimp only at hb'); (try (exfalso; first | omega | with_reducible exact absurd rfl hb')))))
  all_goals try (refine EW.nm ?_)
  all_goals try ((first | refine EW.eRegL (id := 4) ?_ | refine EW.eReg (id := 4) ?_); refine EW.eEql ?_; refine EW.eAssign ?_; refine EW.eEnd ?_; (try refine EW.nm ?_))
  all_goals try (first | refine EW.eYes (x := Operand.tmp 20) ?_ | refine EW.eNo (x := Operand.tmp 20) ?_ | (refine EW.eCond (x := Operand.tmp 20) ?_ ?_ <;> (intro hb hb'; (try dsimp only at hb'); (try (exfalso; first | omega | with_reducible exact absurd rfl hb')))))
  all_goals try (refine EW.nm ?_)
  all_goals try ((first | refine EW.eRegL (id := 5) ?_ | refine EW.eReg (id := 5) ?_); refine EW.eEql ?_; refine EW.eAssign ?_; refine EW.eEnd ?_; (try refine EW.nm ?_))
  all_goals try (first | refine EW.eYes (x := Operand.tmp 22) ?_ | refine EW.eNo (x := Operand.tmp 22) ?_ | (refine EW.eCond (x := Operand.tmp 22) ?_ ?_ <;> (intro hb hb'; (try dsimp only at hb'); (try (exfalso; first | omega | with_reducible exact absurd rfl hb')))))
  all_goals try (refine EW.nm ?_)
  all_goals try ((first | refine EW.eRegL (id := 6) ?_ | refine EW.eReg (id := 6) ?_); refine EW.eEql ?_; refine EW.eAssign ?_; refine EW.eEnd ?_; (try refine EW.nm ?_))
  all_goals try (first | refine EW.eYes (x := Operand.tmp 24) ?_ | refine EW.eNo (x := Operand.tmp 24) ?_ | (refine EW.eCond (x := Operand.tmp 24) ?_ ?_ <;> (intro hb hb'; (try dsimp only at hb'); (try (exfalso; first | omega | with_reducible exact absurd rfl hb')))))
  all_goals try (refine EW.nm ?_)
  all_goals try ((first | refine EW.eRegL (id := 7) ?_ | refine EW.eReg (id := 7) ?_); refine EW.eEql ?_; refine EW.eAssign ?_; refine EW.eEnd ?_; (try refine EW.nm ?_))
  all_goals try (first | refine EW.eYes (x := Operand.tmp 26) ?_ | refine EW.eNo (x := Operand.tmp 26) ?_ | (refine EW.eCond (x := Operand.tmp 26) ?_ ?_ <;> (intro hb hb'; (try dsimp only at hb'); (try (exfalso; first | omega | with_reducible exact absurd rfl hb')))))
  all_goals try (refine EW.nm ?_)
  all_goals try ((first | refine EW.eRegL (id := 8) ?_ | refine EW.eReg (id := 8) ?_); refine EW.eEql ?_; refine EW.eAssign ?_; refine EW.eEnd ?_; (try refine EW.nm ?_))
  all_goals try (first | refine EW.eYes (x := Operand.tmp 28) ?_ | refine EW.eNo (x := Operand.tmp 28) ?_ | (refine EW.eCond (x := Operand.tmp 28) ?_ ?_ <;> (intro hb hb'; (try dsimp only at hb'); (try (exfalso; first | omega | with_reducible exact absurd rfl hb')))))
  all_goals try (refine EW.nm ?_)
  all_goals try ((first | refine EW.eRegL (id := 9) ?_ | refine EW.eReg (id := 9) ?_); refine EW.eMove ?_; refine EW.eSub ?_; refine EW.eAssign ?_; refine EW.eEnd ?_; (try refine EW.nm ?_))
  all_goals try (with_reducible refine EW.parkK ?_)
  all_goals try ((first | refine EW.eRegL (id := 10) ?_ | refine EW.eReg (id := 10) ?_); refine EW.eMove ?_; refine EW.eAssign ?_; refine EW.eEnd ?_; (try refine EW.nm ?_))
  all_goals try (with_reducible refine EW.parkK ?_)
  all_goals try ((first | refine EW.eRegL (id := 11) ?_ | refine EW.eReg (id := 11) ?_); refine EW.eMove ?_; refine EW.eMove ?_; refine EW.eSub ?_; refine EW.eAssign ?_; refine EW.eEnd ?_; (try refine EW.nm ?_))
  all_goals try (with_reducible refine EW.parkK ?_)
  all_goals try ((first | refine EW.eRegL (id := 12) ?_ | refine EW.eReg (id := 12) ?_); refine EW.eMove ?_; refine EW.eAssign ?_; refine EW.eEnd ?_; (try refine EW.nm ?_))
  all_goals try ((first | refine EW.eRegL (id := 13) ?_ | refine EW.eReg (id := 13) ?_); refine EW.eMove ?_; refine EW.eMove ?_; refine EW.eMul ?_; refine EW.eAdd ?_; refine EW.eAssign ?_; refine EW.eEnd ?_; (try refine EW.nm ?_))
  all_goals try (with_reducible refine EW.parkK ?_)
  all_goals try ((first | refine EW.eRegL (id := 14) ?_ | refine EW.eReg (id := 14) ?_); refine EW.eMove ?_; refine EW.eAssign ?_; refine EW.eEnd ?_; (try refine EW.nm ?_))
  all_goals try ((first | refine EW.eRegL (id := 15) ?_ | refine EW.eReg (id := 15) ?_); refine EW.eMove ?_; refine EW.eMul ?_; refine EW.eMove ?_; refine EW.eSub ?_; refine EW.eAssign ?_; refine EW.eEnd ?_; (try refine EW.nm ?_))
  all_goals try (with_reducible refine EW.parkK ?_)
  all_goals try (refine EW.Park.mk ?_)
  all_goals (refine EW.eLeaveP ?_; intro w' hW; refine ⟨?_, hW⟩)
  all_goals (first | rfl | (refine congrArg Ending.returned ?_; simp only [Value.int.injEq, Value.bool.injEq, true_and]; (repeat' split) <;> first | rfl | omega))
def mi (a b : Int) : Int := if b < a then b else a
def ma (a b : Int) : Int := if b > a then b else a
theorem mi_gt (K a b : Int) : K < mi a b ↔ K < a ∧ K < b := by unfold mi; split <;> omega
theorem ma_lt (K a b : Int) : ma a b < K ↔ a < K ∧ b < K := by unfold ma; split <;> omega
theorem cmay (x y z q : Int) (w : World) : Calls Try.prog 31 #[V4 x y z q] w fun e w' => e = .returned (.bool (decide (Sm4 x y z q))) ∧ Below w.heap.size w w' := by
  have hs : decide (Sm4 x y z q) = (decide (-8796093022208 < mi (mi (mi x y) z) q) && decide (ma (ma (ma x y) z) q < 8796093022208)) := by
    rw [← Bool.decide_and]
    exact decide_eq_decide.2 (by simp only [mi_gt, ma_lt, Sm4, Sm]; omega)
  rw [hs]
  clear hs
  have Hm : Mm .min [.int .i64 x, .int .i64 y, .int .i64 z, .int .i64 q] .i64 (mi (mi (mi x y) z) q) := ⟨rfl⟩
  have HM : Mm .max [.int .i64 x, .int .i64 y, .int .i64 z, .int .i64 q] .i64 (ma (ma (ma x y) z) q) := ⟨rfl⟩
  generalize mi (mi (mi x y) z) q = m at *
  generalize ma (ma (ma x y) z) q = M at *
  refine EW.eEnter Try.func31 rfl Try.ntmps31 ?_
  all_goals try (refine EW.nm ?_)
  all_goals try ((first | refine EW.eRegL (id := 0) ?_ | refine EW.eReg (id := 0) ?_); refine EW.eBox ?_; refine EW.eAssign ?_; refine EW.eEnd ?_; (try refine EW.nm ?_))
  all_goals try ((first | refine EW.eRegL (id := 1) ?_ | refine EW.eReg (id := 1) ?_); refine EW.eIndexAddr (z := 1) ?_; refine EW.eLoad1 ?_; refine EW.eIndexAddr (z := 1) ?_; refine EW.eLoad1 ?_; refine EW.eIndexAddr (z := 1) ?_; refine EW.eLoad1 ?_; refine EW.eIndexAddr (z := 1) ?_; refine EW.eLoad1 ?_; refine EW.eMin ?_ (hr' := Hm); refine EW.eGtr ?_; refine EW.eMove ?_)
  all_goals try (refine EW.eGuard (j := 10) (o := ⟨some 14, _, _, _, _, _⟩) ?_ ?_ <;> (intro hb hb'; (try dsimp only at hb'); (try (exfalso; first | omega | with_reducible exact absurd rfl hb'))))
  all_goals try ((first | refine EW.eSkipT (j := 10) ?_ | refine EW.eSkipU (j := 10) ?_ | refine EW.eIndexAddr (z := 1) ?_); (first | refine EW.eSkipT (j := 10) ?_ | refine EW.eSkipU (j := 10) ?_ | refine EW.eLoad1 ?_); (first | refine EW.eSkipT (j := 10) ?_ | refine EW.eSkipU (j := 10) ?_ | refine EW.eIndexAddr (z := 1) ?_); (first | refine EW.eSkipT (j := 10) ?_ | refine EW.eSkipU (j := 10) ?_ | refine EW.eLoad1 ?_); (first | refine EW.eSkipT (j := 10) ?_ | refine EW.eSkipU (j := 10) ?_ | refine EW.eIndexAddr (z := 1) ?_); (first | refine EW.eSkipT (j := 10) ?_ | refine EW.eSkipU (j := 10) ?_ | refine EW.eLoad1 ?_); (first | refine EW.eSkipT (j := 10) ?_ | refine EW.eSkipU (j := 10) ?_ | refine EW.eIndexAddr (z := 1) ?_); (first | refine EW.eSkipT (j := 10) ?_ | refine EW.eSkipU (j := 10) ?_ | refine EW.eLoad1 ?_); (first | refine EW.eSkipT (j := 10) ?_ | refine EW.eSkipU (j := 10) ?_ | refine EW.eMax ?_ (hr' := HM)); (first | refine EW.eSkipT (j := 10) ?_ | refine EW.eSkipU (j := 10) ?_ | refine EW.eLss ?_); (first | refine EW.ePickT ?_ | refine EW.ePickF ?_); refine EW.eAssign ?_; refine EW.eEnd ?_; (try refine EW.nm ?_))
  all_goals try (with_reducible refine EW.parkK ?_)
  all_goals try (refine EW.Park.mk ?_)
  all_goals (refine EW.eLeaveP ?_; intro w' hW; refine ⟨?_, hW⟩)
  all_goals refine congrArg (fun b => Ending.returned (.bool b)) ?_
  all_goals first
    | (rw [decide_eq_false (p := -8796093022208 < m) (by omega)]; rfl)
    | (rw [decide_eq_true (p := -8796093022208 < m) (by omega)]; first | rfl | exact decide_eq_decide.2 (by omega))
end Go.Proofs.Ythclhmdgfekaeaa
