/- view: Corner, Pixel; the document's. -/
import Derived.Test.YthclhmdgfekaeaaHVt5
import Derived.Test.YthclhmdgfekaeaaHVt1
namespace Go.Proofs.Ythclhmdgfekaeaa
set_option linter.unusedSimpArgs false
set_option linter.unusedVariables false
open Go.RowKit EV
open SX (Wr Tv Qu Rm Sh Is conjP eqs_iff eqs_false)
open EW (PlL PlT PlV PlVs LfV Mm Bt Opn GV YT lpOf nums)
set_option maxRecDepth 20000
theorem crn_in {x y z q W H : Int} (hs : seenP x y z q) (hz : sized W H) : (-1024 ≤ crX x q W ∧ crX x q W ≤ 2048) ∧ (-1024 ≤ crY y q H ∧ crY y q H ≤ 2048) ∧ -36028797018963968 ≤ z * 16777215 / q ∧ z * 16777215 / q ≤ 36028797018963968 := by
  obtain ⟨⟨x0, x1, y0, y1, z0, z1, q1⟩, q0, a1, a2, a3, a4⟩ := hs
  obtain ⟨s0, s1, s2, s3⟩ := hz
  have bx := crn_bounds (n := x + q) (q := q) (k := 8 * W) (by omega) (by omega) (by omega) (by omega)
  have by' := crn_bounds (n := q - y) (q := q) (k := 8 * H) (by omega) (by omega) (by omega) (by omega)
  have bz := z_bounds z0 z1 q0
  unfold crX crY
  exact ⟨⟨by omega, by omega⟩, ⟨by omega, by omega⟩, bz⟩
theorem vcorner0 (x y z q W H : Int) (w : World) (hs : seenP x y z q) (hz : sized W H) : Calls Try.prog 30 #[V4 x y z q, .int .i64 W, .int .i64 H] w fun e w' => e = .returned (.agg #[.int .i64 (crX x q W), .int .i64 (crY y q H), .int .i64 (crZ z q)]) ∧ Below w.heap.size w w' := by
  obtain ⟨hX, hY, hZ⟩ := crn_in hs hz
  obtain ⟨⟨x0, x1, y0, y1, z0, z1, q1⟩, q0, a1, a2, a3, a4⟩ := hs
  obtain ⟨s0, s1, s2, s3⟩ := hz
  have h1 := fun w => vdown (x + q) (8 * W) q (crX x q W) w ⟨by omega, by omega⟩ ⟨by omega, by omega⟩ (by omega) (by omega) rfl (by omega) (by omega)
  have h2 := fun w => vdown (q - y) (8 * H) q (crY y q H) w ⟨by omega, by omega⟩ ⟨by omega, by omega⟩ (by omega) (by omega) rfl (by omega) (by omega)
  have h3 := fun w => vdown z 16777215 q (z * 16777215 / q) w ⟨by omega, by omega⟩ ⟨by omega, by omega⟩ (by omega) (by omega) rfl (by omega) (by omega)
  unfold crZ
  generalize crX x q W = X at *
  generalize crY y q H = Y at *
  generalize z * 16777215 / q = Z at *
  refine EW.eEnter Try.func30 rfl Try.ntmps30 ?_
  all_goals try (refine EW.nm ?_)
  all_goals try ((first | refine EW.eRegL (id := 0) ?_ | refine EW.eReg (id := 0) ?_); refine EW.eBox ?_; refine EW.eAlloc ?_; refine EW.eEnd ?_; (try refine EW.nm ?_))
  all_goals try ((first | refine EW.eRegL (id := 1) ?_ | refine EW.eReg (id := 1) ?_); refine EW.eIndexAddr (z := 1) ?_; refine EW.eLoad1 ?_; refine EW.eIndexAddr (z := 1) ?_; refine EW.eLoad1 ?_; refine EW.eAdd ?_; refine EW.eMove ?_; refine EW.eMul ?_; refine EW.eIndexAddr (z := 1) ?_; refine EW.eLoad1 ?_; (first | refine EW.eCall Try.call44 (fun w => h1 w) ?_ | refine EW.eCall Try.call44 (fun w => h2 w) ?_ | refine EW.eCall Try.call44 (fun w => h3 w) ?_); refine EW.eIndexAddr (z := 1) ?_; refine EW.eLoad1 ?_; refine EW.eIndexAddr (z := 1) ?_; refine EW.eLoad1 ?_; refine EW.eSub ?_; refine EW.eMove ?_; refine EW.eMul ?_; refine EW.eIndexAddr (z := 1) ?_; refine EW.eLoad1 ?_; (first | refine EW.eCall Try.call44 (fun w => h1 w) ?_ | refine EW.eCall Try.call44 (fun w => h2 w) ?_ | refine EW.eCall Try.call44 (fun w => h3 w) ?_); refine EW.eIndexAddr (z := 1) ?_; refine EW.eLoad1 ?_; refine EW.eIndexAddr (z := 1) ?_; refine EW.eLoad1 ?_; (first | refine EW.eCall Try.call44 (fun w => h1 w) ?_ | refine EW.eCall Try.call44 (fun w => h2 w) ?_ | refine EW.eCall Try.call44 (fun w => h3 w) ?_); refine EW.eMax ?_ (hr' := max_z Z 0); refine EW.eMin ?_ (hr' := min_z (max Z 0) 16777215); refine EW.eBuild (place := fun i => [(0, 1), (1, 1), (2, 1)][i]?) ?_; (first | refine EW.eStoreW (k := 3) ?_ | refine EW.eStore (k := 3) ?_); refine EW.eDraw ?_; (try refine EW.nm ?_))
  all_goals try (with_reducible refine EW.parkK ?_)
  all_goals try (refine EW.Park.mk ?_)
  all_goals (refine EW.eLeaveP ?_; intro w' hW; refine ⟨?_, hW⟩)
  all_goals first | rfl | exact agg_fin (by omega)
theorem vcorner_y (x y z q W H : Int) (w : World) (hs : seenP x y z q) (hz : sized W H) : Calls Try.prog 13 #[V4 x y z q, .int .i64 W, .int .i64 H] w fun e w' => e = .returned (.tuple #[.agg #[.int .i64 (crX x q W), .int .i64 (crY y q H), .int .i64 (crZ z q)], .int .i64 0]) ∧ Below w.heap.size w w' := by
  have h1 := fun w => vcorner0 x y z q W H w hs hz
  generalize crX x q W = X at *
  generalize crY y q H = Y at *
  generalize crZ z q = Z at *
  refine EW.eEnter Try.func13 rfl Try.ntmps13 ?_
  all_goals try (refine EW.nm ?_)
  all_goals try ((first | refine EW.eRegL (id := 0) ?_ | refine EW.eReg (id := 0) ?_); refine EW.eBox ?_; refine EW.eAlloc ?_; refine EW.eAssign ?_; refine EW.eEnd ?_; (try refine EW.nm ?_))
  all_goals try ((first | refine EW.eRegL (id := 1) ?_ | refine EW.eReg (id := 1) ?_); refine EW.eMove ?_; refine EW.eMove ?_; refine EW.eCall Try.call20 (fun w => vcheck_y W H w hz) ?_; refine EW.eNeq ?_; refine EW.eMove ?_)
  all_goals try (refine EW.eGuard (j := 4) (o := ⟨some 13, _, _, _, _, _⟩) ?_ ?_ <;> (intro hb hb'; (try dsimp only at hb'); (try (exfalso; first | omega | with_reducible exact absurd rfl hb'))))
  all_goals try ((first | refine EW.eSkipF (j := 4) ?_ | refine EW.eSkipU (j := 4) ?_ | refine EW.eLoadA (k := 4) ?_); (first | refine EW.eSkipF (j := 4) ?_ | refine EW.eSkipU (j := 4) ?_ | refine EW.eCall Try.call29 (fun w => vseen_y x y z q w hs) ?_); (first | refine EW.eSkipF (j := 4) ?_ | refine EW.eSkipU (j := 4) ?_ | refine EW.eNot ?_); (first | refine EW.ePickT ?_ | refine EW.ePickF ?_); refine EW.eEnd ?_; (try refine EW.nm ?_))
  all_goals try (first | refine EW.eYes (x := Operand.tmp 16) ?_ | refine EW.eNo (x := Operand.tmp 16) ?_ | (refine EW.eCond (x := Operand.tmp 16) ?_ ?_ <;> (intro hb hb'; (try dsimp only at hb'); (try (exfalso; first | omega | with_reducible exact absurd rfl hb')))))
  all_goals try (refine EW.nm ?_)
  all_goals try ((first | refine EW.eRegL (id := 2) ?_ | refine EW.eReg (id := 2) ?_); refine EW.eBuild (place := fun i => [(0, 1), (1, 1), (2, 1)][i]?) ?_; (first | refine EW.eStoreW (k := 3) ?_ | refine EW.eStore (k := 3) ?_); refine EW.eAssign ?_; refine EW.eEnd ?_; (try refine EW.nm ?_))
  all_goals try (with_reducible refine EW.parkK ?_)
  all_goals try ((first | refine EW.eRegL (id := 3) ?_ | refine EW.eReg (id := 3) ?_); refine EW.eLoadA (k := 4) ?_; refine EW.eMove ?_; refine EW.eMove ?_; refine EW.eCall Try.call30 (fun w => h1 w) ?_; (first | refine EW.eStoreW (k := 3) ?_ | refine EW.eStore (k := 3) ?_); refine EW.eAssign ?_; refine EW.eEnd ?_; (try refine EW.nm ?_))
  all_goals try (with_reducible refine EW.parkK ?_)
  all_goals try (refine EW.Park.mk ?_)
  all_goals (refine EW.eLeaveP ?_; intro w' hW; refine ⟨?_, hW⟩)
  all_goals rfl
end Go.Proofs.Ythclhmdgfekaeaa
