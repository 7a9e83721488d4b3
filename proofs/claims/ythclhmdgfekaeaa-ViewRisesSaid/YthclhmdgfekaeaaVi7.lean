/- The law ViewRises. -/
import Derived.Test.YthclhmdgfekaeaaVi3
namespace Go.Proofs.Ythclhmdgfekaeaa
open Go.RowKit Go.Shelf SX

/-- Whatever the vertex: an answer, and what it is if it is no error. -/
theorem corner_some (x y z q W H : Int) : ∃ X Y Z e : Int, (∀ w, Calls Try.prog 13 #[.agg #[.int .i64 x, .int .i64 y, .int .i64 z, .int .i64 q], .int .i64 W, .int .i64 H] w fun e' w' => e' = .returned (.tuple #[.agg #[.int .i64 X, .int .i64 Y, .int .i64 Z], .int .i64 e]) ∧ Below w.heap.size w w') ∧
    (e = 0 → X = crX x q W ∧ Y = crY y q H ∧ Z = crZ z q) := by
  rcases Classical.em (seenP x y z q ∧ sized W H) with h | h
  · exact ⟨_, _, _, _, fun w => corner_ok x y z q W H w h.1 h.2, fun _ => ⟨rfl, rfl, rfl⟩⟩
  · exact ⟨_, _, _, _, fun w => corner_no x y z q W H w h, fun h => by cases h⟩
set_option maxRecDepth 20000 in
set_option maxHeartbeats 16000000 in
theorem rises_yes (x y z q k W H : Int) (w : World) (hs : seenP x y z q) (hz : sized W H) (k0 : 0 ≤ k) (k1 : k < 4294967296) : Calls Try.prog 3 #[.agg #[.int .i64 x, .int .i64 y, .int .i64 z, .int .i64 q], .int .u32 k, .int .i64 W, .int .i64 H] w fun e w' => e = .returned (.bool true) ∧ Below w.heap.size w w' := by
  have C0 := Lib.hid fun w => corner_ok x y z q W H w hs hz
  obtain ⟨X1, Y1, Z1, e1, D1, h1⟩ := corner_some (x + k) y z q W H
  obtain ⟨X2, Y2, Z2, e2, D2, h2⟩ := corner_some x (y + k) z q W H
  obtain ⟨X3, Y3, Z3, e3, D3, h3⟩ := corner_some x y (z + k) q W H
  unfold seenP at hs
  unfold sized at hz
  have m1 := crX_mono (x := x) (y := x + k) (q := q) (W := W) (by omega) (by omega) (by omega)
  have m2 := crY_mono (x := y) (y := y + k) (q := q) (H := H) (by omega) (by omega) (by omega)
  have m3 := crZ_mono (x := z) (y := z + k) (q := q) (by omega) (by omega)
  have g1 : e1 = 0 → crX x q W ≤ X1 ∧ Y1 = crY y q H ∧ Z1 = crZ z q := fun h => by obtain ⟨a, b, c⟩ := h1 h; exact ⟨by omega, b, c⟩
  have g2 : e2 = 0 → X2 = crX x q W ∧ Y2 ≤ crY y q H ∧ Z2 = crZ z q := fun h => by obtain ⟨a, b, c⟩ := h2 h; exact ⟨a, by omega, c⟩
  have g3 : e3 = 0 → X3 = crX x q W ∧ Y3 = crY y q H ∧ crZ z q ≤ Z3 := fun h => by obtain ⟨a, b, c⟩ := h3 h; exact ⟨a, b, by omega⟩
  have C1 := Lib.hid D1
  have C2 := Lib.hid D2
  have C3 := Lib.hid D3
  clear D1 D2 D3 h1 h2 h3 m1 m2 m3
  refine sEnter Try.func3 rfl Try.ntmps3 ?_
  repeat' (first | ((with_reducible show RW _ _ _ _ _ _ _ _ _ _ _ _ _); (first | refine sEv wide_like ?_ | (refine sCall (R := ?_) wide_like Try.call12 ?_ ?_; rotate_left 1; (· intro w; exact valive_any w)) | (refine sCall (R := ?_) wide_like Try.call13 ?_ ?_; rotate_left 1; (· intro w; (first | with_reducible exact C0.out w | with_reducible exact C1.out w | with_reducible exact C2.out w | with_reducible exact C3.out w))) | refine sDraw ?_ | refine RW_end ?_ | refine sAlloc wide_like ?_ | refine sBox wide_like ?_ | refine sStore wide_like ?_ | refine sAlt wide_like ?_ | refine sSkipT wide_like ?_ | refine sSkipF wide_like ?_ | refine sSkip0T wide_like ?_ | refine sSkip0F wide_like ?_ | refine sSkipU wide_like ?_ | refine sSkipU0 wide_like ?_ | (refine sGuard ?_ ?_ <;> (intro hb; have hb' := hb; try (simp only [decide_eq_true_eq, decide_eq_false_iff_not, Bool.not_eq_true', Bool.not_eq_false', beq_iff_eq, beq_eq_false_iff_ne, bne_iff_ne, bne_eq_false_iff_eq, Int.not_lt, Int.not_le, ne_eq, Bool.and_eq_true, Bool.or_eq_false_iff, eqs_iff, eqs_false, conjP, and_true, true_and, eq_self, not_true_eq_false, not_false_eq_true] at hb'); try (exfalso; omega))) | (refine sChoice ?_ ?_ <;> (intro hb; have hb' := hb; try (simp only [decide_eq_true_eq, decide_eq_false_iff_not, Bool.not_eq_true', Bool.not_eq_false', beq_iff_eq, beq_eq_false_iff_ne, bne_iff_ne, bne_eq_false_iff_eq, Int.not_lt, Int.not_le, ne_eq, Bool.and_eq_true, Bool.or_eq_false_iff, eqs_iff, eqs_false, conjP, and_true, true_and, eq_self, not_true_eq_false, not_false_eq_true] at hb'); try (exfalso; omega))) | refine sLit wide_like ?_)) | ((with_reducible show CW _ _ _ _ _ _ _); (first | (with_reducible apply CW_unroll 4) | refine CW_seq ?_ | refine sRegL ?_ | refine CW_reg ?_ | refine sYes ?_ | refine sNo ?_ | (refine sCond ?_ ?_ <;> (intro hb; have hb' := hb; try (simp only [decide_eq_true_eq, decide_eq_false_iff_not, Bool.not_eq_true', Bool.not_eq_false', beq_iff_eq, beq_eq_false_iff_ne, bne_iff_ne, bne_eq_false_iff_eq, Int.not_lt, Int.not_le, ne_eq, Bool.and_eq_true, Bool.or_eq_false_iff, eqs_iff, eqs_false, conjP, and_true, true_and, eq_self, not_true_eq_false, not_false_eq_true] at hb'); try (exfalso; omega))) | refine CW_skip ?_ | refine CW_ret ?_ | refine CW_block ?_ | refine CW_exit ?_)) | ((with_reducible show KW _ _ _ _); (first | with_reducible refine KW_next ?_ | with_reducible refine KW_then ?_ | with_reducible refine KW_block ?_ | with_reducible refine KW_exit ?_ | with_reducible refine sPass ?_ | with_reducible refine KW_block_ret ?_ | with_reducible refine KW_then_ret ?_ | with_reducible refine KW_then_exit ?_ | with_reducible refine KW_round ?_)))
  all_goals ((first | refine sRet0 ?_ | refine sRet1 ?_ | refine sRet2 ?_ | refine sRet3 ?_); intro ids w' hW; refine ⟨?_, hW.below rfl⟩)
  all_goals rfl
set_option maxRecDepth 20000 in
set_option maxHeartbeats 2000000 in
theorem rises_no (x y z q k W H : Int) (w : World) (h : ¬ (seenP x y z q ∧ sized W H)) : Calls Try.prog 3 #[.agg #[.int .i64 x, .int .i64 y, .int .i64 z, .int .i64 q], .int .u32 k, .int .i64 W, .int .i64 H] w fun e w' => e = .returned (.bool true) ∧ Below w.heap.size w w' := by
  have C1 := Lib.hid fun w => corner_no x y z q W H w h
  clear h
  refine sEnter Try.func3 rfl Try.ntmps3 ?_
  repeat' (first | ((with_reducible show RW _ _ _ _ _ _ _ _ _ _ _ _ _); (first | refine sEv wide_like ?_ | (refine sCall (R := ?_) wide_like Try.call12 ?_ ?_; rotate_left 1; (· intro w; exact valive_any w)) | (refine sCall (R := ?_) wide_like Try.call13 ?_ ?_; rotate_left 1; (· intro w; exact C1.out w)) | refine sDraw ?_ | refine RW_end ?_ | refine sAlloc wide_like ?_ | refine sBox wide_like ?_ | refine sStore wide_like ?_ | refine sAlt wide_like ?_ | refine sSkipT wide_like ?_ | refine sSkipF wide_like ?_ | refine sSkip0T wide_like ?_ | refine sSkip0F wide_like ?_ | refine sSkipU wide_like ?_ | refine sSkipU0 wide_like ?_ | (refine sGuard ?_ ?_ <;> (intro hb; have hb' := hb; try (simp only [decide_eq_true_eq, decide_eq_false_iff_not, Bool.not_eq_true', Bool.not_eq_false', beq_iff_eq, beq_eq_false_iff_ne, bne_iff_ne, bne_eq_false_iff_eq, Int.not_lt, Int.not_le, ne_eq, Bool.and_eq_true, Bool.or_eq_false_iff, eqs_iff, eqs_false, conjP, and_true, true_and, eq_self, not_true_eq_false, not_false_eq_true] at hb'); try (exfalso; omega))) | (refine sChoice ?_ ?_ <;> (intro hb; have hb' := hb; try (simp only [decide_eq_true_eq, decide_eq_false_iff_not, Bool.not_eq_true', Bool.not_eq_false', beq_iff_eq, beq_eq_false_iff_ne, bne_iff_ne, bne_eq_false_iff_eq, Int.not_lt, Int.not_le, ne_eq, Bool.and_eq_true, Bool.or_eq_false_iff, eqs_iff, eqs_false, conjP, and_true, true_and, eq_self, not_true_eq_false, not_false_eq_true] at hb'); try (exfalso; omega))) | refine sLit wide_like ?_)) | ((with_reducible show CW _ _ _ _ _ _ _); (first | refine CW_seq ?_ | refine sRegL ?_ | refine CW_reg ?_ | refine sYes ?_ | refine sNo ?_ | (refine sCond ?_ ?_ <;> (intro hb; have hb' := hb; try (simp only [decide_eq_true_eq, decide_eq_false_iff_not, Bool.not_eq_true', Bool.not_eq_false', beq_iff_eq, beq_eq_false_iff_ne, bne_iff_ne, bne_eq_false_iff_eq, Int.not_lt, Int.not_le, ne_eq, Bool.and_eq_true, Bool.or_eq_false_iff, eqs_iff, eqs_false, conjP, and_true, true_and, eq_self, not_true_eq_false, not_false_eq_true] at hb'); try (exfalso; omega))) | refine CW_skip ?_ | refine CW_ret ?_ | refine CW_block ?_ | refine CW_exit ?_)) | ((with_reducible show KW _ _ _ _); (first | with_reducible refine KW_next ?_ | with_reducible refine KW_then ?_ | with_reducible refine KW_block ?_ | with_reducible refine KW_exit ?_ | with_reducible refine sPass ?_ | with_reducible refine KW_block_ret ?_ | with_reducible refine KW_then_ret ?_ | with_reducible refine KW_then_exit ?_ | with_reducible refine KW_round ?_)))
  all_goals ((first | refine sRet0 ?_ | refine sRet1 ?_ | refine sRet2 ?_ | refine sRet3 ?_); intro ids w' hW; refine ⟨?_, hW.below rfl⟩)
  all_goals rfl
theorem rises_any (x y z q k W H : Int) (w : World) (_ : -9223372036854775808 ≤ x) (_ : x ≤ 9223372036854775807) (_ : -9223372036854775808 ≤ y) (_ : y ≤ 9223372036854775807) (_ : -9223372036854775808 ≤ z) (_ : z ≤ 9223372036854775807) (_ : -9223372036854775808 ≤ q) (_ : q ≤ 9223372036854775807) (k0 : 0 ≤ k) (k1 : k < 4294967296) (_ : -9223372036854775808 ≤ W) (_ : W ≤ 9223372036854775807) (_ : -9223372036854775808 ≤ H) (_ : H ≤ 9223372036854775807) :
    Calls Try.prog 3 #[.agg #[.int .i64 x, .int .i64 y, .int .i64 z, .int .i64 q], .int .u32 k, .int .i64 W, .int .i64 H] w fun e w' => e = .returned (.bool true) ∧ Below w.heap.size w w' := by
  rcases Classical.em (seenP x y z q ∧ sized W H) with h | h
  · exact rises_yes x y z q k W H w h.1 h.2 k0 k1
  · exact rises_no x y z q k W H w h
end Go.Proofs.Ythclhmdgfekaeaa
