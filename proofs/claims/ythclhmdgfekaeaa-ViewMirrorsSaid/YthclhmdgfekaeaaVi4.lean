/- The law ViewMirrors. -/
import Derived.Test.YthclhmdgfekaeaaVi3
namespace Go.Proofs.Ythclhmdgfekaeaa
open Go.RowKit Go.Shelf SX

theorem wrap_neg (x : Int) (h0 : -9223372036854775808 ≤ x) (h1 : x ≤ 9223372036854775807) : IntKind.i64.wrap (-x) = if x = -9223372036854775808 then -9223372036854775808 else -x := by
  by_cases h : x = -9223372036854775808
  · subst h; decide
  · rw [if_neg h]; exact (Wr.i64 ⟨by omega, by omega⟩).eq
theorem seen_neg {x y z q : Int} (h0 : -9223372036854775808 ≤ x) (h1 : x ≤ 9223372036854775807) (k0 : -9223372036854775808 ≤ y) (k1 : y ≤ 9223372036854775807) (h : ¬ seenP x y z q) : ¬ seenP (IntKind.i64.wrap (-x)) (IntKind.i64.wrap (-y)) z q := by
  rw [wrap_neg x h0 h1, wrap_neg y k0 k1]
  unfold seenP at *
  split <;> split <;> omega
set_option maxRecDepth 20000 in
set_option maxHeartbeats 1000000 in
theorem mirrors_yes (x y z q W H : Int) (w : World) (hs : seenP x y z q) (hz : sized W H) : Calls Try.prog 4 #[.agg #[.int .i64 x, .int .i64 y, .int .i64 z, .int .i64 q], .int .i64 W, .int .i64 H] w fun e w' => e = .returned (.bool true) ∧ Below w.heap.size w w' := by
  have C1 := Lib.hid fun w => corner_ok x y z q W H w hs hz
  have C2 := Lib.hid fun w => corner_ok (-x) (-y) z q W H w (by unfold seenP at *; omega) hz
  unfold seenP at hs
  unfold sized at hz
  have bx := crn_bounds (n := x + q) (q := q) (k := 8 * W) (by omega) (by omega) (by omega) (by omega)
  have by' := crn_bounds (n := q - y) (q := q) (k := 8 * H) (by omega) (by omega) (by omega) (by omega)
  have mx : 0 ≤ 16 * W - crX x q W - crX (-x) q W ∧ 16 * W - crX x q W - crX (-x) q W ≤ 1 := by
    have := mir (n := x + q) (m := -x + q) (q := q) (k := 8 * W) (by omega) (by omega)
    unfold crX; omega
  have my : 0 ≤ 16 * H - crY y q H - crY (-y) q H ∧ 16 * H - crY y q H - crY (-y) q H ≤ 1 := by
    have := mir (n := q - y) (m := q - (-y)) (q := q) (k := 8 * H) (by omega) (by omega)
    unfold crY; omega
  change -2 * (8 * W) ≤ crX x q W ∧ crX x q W ≤ 4 * (8 * W) at bx
  change -2 * (8 * H) ≤ crY y q H ∧ crY y q H ≤ 4 * (8 * H) at by'
  refine sEnter Try.func4 rfl Try.ntmps4 ?_
  repeat' (first | ((with_reducible show RW _ _ _ _ _ _ _ _ _ _ _ _ _); (first | refine sEv wide_like ?_ | (refine sCall (R := ?_) wide_like Try.call12 ?_ ?_; rotate_left 1; (· intro w; exact valive_any w)) | (refine sCall (R := ?_) wide_like Try.call13 ?_ ?_; rotate_left 1; (· intro w; (first | with_reducible exact C1.out w | with_reducible exact C2.out w))) | refine sDraw ?_ | refine RW_end ?_ | refine sAlloc wide_like ?_ | refine sBox wide_like ?_ | refine sStore wide_like ?_ | refine sAlt wide_like ?_ | refine sSkipT wide_like ?_ | refine sSkipF wide_like ?_ | refine sSkip0T wide_like ?_ | refine sSkip0F wide_like ?_ | (refine sGuard ?_ ?_ <;> (intro hb; have hb' := hb; try (simp only [decide_eq_true_eq, decide_eq_false_iff_not, Bool.not_eq_true', Bool.not_eq_false', beq_iff_eq, beq_eq_false_iff_ne, bne_iff_ne, bne_eq_false_iff_eq, Int.not_lt, Int.not_le, ne_eq, Bool.and_eq_true, Bool.or_eq_false_iff] at hb'); try (exfalso; omega))) | (refine sChoice ?_ ?_ <;> (intro hb; have hb' := hb; try (simp only [decide_eq_true_eq, decide_eq_false_iff_not, Bool.not_eq_true', Bool.not_eq_false', beq_iff_eq, beq_eq_false_iff_ne, bne_iff_ne, bne_eq_false_iff_eq, Int.not_lt, Int.not_le, ne_eq, Bool.and_eq_true, Bool.or_eq_false_iff] at hb'); try (exfalso; omega))) | refine sLit wide_like ?_)) | ((with_reducible show CW _ _ _ _ _ _ _); (first | refine CW_seq ?_ | refine sRegL ?_ | refine CW_reg ?_ | refine sYes ?_ | refine sNo ?_ | (refine sCond ?_ ?_ <;> (intro hb; have hb' := hb; try (simp only [decide_eq_true_eq, decide_eq_false_iff_not, Bool.not_eq_true', Bool.not_eq_false', beq_iff_eq, beq_eq_false_iff_ne, bne_iff_ne, bne_eq_false_iff_eq, Int.not_lt, Int.not_le, ne_eq, Bool.and_eq_true, Bool.or_eq_false_iff] at hb'); try (exfalso; omega))) | refine CW_skip ?_ | refine CW_ret ?_ | refine CW_block ?_ | refine CW_exit ?_)) | ((with_reducible show KW _ _ _ _); (first | with_reducible refine KW_next ?_ | with_reducible refine KW_then ?_ | with_reducible refine KW_block ?_ | with_reducible refine KW_exit ?_ | with_reducible refine sPass ?_ | with_reducible refine KW_block_ret ?_ | with_reducible refine KW_then_ret ?_ | with_reducible refine KW_then_exit ?_ | with_reducible refine KW_round ?_)))
  all_goals ((first | refine sRet0 ?_ | refine sRet1 ?_ | refine sRet2 ?_ | refine sRet3 ?_); intro ids w' hW; refine ⟨?_, hW.below rfl⟩)
  all_goals rfl
set_option maxRecDepth 20000 in
set_option maxHeartbeats 1000000 in
theorem mirrors_no (x y z q W H : Int) (w : World) (h0 : -9223372036854775808 ≤ x) (h1 : x ≤ 9223372036854775807) (k0 : -9223372036854775808 ≤ y) (k1 : y ≤ 9223372036854775807) (h : ¬ (seenP x y z q ∧ sized W H)) : Calls Try.prog 4 #[.agg #[.int .i64 x, .int .i64 y, .int .i64 z, .int .i64 q], .int .i64 W, .int .i64 H] w fun e w' => e = .returned (.bool true) ∧ Below w.heap.size w w' := by
  have C1 := Lib.hid fun w => corner_no x y z q W H w h
  have C2 := Lib.hid fun w => corner_no (IntKind.i64.wrap (-x)) (IntKind.i64.wrap (-y)) z q W H w (fun hh => h ⟨by
    rcases Decidable.em (seenP x y z q) with hs | hs
    · exact hs
    · exact absurd hh.1 (seen_neg h0 h1 k0 k1 hs), hh.2⟩)
  clear h0 h1 k0 k1 h
  refine sEnter Try.func4 rfl Try.ntmps4 ?_
  repeat' (first | ((with_reducible show RW _ _ _ _ _ _ _ _ _ _ _ _ _); (first | refine sEv wide_like ?_ | (refine sCall (R := ?_) wide_like Try.call12 ?_ ?_; rotate_left 1; (· intro w; exact valive_any w)) | (refine sCall (R := ?_) wide_like Try.call13 ?_ ?_; rotate_left 1; (· intro w; (first | with_reducible exact C1.out w | with_reducible exact C2.out w))) | refine sDraw ?_ | refine RW_end ?_ | refine sAlloc wide_like ?_ | refine sBox wide_like ?_ | refine sStore wide_like ?_ | refine sAlt wide_like ?_ | refine sSkipT wide_like ?_ | refine sSkipF wide_like ?_ | refine sSkip0T wide_like ?_ | refine sSkip0F wide_like ?_ | (refine sGuard ?_ ?_ <;> (intro hb; have hb' := hb; try (simp only [decide_eq_true_eq, decide_eq_false_iff_not, Bool.not_eq_true', Bool.not_eq_false', beq_iff_eq, beq_eq_false_iff_ne, bne_iff_ne, bne_eq_false_iff_eq, Int.not_lt, Int.not_le, ne_eq, Bool.and_eq_true, Bool.or_eq_false_iff] at hb'); try (exfalso; omega))) | (refine sChoice ?_ ?_ <;> (intro hb; have hb' := hb; try (simp only [decide_eq_true_eq, decide_eq_false_iff_not, Bool.not_eq_true', Bool.not_eq_false', beq_iff_eq, beq_eq_false_iff_ne, bne_iff_ne, bne_eq_false_iff_eq, Int.not_lt, Int.not_le, ne_eq, Bool.and_eq_true, Bool.or_eq_false_iff] at hb'); try (exfalso; omega))) | refine sLit wide_like ?_)) | ((with_reducible show CW _ _ _ _ _ _ _); (first | refine CW_seq ?_ | refine sRegL ?_ | refine CW_reg ?_ | refine sYes ?_ | refine sNo ?_ | (refine sCond ?_ ?_ <;> (intro hb; have hb' := hb; try (simp only [decide_eq_true_eq, decide_eq_false_iff_not, Bool.not_eq_true', Bool.not_eq_false', beq_iff_eq, beq_eq_false_iff_ne, bne_iff_ne, bne_eq_false_iff_eq, Int.not_lt, Int.not_le, ne_eq, Bool.and_eq_true, Bool.or_eq_false_iff] at hb'); try (exfalso; omega))) | refine CW_skip ?_ | refine CW_ret ?_ | refine CW_block ?_ | refine CW_exit ?_)) | ((with_reducible show KW _ _ _ _); (first | with_reducible refine KW_next ?_ | with_reducible refine KW_then ?_ | with_reducible refine KW_block ?_ | with_reducible refine KW_exit ?_ | with_reducible refine sPass ?_ | with_reducible refine KW_block_ret ?_ | with_reducible refine KW_then_ret ?_ | with_reducible refine KW_then_exit ?_ | with_reducible refine KW_round ?_)))
  all_goals ((first | refine sRet0 ?_ | refine sRet1 ?_ | refine sRet2 ?_ | refine sRet3 ?_); intro ids w' hW; refine ⟨?_, hW.below rfl⟩)
  all_goals rfl
theorem mirrors_any (x y z q W H : Int) (w : World) (h0 : -9223372036854775808 ≤ x) (h1 : x ≤ 9223372036854775807) (k0 : -9223372036854775808 ≤ y) (k1 : y ≤ 9223372036854775807) (_ : -9223372036854775808 ≤ z) (_ : z ≤ 9223372036854775807) (_ : -9223372036854775808 ≤ q) (_ : q ≤ 9223372036854775807) (_ : -9223372036854775808 ≤ W) (_ : W ≤ 9223372036854775807) (_ : -9223372036854775808 ≤ H) (_ : H ≤ 9223372036854775807) :
    Calls Try.prog 4 #[.agg #[.int .i64 x, .int .i64 y, .int .i64 z, .int .i64 q], .int .i64 W, .int .i64 H] w fun e w' => e = .returned (.bool true) ∧ Below w.heap.size w w' := by
  by_cases h : seenP x y z q
  · rcases Classical.em (sized W H) with hz | hz
    · exact mirrors_yes x y z q W H w h hz
    · exact mirrors_no x y z q W H w h0 h1 k0 k1 (fun hh => hz hh.2)
  · exact mirrors_no x y z q W H w h0 h1 k0 k1 (fun hh => h hh.1)
end Go.Proofs.Ythclhmdgfekaeaa
