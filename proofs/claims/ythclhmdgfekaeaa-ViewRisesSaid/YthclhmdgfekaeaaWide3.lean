/- Package wide: parts, Int. -/
import Derived.Test.YthclhmdgfekaeaaWide2
import Derived.Test.YthclhmdgfekaeaaQuiet
namespace Go.Proofs.Ythclhmdgfekaeaa
open Go.RowKit Go.Shelf Go.BigFrame
attribute [local go_sem] Since.cell Since.frozen

theorem parts_math {H lo c : Int} (hH : 0 ≤ H) (hH' : H < 18446744073709551616) (h2 : 0 ≤ lo) (h3 : lo < 18446744073709551616) (hc : 0 < c) :
    (H * 18446744073709551616 + lo) / c = H / c * 18446744073709551616 + (H % c * 18446744073709551616 + lo) / c ∧ (H * 18446744073709551616 + lo) % c = (H % c * 18446744073709551616 + lo) % c ∧
    0 ≤ (H % c * 18446744073709551616 + lo) / c ∧ (H % c * 18446744073709551616 + lo) / c < 18446744073709551616 ∧ 0 ≤ H / c ∧ H / c ≤ H := by
  have e1 := Int.mul_ediv_add_emod H c
  have e2 : H * 18446744073709551616 + lo = (H % c * 18446744073709551616 + lo) + c * (H / c * 18446744073709551616) := by
    rw [← Int.mul_assoc]; omega
  have m0 := Int.emod_nonneg H (show c ≠ 0 by omega)
  have m1 := Int.emod_lt_of_pos H hc
  refine ⟨?_, ?_, Int.ediv_nonneg (by omega) (by omega), Int.ediv_lt_of_lt_mul hc (by omega), Int.ediv_nonneg hH (by omega), Int.ediv_le_self _ hH⟩
  · rw [e2, Int.add_mul_ediv_left _ _ (show c ≠ 0 by omega)]; omega
  · rw [e2, Int.add_mul_emod_self_left]
theorem parts_hi {H lo c : Int} (hH : 0 ≤ H) (hH' : H < 18446744073709551616) (h2 : 0 ≤ lo) (h3 : lo < 18446744073709551616) (hc : 0 < c) :
    wrap64 (H / c) = w128 ((H * 18446744073709551616 + lo) / c) / 18446744073709551616 ∧ (H % c * 18446744073709551616 + lo) / c = w128 ((H * 18446744073709551616 + lo) / c) % 18446744073709551616 := by
  obtain ⟨e1, _, e3, e4, e5, e6⟩ := parts_math hH hH' h2 h3 hc
  rw [e1]
  unfold w128 wrap64
  constructor <;> omega

theorem parts_any (hi lo c : Int) (w : World) (h0 : -9223372036854775808 ≤ hi) (h1 : hi ≤ 9223372036854775807) (h2 : 0 ≤ lo) (h3 : lo < 18446744073709551616) (hc : 0 < c) (hc' : c < 18446744073709551616) :
    Calls Try.prog 80 #[.agg #[.int .i64 hi, .int .u64 lo], .int .u64 c] w fun e w' => e = .returned (.tuple #[.agg #[.int .i64 (w128 ((hi % 18446744073709551616 * 18446744073709551616 + lo) / c) / 18446744073709551616), .int .u64 (w128 ((hi % 18446744073709551616 * 18446744073709551616 + lo) / c) % 18446744073709551616)], .int .u64 ((hi % 18446744073709551616 * 18446744073709551616 + lo) % c)]) ∧ Below w.heap.size w w' := by
  have e2 : IntKind.u64.wrap hi = hi % 18446744073709551616 := IntKind.wrap_u64 hi
  have hH0 : 0 ≤ hi % 18446744073709551616 := by omega
  have hH1 : hi % 18446744073709551616 < 18446744073709551616 := by omega
  obtain ⟨H, hH⟩ : ∃ H, hi % 18446744073709551616 = H := ⟨_, rfl⟩
  rw [hH] at e2 hH0 hH1 ⊢
  clear hH
  obtain ⟨g1, g2⟩ := parts_hi hH0 hH1 h2 h3 hc
  have g3 := (parts_math hH0 hH1 h2 h3 hc).2.1
  rw [← g1, ← g2, g3]
  have m0 := Int.emod_nonneg H (show c ≠ 0 by omega)
  have m1 := Int.emod_lt_of_pos H hc
  clear g1 g2 g3
  go_enter Try.func80, Try.ntmps80
  go_wp2_with (go_at_call 87; refine (div64_any _ _ _ _ (by omega) (by omega) (by omega) (by omega) (by omega)).mono ?_; (try simp only [Int.zero_mul, Int.zero_add]); rintro e w2 ⟨rfl, n1, rfl⟩)
  go_returns
  exact ⟨rfl, below_setCell (below_setCell (below_drewN _ (by go_grown)) (by simp) _) (by simp) _⟩

theorem int_any (hi lo : Int) (w : World) (h0 : -9223372036854775808 ≤ hi) (h1 : hi ≤ 9223372036854775807) (h2 : 0 ≤ lo) (h3 : lo < 18446744073709551616) :
    Calls Try.prog 72 #[.agg #[.int .i64 hi, .int .u64 lo]] w fun e w' => e = .returned (if -9223372036854775808 ≤ hi * 18446744073709551616 + lo ∧ hi * 18446744073709551616 + lo < 9223372036854775808 then .tuple #[.int .i64 (hi * 18446744073709551616 + lo), .int .i64 0] else .tuple #[.int .i64 0, .int .i64 20]) ∧ Below w.heap.size w w' := by
  obtain ⟨n, hn⟩ : ∃ n, wrap64 lo = n := ⟨_, rfl⟩
  have hn0 : -9223372036854775808 ≤ n ∧ n ≤ 9223372036854775807 := by rw [← hn]; unfold wrap64; omega
  have e1 : IntKind.i64.wrap lo = n := by rw [← hn, IntKind.wrap_i64]; unfold wrap64; omega
  obtain ⟨k0, k1⟩ := hn0
  by_cases hin : -9223372036854775808 ≤ hi * 18446744073709551616 + lo ∧ hi * 18446744073709551616 + lo < 9223372036854775808
  · rw [if_pos hin]
    have d1 : n / 18446744073709551616 = hi := by rw [← hn]; unfold wrap64; omega
    have d2 : n % 18446744073709551616 = lo := by rw [← hn]; unfold wrap64; omega
    have d3 : hi * 18446744073709551616 + lo = n := by rw [← hn]; unfold wrap64; omega
    rw [d3]
    clear hin d3 hn
    go_enter Try.func72, Try.ntmps72
    go_wp2_with fail
    refine region_calls (by kernel_rfl) (by kernel_rfl) ?_
    intro hN
    repeat (first
      | go_big_quiet_skip
      | (go_big_quiet_want; go_big_quiet_op; first
          | go_big_quiet_on
          | (apply Exists.intro; refine ⟨fun s => ?_, ?_⟩; (refine (of_any n s.w k0 k1).mono ?_; rintro e w2 ⟨rfl, hb⟩; exact ⟨rfl, s.on hb⟩); go_big_quiet_on)))
    refine wpQuiet_nil (since_all ?_)
    intro w2 hb
    go_wp2
    go_ret2
    exact ⟨rfl, Below.trans (by go_grown) (Below.undrew (hb.mono (by simp)))⟩
  · rw [if_neg hin]
    by_cases d1 : n / 18446744073709551616 = hi
    · have d2 : (n % 18446744073709551616 == lo) = false := by simp only [beq_eq_false_iff_ne]; rw [← hn] at d1 ⊢; unfold wrap64 at d1 ⊢; omega
      clear hin hn
      go_enter Try.func72, Try.ntmps72
      go_wp2_with fail
      refine region_calls (by kernel_rfl) (by kernel_rfl) ?_
      intro hN
      repeat (first
        | go_big_quiet_skip
        | (go_big_quiet_want; go_big_quiet_op; first
            | go_big_quiet_on
            | (apply Exists.intro; refine ⟨fun s => ?_, ?_⟩; (refine (of_any n s.w k0 k1).mono ?_; rintro e w2 ⟨rfl, hb⟩; exact ⟨rfl, s.on hb⟩); go_big_quiet_on)))
      refine wpQuiet_nil (since_all ?_)
      intro w2 hb
      go_wp2
      go_ret2
      exact ⟨rfl, Below.trans (by go_grown) (Below.undrew (hb.mono (by simp)))⟩
    · have d2 : (n / 18446744073709551616 == hi) = false := by simpa using d1
      clear hin hn d1
      go_enter Try.func72, Try.ntmps72
      go_wp2_with fail
      refine region_calls (by kernel_rfl) (by kernel_rfl) ?_
      intro hN
      repeat (first
        | go_big_quiet_skip
        | (go_big_quiet_want; go_big_quiet_op; first
            | go_big_quiet_on
            | (apply Exists.intro; refine ⟨fun s => ?_, ?_⟩; (refine (of_any n s.w k0 k1).mono ?_; rintro e w2 ⟨rfl, hb⟩; exact ⟨rfl, s.on hb⟩); go_big_quiet_on)))
      refine wpQuiet_nil (since_all ?_)
      intro w2 hb
      go_wp2
      go_ret2
      exact ⟨rfl, Below.trans (by go_grown) (Below.undrew (hb.mono (by simp)))⟩
end Go.Proofs.Ythclhmdgfekaeaa
