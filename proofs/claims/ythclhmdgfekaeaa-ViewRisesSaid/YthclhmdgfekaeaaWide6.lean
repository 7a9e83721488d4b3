/- Package wide: MulDiv. -/
import Derived.Test.YthclhmdgfekaeaaWide5
namespace Go.Proofs.Ythclhmdgfekaeaa
open Go.RowKit Go.Shelf

set_option maxHeartbeats 4000000 in
theorem muldiv_walk (a b c PH PL QH QL R N F : Int) (w : World)
    (hM : ∀ W, Calls Try.prog 75 #[.int .i64 a, .int .i64 b] W fun e w' => e = .returned (.agg #[.int .i64 PH, .int .u64 PL]) ∧ Below W.heap.size W w')
    (hD : ∀ W, Calls Try.prog 71 #[.agg #[.int .i64 PH, .int .u64 PL], .int .i64 c] W fun e w' => e = .returned (.tuple #[.agg #[.int .i64 QH, .int .u64 QL], .int .i64 R, .int .i64 0]) ∧ Below W.heap.size W w')
    (hI : ∀ W, Calls Try.prog 72 #[.agg #[.int .i64 QH, .int .u64 QL]] W fun e w' => e = .returned (.tuple #[.int .i64 N, .int .i64 F]) ∧ Below W.heap.size W w') :
    Calls Try.prog 58 #[.int .i64 a, .int .i64 b, .int .i64 c] w fun e w' => e = .returned (.tuple #[.int .i64 N, .int .i64 F]) ∧ Below w.heap.size w w' := by
  have HM := Lib.hid hM
  have HD := Lib.hid hD
  have HI := Lib.hid hI
  clear hM hD hI
  go_enter Try.func58, Try.ntmps58
  go_wp2_with (first
    | (go_at_call 75; refine (HM.out _).mono ?_; rintro e w2 ⟨rfl, hB⟩)
    | (go_at_call 71; refine (HD.out _).mono ?_; rintro e w3 ⟨rfl, hb⟩; have hB := hB.trans (hb.mono hB.size); clear hb)
    | ((with_reducible refine at_store 89 8 ?_); refine wpList_store_blk (blk1_0 (Below.refl _ _)) 89 _ _ rfl rfl rfl rfl rfl (by kernel_rfl) (by simp [Value.oneCell']) ?_; intro w4 B8 g4; have hB : Below w.heap.size w w4 := (hB.alloc hB.size _).grown g4 (by have := hB.size; simp; omega) (fun k hk => by have := hB.size; cases hk; omega); clear g4; obtain ⟨c8, f8⟩ := B8.rules)
    | (go_at_call 72; refine (HI.out _).mono ?_; rintro e w5 ⟨rfl, hb⟩; have hB := hB.trans (hb.mono hB.size); clear hb))
  go_ret2
  exact ⟨rfl, hB⟩

theorem prod_bounds {a b : Int} (ha0 : -9223372036854775808 ≤ a) (ha1 : a ≤ 9223372036854775807) (hb0 : -9223372036854775808 ≤ b) (hb1 : b ≤ 9223372036854775807) :
    -85070591730234615865843651857942052864 ≤ a * b ∧ a * b ≤ 85070591730234615865843651857942052864 := by
  obtain ⟨h1, h2⟩ := abs_prod ha0 ha1 hb0 hb1
  rw [← Int.natCast_mul, ← Int.natAbs_mul] at h2
  omega
theorem dq_bounds {X c : Int} (hc : c ≠ 0) (h0 : -170141183460469231731687303715884105728 ≤ X) (h1 : X < 170141183460469231731687303715884105728) (hno : ¬ (X = -170141183460469231731687303715884105728 ∧ c = -1)) :
    -170141183460469231731687303715884105728 ≤ dq X c ∧ dq X c < 170141183460469231731687303715884105728 := by
  have key : ∀ A C : Int, 0 < C → -170141183460469231731687303715884105728 ≤ A → (A < 170141183460469231731687303715884105728 ∨ A ≤ 170141183460469231731687303715884105728 ∧ 2 ≤ C) → -170141183460469231731687303715884105728 ≤ A / C ∧ A / C < 170141183460469231731687303715884105728 := by
    intro A C hC hA hA2
    have e1 := Int.mul_ediv_add_emod A C
    have e2 := Int.emod_nonneg A (show C ≠ 0 by omega)
    have e3 := Int.emod_lt_of_pos A hC
    constructor
    · refine (Int.le_ediv_iff_mul_le hC).2 ?_
      have : (170141183460469231731687303715884105728 : Int) * 1 ≤ 170141183460469231731687303715884105728 * C := Int.mul_le_mul_of_nonneg_left (by omega) (by omega)
      rw [Int.neg_mul]; omega
    · refine Int.ediv_lt_of_lt_mul hC ?_
      rcases hA2 with h | ⟨h, h2⟩
      · have : (170141183460469231731687303715884105728 : Int) * 1 ≤ 170141183460469231731687303715884105728 * C := Int.mul_le_mul_of_nonneg_left (by omega) (by omega)
        omega
      · have : (170141183460469231731687303715884105728 : Int) * 2 ≤ 170141183460469231731687303715884105728 * C := Int.mul_le_mul_of_nonneg_left (by omega) (by omega)
        omega
  unfold dq
  split
  · exact key X c (by omega) h0 (.inl h1)
  · exact key (-X) (-c) (by omega) (by omega) (by omega)

/-- MulDiv by a divisor. -/
theorem muldiv_any (a b c : Int) (w : World) (ha0 : -9223372036854775808 ≤ a) (ha1 : a ≤ 9223372036854775807) (hb0 : -9223372036854775808 ≤ b) (hb1 : b ≤ 9223372036854775807) (k0 : -9223372036854775808 ≤ c) (k1 : c ≤ 9223372036854775807) (hc : c ≠ 0) :
    Calls Try.prog 58 #[.int .i64 a, .int .i64 b, .int .i64 c] w fun e w' => e = .returned (if -9223372036854775808 ≤ dq (a * b) c ∧ dq (a * b) c < 9223372036854775808 then .tuple #[.int .i64 (dq (a * b) c), .int .i64 0] else .tuple #[.int .i64 0, .int .i64 20]) ∧ Below w.heap.size w w' := by
  obtain ⟨p0, p1⟩ := prod_bounds ha0 ha1 hb0 hb1
  obtain ⟨q0, q1⟩ := dq_bounds hc (show -170141183460469231731687303715884105728 ≤ a * b by omega) (by omega) (by omega)
  have hM := fun W => mul_any a b W ha0 ha1 hb0 hb1
  have hD : ∀ W, Calls Try.prog 71 #[.agg #[.int .i64 (a * b / 18446744073709551616), .int .u64 (a * b % 18446744073709551616)], .int .i64 c] W fun e w' => e = .returned (.tuple #[.agg #[.int .i64 (dq (a * b) c / 18446744073709551616), .int .u64 (dq (a * b) c % 18446744073709551616)], .int .i64 (dr (a * b) c), .int .i64 0]) ∧ Below W.heap.size W w' := fun W => by
    have := div_ok (a * b / 18446744073709551616) (a * b % 18446744073709551616) c W (by omega) (by omega) (by omega) (by omega) k0 k1 hc (by omega)
    rw [show a * b / 18446744073709551616 * 18446744073709551616 + a * b % 18446744073709551616 = a * b from by omega] at this; exact this
  have hI := fun W => int_any (dq (a * b) c / 18446744073709551616) (dq (a * b) c % 18446744073709551616) W (by omega) (by omega) (by omega) (by omega)
  rw [show dq (a * b) c / 18446744073709551616 * 18446744073709551616 + dq (a * b) c % 18446744073709551616 = dq (a * b) c from by omega] at hI
  by_cases h : -9223372036854775808 ≤ dq (a * b) c ∧ dq (a * b) c < 9223372036854775808
  · rw [if_pos h] at hI ⊢
    exact muldiv_walk a b c _ _ _ _ _ _ _ w hM hD hI
  · rw [if_neg h] at hI ⊢
    exact muldiv_walk a b c _ _ _ _ _ _ _ w hM hD hI
theorem muldiv_in (a b c q : Int) (w : World) (ha0 : -9223372036854775808 ≤ a) (ha1 : a ≤ 9223372036854775807) (hb0 : -9223372036854775808 ≤ b) (hb1 : b ≤ 9223372036854775807) (k0 : -9223372036854775808 ≤ c) (k1 : c ≤ 9223372036854775807) (hc : c ≠ 0) (hq : dq (a * b) c = q) (q0 : -9223372036854775808 ≤ q) (q1 : q < 9223372036854775808) :
    Calls Try.prog 58 #[.int .i64 a, .int .i64 b, .int .i64 c] w fun e w' => e = .returned (.tuple #[.int .i64 q, .int .i64 0]) ∧ Below w.heap.size w w' := by
  have := muldiv_any a b c w ha0 ha1 hb0 hb1 k0 k1 hc
  rw [hq, if_pos ⟨q0, q1⟩] at this; exact this
theorem dq_mul {a c : Int} (hc : c ≠ 0) : dq (a * c) c = a := by
  unfold dq
  split
  · exact Int.mul_ediv_cancel _ hc
  · rw [← Int.mul_neg]; exact Int.mul_ediv_cancel _ (by omega)


end Go.Proofs.Ythclhmdgfekaeaa
