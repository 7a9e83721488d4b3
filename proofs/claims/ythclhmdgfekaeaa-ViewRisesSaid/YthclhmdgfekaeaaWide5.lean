/- Package wide: Div. -/
import Derived.Test.YthclhmdgfekaeaaWide4
namespace Go.Proofs.Ythclhmdgfekaeaa
open Go.RowKit Go.Shelf

/-- The quotient, rounded down, and the rest. -/
def dq (X c : Int) : Int := if 0 < c then X / c else (-X) / (-c)
def dr (X c : Int) : Int := if 0 < c then X % c else -((-X) % (-c))
theorem dq_dr (X c : Int) (hc : c ≠ 0) : dq X c * c + dr X c = X := by
  unfold dq dr
  split
  · have := Int.mul_ediv_add_emod X c; rw [Int.mul_comm] at this; exact this
  · have := Int.mul_ediv_add_emod (-X) (-c)
    rw [Int.mul_comm, Int.mul_neg] at this; omega
theorem dr_pos {X c : Int} (hc : 0 < c) : 0 ≤ dr X c ∧ dr X c < c := by
  unfold dr; rw [if_pos hc]; exact ⟨Int.emod_nonneg _ (by omega), Int.emod_lt_of_pos _ hc⟩
theorem dr_neg {X c : Int} (hc : c < 0) : dr X c ≤ 0 ∧ c < dr X c := by
  unfold dr; rw [if_neg (by omega)]
  have h1 := Int.emod_nonneg (-X) (show -c ≠ 0 by omega)
  have h2 := Int.emod_lt_of_pos (-X) (show 0 < -c by omega)
  omega
theorem neg_div1 {A C : Int} (hC : 0 < C) (h : 0 < A % C) : (-A) / C = -(A / C) - 1 ∧ (-A) % C = C - A % C := by
  have h1 := Int.mul_ediv_add_emod A C
  have h2 := Int.emod_lt_of_pos A hC
  have h3 : C * (-(A / C) - 1) = -(C * (A / C)) - C := by rw [Int.mul_sub, Int.mul_neg, Int.mul_one]
  exact (Int.ediv_emod_unique hC).2 ⟨by rw [h3]; omega, by omega, by omega⟩
theorem neg_div0 {A C : Int} (hC : 0 < C) (h : ¬ 0 < A % C) : (-A) / C = -(A / C) ∧ (-A) % C = 0 := by
  have h1 := Int.mul_ediv_add_emod A C
  have h2 := Int.emod_nonneg A (show C ≠ 0 by omega)
  have h3 : C * (-(A / C)) = -(C * (A / C)) := by rw [Int.mul_neg]
  exact (Int.ediv_emod_unique hC).2 ⟨by rw [h3]; omega, by omega, by omega⟩
theorem w128_join (z : Int) : w128 z / 18446744073709551616 * 18446744073709551616 + w128 z % 18446744073709551616 = w128 z := by omega
theorem w128_neg {Q : Int} (h0 : 0 ≤ Q) (h1 : Q ≤ 170141183460469231731687303715884105728) : w128 (-w128 Q) = -Q := by unfold w128; omega
/-- A quotient of which a rest is left is not great. -/
theorem quot_half {A C : Int} (hA : A ≤ 170141183460469231731687303715884105728) (hA0 : 0 ≤ A) (hC : 0 < C) (h : 0 < A % C) : A / C ≤ 85070591730234615865843651857942052864 := by
  have h2 := Int.emod_lt_of_pos A hC
  have h1 := Int.mul_ediv_add_emod A C
  have h3 : 2 * (A / C) ≤ C * (A / C) := Int.mul_le_mul_of_nonneg_right (by omega) (Int.ediv_nonneg hA0 (by omega))
  omega

section
variable (hi lo c : Int) (w : World) (h0 : -9223372036854775808 ≤ hi) (h1 : hi ≤ 9223372036854775807) (h2 : 0 ≤ lo) (h3 : lo < 18446744073709551616) (k0 : -9223372036854775808 ≤ c) (k1 : c ≤ 9223372036854775807)
include h0 h1 h2 h3 k0 k1

theorem div_ok (hc0 : c ≠ 0) (hno : ¬ (hi * 18446744073709551616 + lo = -170141183460469231731687303715884105728 ∧ c = -1)) :
    Calls Try.prog 71 #[.agg #[.int .i64 hi, .int .u64 lo], .int .i64 c] w fun e w' => e = .returned (.tuple #[.agg #[.int .i64 (dq (hi * 18446744073709551616 + lo) c / 18446744073709551616), .int .u64 (dq (hi * 18446744073709551616 + lo) c % 18446744073709551616)], .int .i64 (dr (hi * 18446744073709551616 + lo) c), .int .i64 0]) ∧ Below w.heap.size w w' := by
  obtain ⟨C, hC⟩ : ∃ C, (if c < 0 then -c else c) = C := ⟨_, rfl⟩
  have hS : ∀ W, Calls Try.prog 81 #[.int .i64 c] W fun e w' => e = .returned (.int .u64 C) ∧ w' = W := fun W => by rw [← hC]; exact size_any c W k0 k1
  have hC0 : 0 < C := by rw [← hC]; split <;> omega
  have hC1 : C ≤ 9223372036854775808 := by rw [← hC]; split <;> omega
  have hz : (c == 0) = false := by simpa using hc0
  -- what does not hang on the signs: the size A, its quotient Q and its rest R
  have key : ∀ ah al A : Int, -9223372036854775808 ≤ ah → ah ≤ 9223372036854775807 → 0 ≤ al → al < 18446744073709551616 → ah % 18446744073709551616 * 18446744073709551616 + al = A → 0 ≤ A → A ≤ 170141183460469231731687303715884105728 →
      (∀ W, Calls Try.prog 80 #[.agg #[.int .i64 ah, .int .u64 al], .int .u64 C] W fun e w' => e = .returned (.tuple #[.agg #[.int .i64 (w128 (A / C) / 18446744073709551616), .int .u64 (w128 (A / C) % 18446744073709551616)], .int .u64 (A % C)]) ∧ Below W.heap.size W w') ∧
      (∀ W, Calls Try.prog 79 #[.agg #[.int .i64 (w128 (A / C) / 18446744073709551616), .int .u64 (w128 (A / C) % 18446744073709551616)]] W fun e w' => e = .returned (.agg #[.int .i64 (-(A / C) / 18446744073709551616), .int .u64 (-(A / C) % 18446744073709551616)]) ∧ Below W.heap.size W w') ∧
      (0 < A % C → ∀ W, Calls Try.prog 82 #[.agg #[.int .i64 (-(A / C) / 18446744073709551616), .int .u64 (-(A / C) % 18446744073709551616)], .agg #[.int .i64 (-1), .int .u64 18446744073709551615]] W fun e w' => e = .returned (.agg #[.int .i64 ((-(A / C) - 1) / 18446744073709551616), .int .u64 ((-(A / C) - 1) % 18446744073709551616)]) ∧ Below W.heap.size W w') ∧
      0 ≤ A % C ∧ A % C < C ∧ 0 ≤ A / C ∧ A / C ≤ A := by
    intro ah al A a0 a1 a2 a3 hA hA0 hA1
    have m0 := Int.emod_nonneg A (show C ≠ 0 by omega)
    have m1 := Int.emod_lt_of_pos A hC0
    have q0 := Int.ediv_nonneg hA0 (show 0 ≤ C by omega)
    have q1 := Int.ediv_le_self C hA0
    refine ⟨fun W => ?_, fun W => ?_, fun hr W => ?_, m0, m1, q0, q1⟩
    · have := parts_any ah al C W a0 a1 a2 a3 hC0 (by omega)
      rw [hA] at this; exact this
    · have b := w128_bounds (A / C)
      have := turned_any (w128 (A / C) / 18446744073709551616) (w128 (A / C) % 18446744073709551616) W (by omega) (by omega) (by omega) (by omega)
      rw [w128_join, w128_neg q0 (by omega)] at this; exact this
    · have b := quot_half hA1 hA0 hC0 hr
      have := plus_any (-(A / C) / 18446744073709551616) (-(A / C) % 18446744073709551616) (-1) 18446744073709551615 W (by omega) (by omega) (by omega) (by omega) (by omega) (by omega) (by omega) (by omega)
      rw [show -(A / C) / 18446744073709551616 * 18446744073709551616 + -(A / C) % 18446744073709551616 + (-1 * 18446744073709551616 + 18446744073709551615) = -(A / C) - 1 from by omega, w128_in (by omega) (by omega)] at this
      exact this
  have hO : ∀ W, Calls Try.prog 83 #[.int .i64 (-1)] W fun e w' => e = .returned (.agg #[.int .i64 (-1), .int .u64 18446744073709551615]) ∧ Below W.heap.size W w' := fun W => of_any (-1) W (by omega) (by omega)
  obtain ⟨X, hX⟩ : ∃ X, hi * 18446744073709551616 + lo = X := ⟨_, rfl⟩
  have hT1 : ∀ W, Calls Try.prog 79 #[.agg #[.int .i64 hi, .int .u64 lo]] W fun e w' => e = .returned (.agg #[.int .i64 (w128 (-X) / 18446744073709551616), .int .u64 (w128 (-X) % 18446744073709551616)]) ∧ Below W.heap.size W w' := fun W => by
    rw [← hX]; exact turned_any hi lo W h0 h1 h2 h3
  rw [hX] at hno ⊢
  by_cases ha : hi < 0
  · have bX := w128_bounds (-X)
    obtain ⟨hP, hT2, hPl, m0, m1, q0, q1⟩ := key (w128 (-X) / 18446744073709551616) (w128 (-X) % 18446744073709551616) (-X) (by omega) (by omega) (by omega) (by omega) (by unfold w128; omega) (by omega) (by omega)
    by_cases hc : c < 0
    · obtain rfl : C = -c := by rw [← hC, if_pos hc]
      have hq : ¬ w128 (-X / -c) / 18446744073709551616 < 0 := by
        have : -X / -c ≤ -X := q1
        have : -X / -c < 170141183460469231731687303715884105728 := by
          by_cases e1 : X = -170141183460469231731687303715884105728
          · refine Int.ediv_lt_of_lt_mul (by omega) ?_; omega
          · omega
        rw [w128_in (by omega) (by omega)]; omega
      have hq2 := w128_in (z := -X / -c) (by omega) (by unfold w128 at hq; omega)
      refine (div_mm0 hi lo c _ _ _ _ _ _ 0 0 0 0 0 0 0 (IntKind.u64.wrap (-(-X % -c))) (-(-X % -c)) w hT1 hS hP (by simpa using hq) (by simpa using ha) (by simpa using hc) hz rfl (by simp only [IntKind.wrap_u64, IntKind.wrap_i64]; omega)).mono ?_
      rintro e w' ⟨rfl, hb⟩
      exact ⟨by unfold dq dr; rw [if_neg (by omega), if_neg (by omega), hq2], hb⟩
    · obtain rfl : C = c := by rw [← hC, if_neg hc]
      by_cases hr : 0 < -X % C
      · obtain ⟨e1, e2⟩ := neg_div1 hC0 hr
        rw [Int.neg_neg] at e1 e2
        refine (div_mp1 hi lo C _ _ _ _ _ _ _ _ _ _ _ _ (C - -X % C) 0 (C - -X % C) w hT1 hS hP hT2 hO (hPl hr) (by simp only [IntKind.wrap_u64]; omega) (by simpa using hr) (by simpa using ha) (by simpa using hc) hz (by simp only [IntKind.wrap_i64]; omega)).mono ?_
        rintro e w' ⟨rfl, hb⟩
        exact ⟨by unfold dq dr; rw [if_pos hC0, if_pos hC0, e1, e2], hb⟩
      · obtain ⟨e1, e2⟩ := neg_div0 hC0 hr
        rw [Int.neg_neg] at e1 e2
        refine (div_mp0 hi lo C _ _ _ _ _ _ _ _ 0 0 0 0 0 0 0 w hT1 hS hP hT2 (by simpa using hr) (by simpa using ha) (by simpa using hc) hz (by simp only [IntKind.wrap_i64]; omega)).mono ?_
        rintro e w' ⟨rfl, hb⟩
        exact ⟨by unfold dq dr; rw [if_pos hC0, if_pos hC0, e1, e2], hb⟩
  · obtain ⟨hP, hT2, hPl, m0, m1, q0, q1⟩ := key hi lo X h0 h1 h2 h3 (by omega) (by omega) (by omega)
    by_cases hc : c < 0
    · obtain rfl : C = -c := by rw [← hC, if_pos hc]
      by_cases hr : 0 < X % -c
      · obtain ⟨e1, e2⟩ := neg_div1 hC0 hr
        refine (div_pm1 hi lo c 0 0 _ _ _ _ _ _ _ _ _ _ (-c - X % -c) (IntKind.u64.wrap (-(-c - X % -c))) (-(-c - X % -c)) w hS hP hT2 hO (hPl hr) (by simp only [IntKind.wrap_u64]; omega) (by simpa using hr) (by simpa using ha) (by simpa using hc) hz rfl (by simp only [IntKind.wrap_u64, IntKind.wrap_i64]; omega)).mono ?_
        rintro e w' ⟨rfl, hb⟩
        exact ⟨by unfold dq dr; rw [if_neg (by omega), if_neg (by omega), e1, e2], hb⟩
      · obtain ⟨e1, e2⟩ := neg_div0 hC0 hr
        refine (div_pm0 hi lo c 0 0 _ _ _ _ _ _ 0 0 0 0 0 (IntKind.u64.wrap (-(X % -c))) 0 w hS hP hT2 (by simpa using hr) (by simpa using ha) (by simpa using hc) hz rfl (by simp only [IntKind.wrap_u64, IntKind.wrap_i64]; omega)).mono ?_
        rintro e w' ⟨rfl, hb⟩
        exact ⟨by unfold dq dr; rw [if_neg (by omega), if_neg (by omega), e1, e2]; rfl, hb⟩
    · obtain rfl : C = c := by rw [← hC, if_neg hc]
      have hq : ¬ w128 (X / C) / 18446744073709551616 < 0 := by
        rw [w128_in (by omega) (by omega)]; omega
      have hq2 := w128_in (z := X / C) (by omega) (by omega)
      refine (div_pp0 hi lo C 0 0 _ _ _ _ 0 0 0 0 0 0 0 0 (X % C) w hS hP (by simpa using hq) (by simpa using ha) (by simpa using hc) hz (by simp only [IntKind.wrap_i64]; omega)).mono ?_
      rintro e w' ⟨rfl, hb⟩
      exact ⟨by unfold dq dr; rw [if_pos hC0, if_pos hC0, hq2], hb⟩

omit h0 h1 h2 h3 k0 k1 in
theorem div_no (hx : hi * 18446744073709551616 + lo = -170141183460469231731687303715884105728) (h2 : 0 ≤ lo) (h3 : lo < 18446744073709551616) :
    Calls Try.prog 71 #[.agg #[.int .i64 hi, .int .u64 lo], .int .i64 (-1)] w fun e w' => e = .returned (.tuple #[.agg #[.int .i64 0, .int .u64 0], .int .i64 0, .int .i64 20]) ∧ Below w.heap.size w w' := by
  obtain rfl : hi = -9223372036854775808 := by omega
  obtain rfl : lo = 0 := by omega
  have hT1 := fun W => turned_any (-9223372036854775808) 0 W (by omega) (by omega) (by omega) (by omega)
  have hS := fun W => size_any (-1) W (by omega) (by omega)
  have e1 : w128 ((-9223372036854775808 % 18446744073709551616 * 18446744073709551616 + 0) / 1) / 18446744073709551616 = -9223372036854775808 := by decide
  have e2 : w128 ((-9223372036854775808 % 18446744073709551616 * 18446744073709551616 + 0) / 1) % 18446744073709551616 = 0 := by decide
  have e3 : (-9223372036854775808 % 18446744073709551616 * 18446744073709551616 + 0) % 1 = (0 : Int) := by decide
  have hP : ∀ W, Calls Try.prog 80 #[.agg #[.int .i64 (-9223372036854775808), .int .u64 0], .int .u64 1] W fun e w' => e = .returned (.tuple #[.agg #[.int .i64 (-9223372036854775808), .int .u64 0], .int .u64 0]) ∧ Below W.heap.size W w' := fun W => by
    have := parts_any (-9223372036854775808) 0 1 W (by omega) (by omega) (by omega) (by omega) (by omega) (by omega)
    rw [e1, e2, e3] at this; exact this
  exact div_mm1 (-9223372036854775808) 0 (-1) (-9223372036854775808) 0 1 (-9223372036854775808) 0 0 0 0 0 0 0 0 0 0 0 w hT1 hS hP (by decide) (by decide) (by decide) (by decide)
end
end Go.Proofs.Ythclhmdgfekaeaa
