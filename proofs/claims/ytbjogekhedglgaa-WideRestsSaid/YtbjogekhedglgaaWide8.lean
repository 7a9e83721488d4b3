/- The law WideRests returns true at every input: a quotient times the divisor, and the rest, are the number again; nothing that was there is written. -/
import Derived.Test.YtbjogekhedglgaaWide7
namespace Go.Proofs.Ytbjogekhedglgaa
open Go.RowKit Go.Shelf

theorem rests_any (hi lo a c : Int) (w : World) (h0 : -9223372036854775808 ≤ hi) (h1 : hi ≤ 9223372036854775807) (h2 : 0 ≤ lo) (h3 : lo < 18446744073709551616) (ha0 : -9223372036854775808 ≤ a) (ha1 : a ≤ 9223372036854775807) (k0 : -9223372036854775808 ≤ c) (k1 : c ≤ 9223372036854775807) :
    Calls Try.prog 5 #[.agg #[.int .i64 hi, .int .u64 lo], .int .i64 a, .int .i64 c] w fun e w' => e = .returned (.bool true) ∧ Below w.heap.size w w' := by
  by_cases hc : c = 0
  · exact rests0 hi lo a c 0 0 0 0 0 0 0 0 w (by simpa using hc)
  · have hz : (c == 0) = false := by simpa using hc
    have hMD := fun W => muldiv_in a c c a W ha0 ha1 k0 k1 k0 k1 hc (dq_mul hc) ha0 (by omega)
    by_cases hno : hi * 18446744073709551616 + lo = -170141183460469231731687303715884105728 ∧ c = -1
    · obtain ⟨e1, rfl⟩ := hno
      exact rests_no hi lo a (-1) 0 0 0 0 0 0 0 0 w hz hMD (fun W => div_no hi lo W e1 h2 h3)
    · have hD := fun W => div_ok hi lo c W h0 h1 h2 h3 k0 k1 hc hno
      obtain ⟨X, hX⟩ : ∃ X, hi * 18446744073709551616 + lo = X := ⟨_, rfl⟩
      rw [hX] at hD hno
      obtain ⟨q0, q1⟩ := dq_bounds hc (show -170141183460469231731687303715884105728 ≤ X by omega) (by omega) hno
      have hI := fun W => int_any (dq X c / 18446744073709551616) (dq X c % 18446744073709551616) W (by omega) (by omega) (by omega) (by omega)
      rw [show dq X c / 18446744073709551616 * 18446744073709551616 + dq X c % 18446744073709551616 = dq X c from by omega] at hI
      have hsg : (0 < c ∧ 0 ≤ dr X c ∧ dr X c < c) ∨ (c < 0 ∧ c < dr X c ∧ dr X c ≤ 0) := by
        rcases Int.lt_or_lt_of_ne hc with h | h
        · have := dr_neg (X := X) h; exact .inr ⟨h, this.2, this.1⟩
        · have := dr_pos (X := X) h; exact .inl ⟨h, this.1, this.2⟩
      by_cases hin : -9223372036854775808 ≤ dq X c ∧ dq X c < 9223372036854775808
      · rw [if_pos hin] at hI
        obtain ⟨p0, p1⟩ := prod_bounds hin.1 (show dq X c ≤ 9223372036854775807 by omega) k0 k1
        have hMu := fun W => mul_any (dq X c) c W hin.1 (by omega) k0 k1
        have hO := fun W => of_any (dr X c) W (by omega) (by omega)
        have hs : dq X c * c / 18446744073709551616 * 18446744073709551616 + dq X c * c % 18446744073709551616 + (dr X c / 18446744073709551616 * 18446744073709551616 + dr X c % 18446744073709551616) = X := by
          have := dq_dr X c hc; omega
        have hA := fun W => add_ok (dq X c * c / 18446744073709551616) (dq X c * c % 18446744073709551616) (dr X c / 18446744073709551616) (dr X c % 18446744073709551616) W (by omega) (by omega) (by omega) (by omega) (by omega) (by omega) (by omega) (by omega) (by omega) (by omega)
        rw [hs, show X / 18446744073709551616 = hi from by omega, show X % 18446744073709551616 = lo from by omega] at hA
        exact rests_in hi lo a c _ _ _ _ _ _ _ _ w hz hsg hMD hD hI hMu hO hA
      · rw [if_neg hin] at hI
        exact rests_far hi lo a c _ _ _ 0 0 0 0 0 w hz hsg hMD hD hI
end Go.Proofs.Ytbjogekhedglgaa
