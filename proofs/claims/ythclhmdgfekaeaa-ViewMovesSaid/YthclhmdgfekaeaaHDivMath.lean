/- Plain arithmetic for a division of 128 bits by 64 (two digits of 32 bits, one behind the other). No program in sight. -/
import Derived.WalkKit
import Derived.Lib.BitFns
import Derived.Lib.ItoaNum
namespace Go.Proofs.Ythclhmdgfekaeaa
open Go.RowKit
theorem dig_bounds {U Y u1 : Int} (hU : 0 ≤ U) (hUY : U < Y) (h0 : 0 ≤ u1) (h1 : u1 < 4294967296) : 0 ≤ (U * 4294967296 + u1) / Y ∧ (U * 4294967296 + u1) / Y < 4294967296 :=
  ⟨Int.ediv_nonneg (by omega) (by omega), Int.ediv_lt_of_lt_mul (by omega) (by omega)⟩
theorem dig_init {U Y u1 y1 y0 : Int} (hY : Y = y1 * 4294967296 + y0) (ha : 0 ≤ y0) (hb : y0 < 4294967296) (hc : 2147483648 ≤ y1) (hU : 0 ≤ U) (hUY : U < Y) (h0 : 0 ≤ u1) (h1 : u1 < 4294967296) :
    (U * 4294967296 + u1) / Y ≤ U / y1 ∧ 0 ≤ U / y1 ∧ U / y1 ≤ 4294967297 ∧ 0 ≤ U / y1 * y1 ∧ U / y1 * y1 ≤ U ∧ U - U / y1 * y1 < y1 := by
  have hq := (dig_bounds hU hUY h0 h1).1
  have hdiv := Int.ediv_mul_le (U * 4294967296 + u1) (show Y ≠ 0 by omega)
  obtain ⟨Q, hQ⟩ : ∃ Q, (U * 4294967296 + u1) / Y = Q := ⟨_, rfl⟩
  rw [hQ] at hdiv hq ⊢
  have e1 : Q * Y = (Q * y1) * 4294967296 + Q * y0 := by rw [hY, Int.mul_add, Int.mul_assoc]
  have e2 : 0 ≤ Q * y0 := Int.mul_nonneg hq ha
  have e3 : Q * y1 ≤ U := by omega
  have e4 := Int.ediv_mul_le U (show y1 ≠ 0 by omega)
  have e5 := Int.lt_ediv_add_one_mul_self U (show 0 < y1 by omega)
  have e6 : 0 ≤ U / y1 := Int.ediv_nonneg hU (by omega)
  refine ⟨(Int.le_ediv_iff_mul_le (by omega)).2 e3, e6, ?_, Int.mul_nonneg e6 (by omega), e4, ?_⟩
  · have : U / y1 < 4294967298 := Int.ediv_lt_of_lt_mul (by omega) (by omega)
    omega
  · rw [Int.add_mul] at e5; omega
theorem dig_more {U Y u1 y1 y0 q r : Int} (hY : Y = y1 * 4294967296 + y0) (hY0 : 0 < Y) (hr : q * y1 + r = U) (h : 4294967296 * r + u1 < q * y0) : (U * 4294967296 + u1) / Y < q := by
  refine Int.ediv_lt_of_lt_mul hY0 ?_
  rw [show q * Y = (q * y1) * 4294967296 + q * y0 from by rw [hY, Int.mul_add, Int.mul_assoc]]
  omega
theorem dig_enough {U Y u1 y1 y0 q r : Int} (hY : Y = y1 * 4294967296 + y0) (hY0 : 0 < Y) (hr : q * y1 + r = U) (h : q * y0 ≤ 4294967296 * r + u1) : q ≤ (U * 4294967296 + u1) / Y := by
  refine (Int.le_ediv_iff_mul_le hY0).2 ?_
  rw [show q * Y = (q * y1) * 4294967296 + q * y0 from by rw [hY, Int.mul_add, Int.mul_assoc]]
  omega
theorem dig_far {U Y u1 y1 y0 q r : Int} (hY : Y = y1 * 4294967296 + y0) (hY0 : 0 < Y) (h0 : 0 ≤ u1) (ha : 0 ≤ y0) (hb : y0 < 4294967296) (hr : q * y1 + r = U) (hq0 : 0 ≤ q) (hq : q ≤ 4294967296) (h : 4294967296 ≤ r) : q ≤ (U * 4294967296 + u1) / Y := by
  refine dig_enough hY hY0 hr ?_
  have : q * y0 ≤ 4294967296 * y0 := Int.mul_le_mul_of_nonneg_right hq ha
  omega
theorem dig_prod {q y0 : Int} (ha : 0 ≤ y0) (hb : y0 < 4294967296) (hq0 : 0 ≤ q) (hq : q ≤ 4294967297) : 0 ≤ q * y0 ∧ q * y0 < 18446744073709551616 := by
  have h1 : q * y0 ≤ 4294967297 * y0 := Int.mul_le_mul_of_nonneg_right hq ha
  have h2 := Int.mul_nonneg hq0 ha
  exact ⟨h2, by omega⟩
theorem dig_step {q y1 r U : Int} (hr : q * y1 + r = U) : (q - 1) * y1 + (r + y1) = U := by rw [Int.sub_mul]; omega
/-- What is left behind a digit. -/
theorem dig_rest {U Y u1 : Int} (hU : 0 ≤ U) (hUY : U < Y) (h0 : 0 ≤ u1) (h1 : u1 < 4294967296) (hY : Y < 18446744073709551616) :
    IntKind.u64.wrap (IntKind.u64.wrap (IntKind.u64.wrap (U * 4294967296) + u1) - IntKind.u64.wrap ((U * 4294967296 + u1) / Y * Y)) = (U * 4294967296 + u1) % Y := by
  have h2 := Int.emod_nonneg (U * 4294967296 + u1) (show Y ≠ 0 by omega)
  have h3 := Int.emod_lt_of_pos (U * 4294967296 + u1) (show 0 < Y by omega)
  have h4 : (U * 4294967296 + u1) % Y = U * 4294967296 + u1 - (U * 4294967296 + u1) / Y * Y := by
    have := Int.mul_ediv_add_emod (U * 4294967296 + u1) Y
    rw [Int.mul_comm] at this; omega
  rw [h4] at h2 h3 ⊢
  generalize (U * 4294967296 + u1) / Y * Y = T at *
  simp only [IntKind.wrap_u64]
  omega
theorem u64_shift_or {hi lo : Int} {s : Nat} (hs : s < 64) (h0 : 0 ≤ hi) (h1 : hi * 2 ^ s < 18446744073709551616) (h2 : 0 ≤ lo) (h3 : lo < 18446744073709551616) :
    bits .or .u64 (IntKind.u64.wrap (hi * 2 ^ s)) (lo / 2 ^ (64 - s)) = hi * 2 ^ s + lo / 2 ^ (64 - s) := by
  obtain ⟨a, rfl⟩ := Int.eq_ofNat_of_zero_le h0
  obtain ⟨b, rfl⟩ := Int.eq_ofNat_of_zero_le h2
  have e1 : ((a : Int) * 2 ^ s) = ((a * 2 ^ s : Nat) : Int) := by push_cast; rfl
  have e2 : ((b : Int) / 2 ^ (64 - s)) = ((b / 2 ^ (64 - s) : Nat) : Int) := by push_cast; rfl
  have hlt : b / 2 ^ (64 - s) < 2 ^ s := by
    rw [Nat.div_lt_iff_lt_mul (Nat.two_pow_pos _), ← Nat.pow_add, show s + (64 - s) = 64 from by omega]; omega
  rw [e1] at h1 ⊢
  have hp : (2 : Nat) ^ s ≤ 2 ^ 64 := Nat.pow_le_pow_right (by omega) (by omega)
  rw [e2, IntKind.wrap_u64, Int.emod_eq_of_lt (by omega) h1, u64_or_nat _ _ (by omega) (by omega), nat_join s _ _ (by simp) hlt]
  push_cast; rfl
theorem u64_mask32 {x : Int} (h0 : 0 ≤ x) (h1 : x < 18446744073709551616) : bits .and .u64 x 4294967295 = x % 4294967296 := by
  obtain ⟨a, rfl⟩ := Int.eq_ofNat_of_zero_le h0
  rw [show (4294967295 : Int) = ((4294967295 : Nat) : Int) from rfl, u64_and_nat a _ (by omega) (by omega), show (4294967295 : Nat) = 2 ^ 32 - 1 from rfl, Nat.and_two_pow_sub_one_eq_mod]
  omega
theorem two_pow_split {s : Nat} (hs : s < 64) : (2 : Int) ^ (64 - s) * 2 ^ s = 18446744073709551616 := by
  rw [← Int.pow_add, show 64 - s + s = 64 from by omega]; rfl
/-- The whole number, shifted, in two words. -/
theorem shifted {hi lo : Int} {s : Nat} (hs : s < 64) :
    (hi * 18446744073709551616 + lo) * 2 ^ s = (hi * 2 ^ s + lo / 2 ^ (64 - s)) * 18446744073709551616 + IntKind.u64.wrap (lo * 2 ^ s) := by
  rw [IntKind.wrap_u64]
  have hp := two_pow_split hs
  have hpos : (0 : Int) < 2 ^ (64 - s) := Int.pow_pos (by omega)
  have hpos' : (0 : Int) < 2 ^ s := Int.pow_pos (by omega)
  obtain ⟨p, hp'⟩ : ∃ p, (2 : Int) ^ (64 - s) = p := ⟨_, rfl⟩
  obtain ⟨t, ht'⟩ : ∃ t, (2 : Int) ^ s = t := ⟨_, rfl⟩
  rw [hp'] at hp hpos ⊢
  rw [ht'] at hp hpos' ⊢
  have e := Int.mul_ediv_add_emod lo p
  -- lo t = (lo / p) 2^64 + (lo % p) t, and (lo % p) t < 2^64
  have e1 : lo * t = lo / p * 18446744073709551616 + lo % p * t := by
    rw [← hp, ← Int.mul_assoc, ← Int.add_mul, Int.mul_comm (lo / p) p, e]
  have e2 : 0 ≤ lo % p * t := Int.mul_nonneg (Int.emod_nonneg _ (by omega)) (by omega)
  have e3 : lo % p * t < 18446744073709551616 := by
    rw [← hp]; exact Int.mul_lt_mul_of_pos_right (Int.emod_lt_of_pos _ hpos) hpos'
  have e4 : lo * t % 18446744073709551616 = lo % p * t := by omega
  have e5 : (hi * 18446744073709551616 + lo) * t = hi * t * 18446744073709551616 + lo * t := by rw [Int.add_mul, Int.mul_assoc, Int.mul_comm 18446744073709551616 t, ← Int.mul_assoc]
  rw [e4, e5, Int.add_mul]; omega
/-- Quotient and rest of numbers that are both shifted. -/
theorem unshifted {A y : Int} {s : Nat} : A * 2 ^ s / (y * 2 ^ s) = A / y ∧ A * 2 ^ s % (y * 2 ^ s) / 2 ^ s = A % y := by
  have hpos : (0 : Int) < 2 ^ s := Int.pow_pos (by omega)
  refine ⟨Int.mul_ediv_mul_of_pos_left A y hpos, ?_⟩
  rw [Int.mul_comm A, Int.mul_comm y, Int.mul_emod_mul_of_pos _ _ hpos, Int.mul_comm, Int.mul_ediv_cancel _ (by omega)]
/-- Two digits are the quotient of both. -/
theorem two_digits {U Y u1 u0 : Int} (hY : 0 < Y) (h0 : 0 ≤ u0) (h1 : u0 < 4294967296) (hU : 0 ≤ U) (hUY : U < Y) (h2 : 0 ≤ u1) (h3 : u1 < 4294967296) :
    (U * 4294967296 + u1) / Y * 4294967296 + ((U * 4294967296 + u1) % Y * 4294967296 + u0) / Y = (U * 18446744073709551616 + (u1 * 4294967296 + u0)) / Y ∧
    ((U * 4294967296 + u1) % Y * 4294967296 + u0) % Y = (U * 18446744073709551616 + (u1 * 4294967296 + u0)) % Y := by
  obtain ⟨A, hA⟩ : ∃ A, U * 4294967296 + u1 = A := ⟨_, rfl⟩
  have e := Int.mul_ediv_add_emod A Y
  have e1 : U * 18446744073709551616 + (u1 * 4294967296 + u0) = A % Y * 4294967296 + u0 + A / Y * 4294967296 * Y := by
    have : A / Y * 4294967296 * Y = (Y * (A / Y)) * 4294967296 := by rw [Int.mul_comm Y, Int.mul_assoc, Int.mul_assoc, Int.mul_comm 4294967296 Y]
    omega
  rw [hA, e1, Int.add_mul_ediv_right _ _ (by omega), Int.add_mul_emod_self_right]
  exact ⟨by omega, rfl⟩
/-- The shift that brings a divisor's highest bit to the top. -/
theorem top_shift {y : Int} (h0 : 0 < y) (h1 : y < 18446744073709551616) : ∃ s : Nat, (64 - (Lib.bitLen y.toNat : Int)) = (s : Int) ∧ s < 64 ∧ 9223372036854775808 ≤ y * 2 ^ s ∧ y * 2 ^ s < 18446744073709551616 := by
  obtain ⟨n, rfl⟩ := Int.eq_ofNat_of_zero_le (show 0 ≤ y by omega)
  rw [Int.toNat_natCast]
  have hb := Lib.bitLenAux_bounds 64 n (by omega) (by omega)
  have hle : Lib.bitLen n ≤ 64 := Lib.bitLen_le n 64 (by omega) (by omega)
  change 1 ≤ Lib.bitLen n ∧ 2 ^ (Lib.bitLen n - 1) ≤ n ∧ n < 2 ^ Lib.bitLen n at hb
  generalize Lib.bitLen n = k at hb hle
  refine ⟨64 - k, by omega, by omega, ?_, ?_⟩
  · have : 2 ^ (k - 1) * 2 ^ (64 - k) ≤ n * 2 ^ (64 - k) := Nat.mul_le_mul_right _ hb.2.1
    rw [← Nat.pow_add, show k - 1 + (64 - k) = 63 from by omega] at this
    have h2 : ((n * 2 ^ (64 - k) : Nat) : Int) = (n : Int) * 2 ^ (64 - k) := by push_cast; rfl
    rw [← h2]; omega
  · have : n * 2 ^ (64 - k) < 2 ^ k * 2 ^ (64 - k) := Nat.mul_lt_mul_of_pos_right hb.2.2 (Nat.two_pow_pos _)
    rw [← Nat.pow_add, show k + (64 - k) = 64 from by omega] at this
    have h2 : ((n * 2 ^ (64 - k) : Nat) : Int) = (n : Int) * 2 ^ (64 - k) := by push_cast; rfl
    rw [← h2]; omega
end Go.Proofs.Ythclhmdgfekaeaa
