/- The plain law of corners: numbers alone. No program in sight. -/
import Derived.Test.YthclhmdgfekaeaaWide5
namespace Go.Proofs.Ythclhmdgfekaeaa
theorem dq_pos {X c : Int} (h : 0 < c) : dq X c = X / c := by unfold dq; rw [if_pos h]
theorem div_between {X q lo hi : Int} (hq : 0 < q) (h0 : lo * q ≤ X) (h1 : X ≤ hi * q) : lo ≤ X / q ∧ X / q ≤ hi :=
  ⟨Int.le_ediv_of_mul_le hq h0, by
    have := Int.ediv_le_ediv hq h1
    rwa [Int.mul_ediv_cancel _ (by omega)] at this⟩
theorem crn_bounds {n q k : Int} (hq : 0 < q) (hk : 0 ≤ k) (h0 : -2 * q ≤ n) (h1 : n ≤ 4 * q) : -2 * k ≤ n * k / q ∧ n * k / q ≤ 4 * k := by
  refine div_between hq ?_ ?_
  · have := Int.mul_le_mul_of_nonneg_right h0 hk
    rw [show -2 * k * q = -2 * q * k by rw [Int.mul_assoc, Int.mul_comm k, ← Int.mul_assoc]]; exact this
  · have := Int.mul_le_mul_of_nonneg_right h1 hk
    rw [show 4 * k * q = 4 * q * k by rw [Int.mul_assoc, Int.mul_comm k, ← Int.mul_assoc]]; exact this
theorem z_bounds {z q : Int} (h0 : -8796093022208 < z) (h1 : z < 8796093022208) (hq : 4096 ≤ q) : -36028797018963968 ≤ z * 16777215 / q ∧ z * 16777215 / q ≤ 36028797018963968 :=
  div_between (by omega) (by omega) (by omega)
/-- The corner of a vertex. -/
def crX (x q W : Int) : Int := (x + q) * (8 * W) / q
def crY (y q H : Int) : Int := (q - y) * (8 * H) / q
def crZ (z q : Int) : Int := min (max (z * 16777215 / q) 0) 16777215
theorem mir {n m q k : Int} (hq : 0 < q) (h : n + m = 2 * q) : 0 ≤ 2 * k - n * k / q - m * k / q ∧ 2 * k - n * k / q - m * k / q ≤ 1 := by
  have e1 := Int.mul_ediv_add_emod (n * k) q
  have e2 := Int.mul_ediv_add_emod (m * k) q
  have a0 := Int.emod_nonneg (n * k) (show q ≠ 0 by omega)
  have a1 := Int.emod_lt_of_pos (n * k) hq
  have b0 := Int.emod_nonneg (m * k) (show q ≠ 0 by omega)
  have b1 := Int.emod_lt_of_pos (m * k) hq
  have e3 : n * k + m * k = 2 * q * k := by rw [← Int.add_mul, h]
  have e4 : q * (2 * k - n * k / q - m * k / q) = n * k % q + m * k % q := by
    rw [Int.mul_sub, Int.mul_sub, show q * (2 * k) = 2 * q * k by rw [← Int.mul_assoc, Int.mul_comm q 2]]
    omega
  generalize 2 * k - n * k / q - m * k / q = t at *
  constructor
  · rcases Int.lt_or_le t 0 with ht | ht
    · have := Int.mul_le_mul_of_nonneg_left (show t ≤ -1 by omega) (show 0 ≤ q by omega); omega
    · exact ht
  · rcases Int.lt_or_le 1 t with ht | ht
    · have := Int.mul_le_mul_of_nonneg_left (show 2 ≤ t by omega) (show 0 ≤ q by omega); omega
    · exact ht
theorem div_nonneg_iff {n k q : Int} (hq : 0 < q) (hk : 0 < k) : 0 ≤ n * k / q ↔ 0 ≤ n := by
  rw [Int.le_ediv_iff_mul_le hq, Int.zero_mul]
  constructor
  · intro h
    rcases Int.lt_or_le n 0 with hn | hn
    · have := Int.mul_neg_of_neg_of_pos hn hk; omega
    · exact hn
  · intro h; exact Int.mul_nonneg h (by omega)
theorem div_lt_iff {n k q : Int} (hq : 0 < q) (hk : 0 < k) : n * k / q < 2 * k ↔ n < 2 * q := by
  rw [Int.ediv_lt_iff_lt_mul hq, show 2 * k * q = 2 * q * k by rw [Int.mul_assoc, Int.mul_comm k, ← Int.mul_assoc]]
  constructor
  · intro h; exact Int.lt_of_mul_lt_mul_right h (by omega)
  · intro h; exact Int.mul_lt_mul_of_pos_right h hk
theorem crZ_bounds (z q : Int) : 0 ≤ crZ z q ∧ crZ z q ≤ 16777215 := by unfold crZ; omega
theorem crX_scale {x q W k : Int} (hk : 0 < k) : crX (x * k) (q * k) W = crX x q W := by
  unfold crX
  rw [← Int.add_mul, show (x + q) * k * (8 * W) = (x + q) * (8 * W) * k by rw [Int.mul_assoc, Int.mul_comm k, ← Int.mul_assoc]]
  exact Int.mul_ediv_mul_of_pos_left _ _ hk
theorem crY_scale {y q H k : Int} (hk : 0 < k) : crY (y * k) (q * k) H = crY y q H := by
  unfold crY
  rw [← Int.sub_mul, show (q - y) * k * (8 * H) = (q - y) * (8 * H) * k by rw [Int.mul_assoc, Int.mul_comm k, ← Int.mul_assoc]]
  exact Int.mul_ediv_mul_of_pos_left _ _ hk
theorem crZ_scale {z q k : Int} (hk : 0 < k) : crZ (z * k) (q * k) = crZ z q := by
  unfold crZ
  rw [show z * k * 16777215 = z * 16777215 * k by rw [Int.mul_assoc, Int.mul_comm k, ← Int.mul_assoc], Int.mul_ediv_mul_of_pos_left _ _ hk]
theorem crX_mono {x y q W : Int} (hq : 0 < q) (hW : 0 ≤ W) (h : x ≤ y) : crX x q W ≤ crX y q W :=
  Int.ediv_le_ediv hq (Int.mul_le_mul_of_nonneg_right (by omega) (by omega))
theorem crY_mono {x y q H : Int} (hq : 0 < q) (hH : 0 ≤ H) (h : x ≤ y) : crY y q H ≤ crY x q H :=
  Int.ediv_le_ediv hq (Int.mul_le_mul_of_nonneg_right (by omega) (by omega))
theorem crZ_mono {x y q : Int} (hq : 0 < q) (h : x ≤ y) : crZ x q ≤ crZ y q := by
  have := Int.ediv_le_ediv hq (show x * 16777215 ≤ y * 16777215 by omega)
  unfold crZ; omega
end Go.Proofs.Ythclhmdgfekaeaa
