/- Numbers of up to 320 bits as lists of digits of 16 bits: what is read, put, compared. No program in sight. The document's numbers: of 64 bits, sums, differences, which is less. The document's numbers: sums, the other sign, products, powers of 2, which is less, quotients. The document's numbers: which is less, of api.Wide, as api.Wide. The document's numbers: quotients. -/
import Derived.Test.YthclhmdgfekaeaaHZE
import Derived.Test.YthclhmdgfekaeaaRows
namespace Go.Proofs.Ythclhmdgfekaeaa
set_option linter.unusedSimpArgs false
set_option linter.unusedVariables false
open Go.RowKit EV
open SX (Wr Tv Qu Rm Sh Is conjP eqs_iff eqs_false)
open EW (PlL PlT PlV PlVs LfV Mm Bt Opn GV)
set_option maxRecDepth 20000
def up (m i : Nat) : Nat := m / 65536 ^ i
end Go.Proofs.Ythclhmdgfekaeaa
namespace Go.Proofs.Ythclhmdgfekaeaa
set_option linter.unusedSimpArgs false
set_option linter.unusedVariables false
open Go.RowKit EV
open SX (Wr Tv Qu Rm Sh Is conjP eqs_iff eqs_false)
open EW (PlL PlT PlV PlVs LfV Mm Bt Opn GV)
set_option maxRecDepth 20000
/-- Numbers of 64 bits. -/
def Ok64 (l : List Int) : Prop := ∀ i, -9223372036854775808 ≤ l.getD i 0 ∧ l.getD i 0 ≤ 9223372036854775807
/-- A number of 128 bits. -/
abbrev W2 (z : Int) : Value := .agg #[.int .i64 (z / 18446744073709551616), .int .u64 (z % 18446744073709551616)]
end Go.Proofs.Ythclhmdgfekaeaa
namespace Go.Proofs.Ythclhmdgfekaeaa
set_option linter.unusedSimpArgs false
set_option linter.unusedVariables false
open Go.RowKit EV
open SX (Wr Tv Qu Rm Sh Is conjP eqs_iff eqs_false)
open EW (PlL PlT PlV PlVs LfV Mm Bt Opn GV)
set_option maxRecDepth 20000
theorem fdiv_cases {x c z : Int} (hc : c ≠ 0) (hz : x.fdiv c = z) : (¬ decide (x < 0) = decide (c < 0) → ¬ x.natAbs % c.natAbs = 0 → z = -(((x.natAbs / c.natAbs : Nat) : Int) + 1)) ∧ (¬ decide (x < 0) = decide (c < 0) → x.natAbs % c.natAbs = 0 → z = -((x.natAbs / c.natAbs : Nat) : Int)) ∧ (decide (x < 0) = decide (c < 0) → z = ((x.natAbs / c.natAbs : Nat) : Int)) := by
  subst hz
  have hd : 0 < c.natAbs := by omega
  have key : ∀ z : Int, (0 ≤ x - z * c ∧ x - z * c < c) ∨ (c < x - z * c ∧ x - z * c ≤ 0) → x.fdiv c = z := fun z h => by
    have e1 := Int.fdiv_mul_add_fmod x c
    have h2 : x.fmod c = x - x.fdiv c * c := by omega
    have : (0 ≤ x.fmod c ∧ x.fmod c < c) ∨ (c < x.fmod c ∧ x.fmod c ≤ 0) := by
      rcases Int.lt_or_gt_of_ne hc with h0 | h0
      · right
        have h3 := Int.fmod_nonneg_of_pos (-x) (show 0 < -c by omega)
        have h4 := Int.fmod_lt_of_pos (-x) (show 0 < -c by omega)
        rw [Int.neg_fmod_neg] at h3 h4; omega
      · left; exact ⟨Int.fmod_nonneg_of_pos x h0, Int.fmod_lt_of_pos x h0⟩
    rw [h2] at this
    generalize x.fdiv c = y at *
    -- (z - y) * c is between -|c| and |c|
    have e : (z - y) * c = (x - y * c) - (x - z * c) := by rw [Int.sub_mul]; omega
    generalize x - y * c = u at *
    generalize x - z * c = v at *
    rcases Int.lt_trichotomy (z - y) 0 with h5 | h5 | h5
    · rcases Int.lt_or_gt_of_ne hc with h0 | h0
      · have := Int.mul_le_mul_of_nonpos_right (show z - y ≤ -1 by omega) (show c ≤ 0 by omega); omega
      · have := Int.mul_le_mul_of_nonneg_right (show z - y ≤ -1 by omega) (show 0 ≤ c by omega); omega
    · omega
    · rcases Int.lt_or_gt_of_ne hc with h0 | h0
      · have := Int.mul_le_mul_of_nonpos_right (show 1 ≤ z - y by omega) (show c ≤ 0 by omega); omega
      · have := Int.mul_le_mul_of_nonneg_right (show 1 ≤ z - y by omega) (show 0 ≤ c by omega); omega
  have hm := Nat.mod_add_div x.natAbs c.natAbs
  have hl := Nat.mod_lt x.natAbs hd
  have hm2 : ((x.natAbs % c.natAbs : Nat) : Int) + (c.natAbs : Int) * ((x.natAbs / c.natAbs : Nat) : Int) = (x.natAbs : Int) := by rw [← Int.natCast_mul, ← Int.natCast_add, hm]
  generalize x.natAbs / c.natAbs = q at *
  generalize x.natAbs % c.natAbs = r at *
  rw [Int.mul_comm] at hm2
  refine ⟨fun h hr => key _ ?_, fun h hr => key _ ?_, fun h => key _ ?_⟩ <;> rw [decide_eq_decide] at h <;> rcases Int.lt_or_gt_of_ne hc with h0 | h0
  all_goals first | rw [show (c.natAbs : Int) = -c from by omega, Int.mul_neg] at hm2 | rw [show (c.natAbs : Int) = c from by omega] at hm2
  all_goals (try simp only [Int.neg_mul, Int.add_mul, Int.one_mul])
  all_goals generalize (q : Int) * c = p at *
  all_goals omega
end Go.Proofs.Ythclhmdgfekaeaa
