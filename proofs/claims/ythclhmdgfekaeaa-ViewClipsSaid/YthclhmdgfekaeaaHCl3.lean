/- Package clip: Cross; a crossing lies near its plane. -/
import Derived.Test.YthclhmdgfekaeaaHCl2
namespace Go.Proofs.Ythclhmdgfekaeaa
set_option linter.unusedSimpArgs false
set_option linter.unusedVariables false
open Go.RowKit EV
open SX (Wr Tv Qu Rm Sh Is conjP eqs_iff eqs_false)
open EW (PlL PlT PlV PlVs LfV Mm Bt Opn GV nums)
set_option maxRecDepth 20000
theorem cq_mul (D P C : Int) (hC : 0 < C) : ∃ r, cq D P C * C = D * P - r ∧ 0 ≤ r ∧ r < C :=
  ⟨D * P % C, by have := Int.mul_ediv_add_emod (D * P) C; unfold cq; rw [Int.mul_comm]; omega, Int.emod_nonneg _ (by omega), Int.emod_lt_of_pos _ hC⟩
abbrev I (n : Int) : Value := .int .i64 n
abbrev CRO (p : Int) (A B X : Value) : Prop := ∀ w : World, Calls Try.prog 57 #[I p, A, B] w fun x w' => x = .returned X ∧ Below w.heap.size w w'
end Go.Proofs.Ythclhmdgfekaeaa
