/- Bytes that come in. -/
import Derived.Test.YtflgamohploalaaHPkA
import Derived.Test.YtflgamohploalaaHRow4
namespace Go.Proofs.Ytflgamohploalaa
set_option linter.unusedSimpArgs false
set_option linter.unusedVariables false
open Go.RowKit EV
open EW (PlL PlT PlV PlVs nums)
theorem bytes_of_rows : ∀ {rows : List (List Value)}, (∀ s ∈ rows, Fit [.i .u8] s) → ∃ l : List Int, l.length = rows.length ∧ rows.flatten = nums .u8 l ∧ By l
  | [], _ => ⟨[], rfl, rfl, fun x hx => by cases hx⟩
  | r :: rows, h => by
    obtain ⟨l, h1, h2, h3⟩ := bytes_of_rows (rows := rows) (fun s hs => h s (by simp [hs]))
    obtain ⟨z, _, rfl, z0, z1, rfl⟩ := h r (by simp)
    refine ⟨z :: l, by simp [h1], by rw [List.flatten_cons, h2]; rfl, fun x hx => ?_⟩
    rcases List.mem_cons.1 hx with rfl | hx
    · exact rg_u8 ⟨z0, z1⟩
    · exact h3 x hx
theorem nums_one (k : IntKind) (l : List Int) : ∀ x ∈ nums k l, x.oneCell' = true := by
  intro x hx
  simp only [nums, List.mem_map] at hx
  obtain ⟨y, _, rfl⟩ := hx
  rfl
end Go.Proofs.Ytflgamohploalaa
