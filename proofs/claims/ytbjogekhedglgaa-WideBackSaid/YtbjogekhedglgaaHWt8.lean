/- WideTexts: what comes in. -/
import Derived.Test.YtbjogekhedglgaaHWt7
import Derived.Test.YtbjogekhedglgaaHZR
namespace Go.Proofs.Ytbjogekhedglgaa
set_option linter.unusedSimpArgs false
set_option linter.unusedVariables false
open Go.RowKit EV
open EW (PlL PlT PlV PlVs nums)
set_option maxRecDepth 20000
theorem nums_one (k : IntKind) (l : List Int) : ∀ x ∈ nums k l, x.oneCell' = true := by
  intro x hx
  simp only [nums, List.mem_map] at hx
  obtain ⟨y, _, rfl⟩ := hx
  rfl
def byt (b : ByteArray) : List Int := b.data.toList.map fun u => (u.toNat : Int)
theorem byt_by (b : ByteArray) : By (byt b) := fun x hx => by
  simp only [byt, List.mem_map] at hx
  obtain ⟨u, _, rfl⟩ := hx
  have := u.toNat_lt
  omega
theorem byt_U (b : ByteArray) : U (byt b) = b.data.toList := by
  simp only [U, byt, List.map_map]
  conv => rhs; rw [← List.map_id b.data.toList]
  refine List.map_congr_left fun u _ => ?_
  simp
theorem byt_str (b : ByteArray) : Value.string b = tS (U (byt b)) := by
  rw [byt_U, tS]
end Go.Proofs.Ytbjogekhedglgaa
