/- Helpers for a row: slices within records; a walk that begins with blocks that came in, and opens more of them. No function in sight. -/
import Derived.Test.YtnmkpekfkfckoaaHRow4
namespace Go.Proofs.Ytnmkpekfkfckoaa
set_option linter.unusedSimpArgs false
set_option linter.unusedVariables false
open Go.RowKit Go.ChangeShapes Go.WideShapes EV
/-- A slice that came in, whatever its address. -/
def InA (v : Value) (b off len room z : Nat) : Prop := (∃ cap, v = .slice (some ⟨b, off, none⟩) len cap ∧ len ≤ cap ∧ cap ≤ maxLen ∧ cap * z ≤ room) ∨ (len = 0 ∧ ∃ a, v = .slice a 0 0)
theorem InG.a {v : Value} {b off len room z : Nat} (h : InG v b off len room z) : InA v b off len room z := by
  rcases h with h | ⟨h1, h2⟩
  · exact .inl h
  · exact .inr ⟨h1, none, h2⟩
end Go.Proofs.Ytnmkpekfkfckoaa
