/- Pixels that come in. -/
import Derived.Test.YtflgamohploalaaHRow5
import Derived.Test.YtflgamohploalaaHPx3
namespace Go.Proofs.Ytflgamohploalaa
open Go.RowKit Go.ChangeShapes Go.WideShapes EV
set_option maxRecDepth 20000
abbrev Px.wf (p : Px) : Prop := (0 ≤ p.z ∧ p.z < 4294967296) ∧ (-9223372036854775808 ≤ p.o ∧ p.o ≤ 9223372036854775807) ∧ (-9223372036854775808 ≤ p.t ∧ p.t ≤ 9223372036854775807) ∧ (0 ≤ p.c ∧ p.c < 4294967296)
theorem px_of_rows : ∀ {rows : List (List Value)}, (∀ s ∈ rows, Fit [.i .u32, .i .i64, .i .i64, .i .u32] s) → ∃ l : List Px, l.length = rows.length ∧ rows.flatten = pvs l ∧ ∀ p ∈ l, p.wf
  | [], _ => ⟨[], rfl, rfl, fun x hx => by cases hx⟩
  | r :: rows, h => by
    obtain ⟨l, h1, h2, h3⟩ := px_of_rows (rows := rows) (fun s hs => h s (by simp [hs]))
    obtain ⟨z, _, rfl, a0, a1, o, _, rfl, b0, b1, t, _, rfl, c0, c1, c, _, rfl, d0, d1, rfl⟩ := h r (by simp)
    refine ⟨⟨z, o, t, c⟩ :: l, by simp [h1], by rw [List.flatten_cons, h2]; rfl, fun x hx => ?_⟩
    rcases List.mem_cons.1 hx with rfl | hx
    · exact ⟨rg_u32 ⟨a0, a1⟩, rg_i64 ⟨b0, b1⟩, rg_i64 ⟨c0, c1⟩, rg_u32 ⟨d0, d1⟩⟩
    · exact h3 x hx
theorem pvs_one (l : List Px) : ∀ x ∈ pvs l, x.oneCell' = true := by
  intro x hx
  simp only [pvs, List.mem_flatMap] at hx
  obtain ⟨p, _, hx⟩ := hx
  simp only [Px.vals, List.mem_cons, List.not_mem_nil, or_false] at hx
  rcases hx with rfl | rfl | rfl | rfl <;> rfl
end Go.Proofs.Ytflgamohploalaa
