/- ImageLays: whatever comes in. -/
import Derived.Test.YtflgamohploalaaHImX
namespace Go.Proofs.Ytflgamohploalaa
open Go.RowKit Go.ChangeShapes Go.WideShapes EV
set_option maxRecDepth 20000
abbrev Fg.wf (f : Fg) : Prop := (-9223372036854775808 ≤ f.x ∧ f.x ≤ 9223372036854775807) ∧ (-9223372036854775808 ≤ f.y ∧ f.y ≤ 9223372036854775807) ∧ f.p.wf
theorem fg_of_rows : ∀ {rows : List (List Value)}, (∀ s ∈ rows, Fit [.i .i64, .i .i64, .i .u32, .i .i64, .i .i64, .i .u32] s) → ∃ l : List Fg, l.length = rows.length ∧ rows.flatten = fgs l ∧ ∀ f ∈ l, f.wf
  | [], _ => ⟨[], rfl, rfl, fun x hx => by cases hx⟩
  | r :: rows, h => by
    obtain ⟨l, h1, h2, h3⟩ := fg_of_rows (rows := rows) (fun s hs => h s (by simp [hs]))
    obtain ⟨x, _, rfl, e0, e1, y, _, rfl, f0, f1, z, _, rfl, a0, a1, o, _, rfl, b0, b1, t, _, rfl, c0, c1, c, _, rfl, d0, d1, rfl⟩ := h r (by simp)
    refine ⟨⟨x, y, ⟨z, o, t, c⟩⟩ :: l, by simp [h1], by rw [List.flatten_cons, h2]; rfl, fun f hf => ?_⟩
    rcases List.mem_cons.1 hf with rfl | hf
    · exact ⟨rg_i64 ⟨e0, e1⟩, rg_i64 ⟨f0, f1⟩, rg_u32 ⟨a0, a1⟩, rg_i64 ⟨b0, b1⟩, rg_i64 ⟨c0, c1⟩, rg_u32 ⟨d0, d1⟩⟩
    · exact h3 f hf
theorem fgs_one (l : List Fg) : ∀ x ∈ fgs l, x.oneCell' = true := by
  intro x hx
  simp only [fgs, List.mem_flatMap] at hx
  obtain ⟨p, _, hx⟩ := hx
  simp only [Fg.vals, List.mem_cons, List.not_mem_nil, or_false] at hx
  rcases hx with rfl | rfl | rfl | rfl | rfl | rfl <;> rfl
end Go.Proofs.Ytflgamohploalaa
