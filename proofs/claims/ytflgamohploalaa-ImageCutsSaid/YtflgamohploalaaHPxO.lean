/- The order of pixels: plain laws. -/
import Derived.Test.YtflgamohploalaaHPx3
namespace Go.Proofs.Ytflgamohploalaa
theorem Px.rcmp_eq (a b : Px) : a.cmp b = a.rcmp b := by
  obtain ⟨z, o, t, c⟩ := a
  obtain ⟨z', o', t', c'⟩ := b
  simp only [Px.cmp, Px.rcmp, Px.ahead, or4, cmpI]
  repeat' split
  all_goals first | rfl | omega
theorem Px.cmp_lt (a b : Px) : a.cmp b < 0 ↔ a.ahead b := by
  rw [Px.rcmp_eq, Px.rcmp]
  by_cases h : a.ahead b
  · simp [h]
  · simp only [h, if_false, iff_false]; split <;> omega
theorem Px.near_eq (a b : Px) : a.near b = if b.ahead a then b else a := by
  unfold Px.near
  by_cases h : b.ahead a
  · rw [if_pos ((Px.cmp_lt _ _).2 h), if_pos h]
  · rw [if_neg (fun h' => h ((Px.cmp_lt _ _).1 h')), if_neg h]
theorem Px.near_mem (a b : Px) : a.near b = a ∨ a.near b = b := by
  rw [Px.near_eq]; split <;> simp
end Go.Proofs.Ytflgamohploalaa
