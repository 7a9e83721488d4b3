/- The order of pixels: plain laws. -/
import Derived.Test.YtflgamohploalaaHPx3
namespace Go.Proofs.Ytflgamohploalaa
theorem Px.rcmp_eq (a b : Px) : a.cmp b = a.rcmp b := by
  obtain ⟨z, o, t, c⟩ := a
  obtain ⟨z', o', t', c'⟩ := b
  simp only [Px.cmp, Px.rcmp, Px.ahead, or4, cmpI]
  repeat' split
  all_goals first | rfl | omega
theorem Px.ahead_irrefl (a : Px) : ¬ a.ahead a := by unfold Px.ahead; omega
theorem Px.ahead_asymm {a b : Px} (h : a.ahead b) : ¬ b.ahead a := by unfold Px.ahead at *; omega
theorem Px.ahead_total {a b : Px} (h : ¬ a.ahead b) (h' : ¬ b.ahead a) : a = b := by
  refine Px.ext4 ?_
  unfold Px.ahead at *; omega
theorem Px.cmp_lt (a b : Px) : a.cmp b < 0 ↔ a.ahead b := by
  rw [Px.rcmp_eq, Px.rcmp]
  by_cases h : a.ahead b
  · simp [h]
  · simp only [h, if_false, iff_false]; split <;> omega
theorem Px.near_eq (a b : Px) : a.near b = if b.ahead a then b else a := by
  unfold Px.near
  by_cases h : b.ahead a
  · rw [if_pos ((Px.cmp_lt _ _).2 h), if_pos h]
  · rw [if_neg (fun h' => h ((Px.cmp_lt _ _).1 h')), if_neg h]
/-- a stands at least as near as b. -/
def Px.le (a b : Px) : Prop := ¬ b.ahead a
theorem Px.le_refl (a : Px) : a.le a := Px.ahead_irrefl a
theorem Px.le_trans {a b c : Px} (h : a.le b) (h' : b.le c) : a.le c := by unfold Px.le Px.ahead at *; omega
theorem Px.le_antisymm {a b : Px} (h : a.le b) (h' : b.le a) : a = b := (Px.ahead_total (a := b) (b := a) h h').symm
theorem Px.near_le1 (a b : Px) : (a.near b).le a := by
  rw [Px.near_eq]; split
  · next h => exact Px.ahead_asymm h
  · exact Px.le_refl _
theorem Px.near_le2 (a b : Px) : (a.near b).le b := by
  rw [Px.near_eq]; split
  · exact Px.le_refl _
  · next h => exact h
theorem Px.near_mem (a b : Px) : a.near b = a ∨ a.near b = b := by
  rw [Px.near_eq]; split <;> simp
end Go.Proofs.Ytflgamohploalaa
