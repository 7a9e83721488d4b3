/- Runs of pixels that are set: plain laws. -/
import Derived.Test.YtnmkpekfkfckoaaHIm3
namespace Go.Proofs.Ytnmkpekfkfckoaa
open Go.RowKit EV
set_option maxRecDepth 20000
/-- A pixel is empty. -/
abbrev Px.emp (p : Px) : Prop := p.z = 16777216
/-- How many pixels at the head are empty, or set. -/
def skipE : List Px → Nat
  | [] => 0
  | p :: l => if p.emp then skipE l + 1 else 0
def skipS : List Px → Nat
  | [] => 0
  | p :: l => if p.emp then 0 else skipS l + 1
theorem skipE_le : ∀ l, skipE l ≤ l.length
  | [] => Nat.le_refl _
  | p :: l => by have := skipE_le l; unfold skipE; split <;> simp <;> omega
theorem skipS_le : ∀ l, skipS l ≤ l.length
  | [] => Nat.le_refl _
  | p :: l => by have := skipS_le l; unfold skipS; split <;> simp <;> omega
theorem skipE_in : ∀ (l : List Px) (i : Nat), i < skipE l → (l.getD i Px.zero).emp
  | [], i, h => by simp [skipE] at h
  | p :: l, i, h => by
    unfold skipE at h
    split at h
    · next hp =>
      cases i with
      | zero => simpa using hp
      | succ i => simpa using skipE_in l i (by omega)
    · omega
theorem skipS_in : ∀ (l : List Px) (i : Nat), i < skipS l → ¬ (l.getD i Px.zero).emp
  | [], i, h => by simp [skipS] at h
  | p :: l, i, h => by
    unfold skipS at h
    split at h
    · omega
    · next hp =>
      cases i with
      | zero => simpa using hp
      | succ i => simpa using skipS_in l i (by omega)
theorem skipE_at : ∀ (l : List Px), skipE l < l.length → ¬ (l.getD (skipE l) Px.zero).emp
  | [], h => by simp at h
  | p :: l, h => by
    unfold skipE at h ⊢
    by_cases hp : p.emp
    · rw [if_pos hp] at h ⊢
      simpa using skipE_at l (by simpa using h)
    · rw [if_neg hp]; simpa using hp
theorem skipS_at : ∀ (l : List Px), skipS l < l.length → (l.getD (skipS l) Px.zero).emp
  | [], h => by simp at h
  | p :: l, h => by
    unfold skipS at h ⊢
    by_cases hp : p.emp
    · rw [if_pos hp]; simpa using hp
    · rw [if_neg hp] at h ⊢
      simpa using skipS_at l (by simpa using h)
theorem skipS_pos {l : List Px} (h0 : 0 < l.length) (h : ¬ (l.getD 0 Px.zero).emp) : 0 < skipS l := by
  cases l with
  | nil => simp at h0
  | cons p l => unfold skipS; rw [if_neg (by simpa using h)]; omega
theorem drop_getD (l : List Px) (a i : Nat) : (l.drop a).getD i Px.zero = l.getD (a + i) Px.zero := by
  rw [List.getD_eq_getElem?_getD, List.getD_eq_getElem?_getD, List.getElem?_drop]
/-- Where the next run begins, and where it ends. -/
def runA (l : List Px) (at_ : Nat) : Nat := at_ + skipE (l.drop at_)
def runB (l : List Px) (at_ : Nat) : Nat := runA l at_ + skipS (l.drop (runA l at_))
theorem runA_le {l : List Px} {a : Nat} (h : a ≤ l.length) : a ≤ runA l a ∧ runA l a ≤ l.length := by
  have := skipE_le (l.drop a)
  rw [List.length_drop] at this
  unfold runA; omega
theorem runA_set {l : List Px} {a : Nat} (h : runA l a < l.length) : ¬ (l.getD (runA l a) Px.zero).emp := by
  have := skipE_at (l.drop a) (by rw [List.length_drop]; unfold runA at h; omega)
  rwa [drop_getD] at this
theorem runB_gt {l : List Px} {a : Nat} (h : runA l a < l.length) : runA l a < runB l a ∧ runB l a ≤ l.length := by
  have h1 := runA_set h
  have h2 := skipS_pos (l := l.drop (runA l a)) (by rw [List.length_drop]; omega) (by rw [drop_getD]; exact h1)
  have h3 := skipS_le (l.drop (runA l a))
  rw [List.length_drop] at h3
  unfold runB; omega
/-- An empty pixel is passed over. -/
theorem runA_emp {l : List Px} {a : Nat} (h : a < l.length) (he : (l.getD a Px.zero).emp) : runA l a = runA l (a + 1) := by
  unfold runA
  rw [List.drop_eq_getElem_cons h, skipE]
  rw [List.getD_eq_getElem?_getD, List.getElem?_eq_getElem h] at he
  rw [if_pos (by simpa using he)]; omega
end Go.Proofs.Ytnmkpekfkfckoaa
