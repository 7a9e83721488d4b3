/- image: the nearer ones of images: plain laws. -/
import Derived.Test.YtflgamohploalaaHImV
namespace Go.Proofs.Ytflgamohploalaa
open Go.RowKit EV
set_option maxRecDepth 20000
theorem nearL_comm (a b : List Px) : nearL a b = nearL b a := by
  unfold nearL
  rw [List.zipWith_comm]
  congr 1
  funext x y
  exact Px.near_comm _ _
theorem Px.near_assoc (a b c : Px) : (a.near b).near c = a.near (b.near c) := by
  have x1 := Px.near_le1 (a.near b) c
  have x2 := Px.near_le2 (a.near b) c
  have x3 := Px.le_trans x1 (Px.near_le1 a b)
  have x4 := Px.le_trans x1 (Px.near_le2 a b)
  have y1 := Px.near_le1 a (b.near c)
  have y2 := Px.near_le2 a (b.near c)
  have y3 := Px.le_trans y2 (Px.near_le1 b c)
  have y4 := Px.le_trans y2 (Px.near_le2 b c)
  have xm : (a.near b).near c = a ∨ (a.near b).near c = b ∨ (a.near b).near c = c := by
    rcases Px.near_mem (a.near b) c with h | h
    · rw [h]; rcases Px.near_mem a b with h | h <;> simp [h]
    · simp [h]
  have ym : a.near (b.near c) = a ∨ a.near (b.near c) = b ∨ a.near (b.near c) = c := by
    rcases Px.near_mem a (b.near c) with h | h
    · simp [h]
    · rw [h]; rcases Px.near_mem b c with h | h <;> simp [h]
  generalize (a.near b).near c = X at *
  generalize a.near (b.near c) = Y at *
  refine Px.le_antisymm ?_ ?_
  · rcases ym with rfl | rfl | rfl <;> assumption
  · rcases xm with rfl | rfl | rfl <;> assumption
theorem Px.near_self (a : Px) : a.near a = a := by rcases Px.near_mem a a with h | h <;> exact h
theorem Px.near_pE {a : Px} (h : a.may) : a.near pE = a := by
  rw [Px.near_eq]
  refine if_neg fun h' => ?_
  obtain ⟨z, o, t, c⟩ := a
  unfold Px.may at h
  unfold Px.ahead at h'
  dsimp only at h h'
  omega
theorem Px.may_z {a : Px} (h : a.may) : a.z ≤ 16777216 := by
  unfold Px.may at h; omega
theorem Px.le_z {a b : Px} (h : a.le b) : a.z ≤ b.z := by
  unfold Px.le Px.ahead at h; omega
theorem near_may {a b : Px} (ha : a.may) (hB : b.may) : (a.near b).may := by
  rcases Px.near_mem a b with h | h <;> rw [h] <;> assumption
/-- What is said of one of two's nearer one. -/
theorem near_facts {a b : Px} (ha : a.may) (hB : b.may) : (a.near b).z ≤ a.z ∧ (a.near b).z ≤ b.z ∧ a.z ≤ 16777216 ∧ b.z ≤ 16777216 ∧ (((a.near b).z = a.z ∧ (a.near b).o = a.o ∧ (a.near b).t = a.t ∧ (a.near b).c = a.c) ∨ ((a.near b).z = b.z ∧ (a.near b).o = b.o ∧ (a.near b).t = b.t ∧ (a.near b).c = b.c)) := by
  refine ⟨Px.le_z (Px.near_le1 a b), Px.le_z (Px.near_le2 a b), Px.may_z ha, Px.may_z hB, ?_⟩
  rcases Px.near_mem a b with h | h
  · exact .inl (px_eq h)
  · exact .inr (px_eq h)
theorem im_near {w h : Int} {xs ys : List Px} (h1 : imOk w h xs) (h2 : imOk w h ys) : imOk w h (nearL xs ys) := by
  have he := im_same h1 h2
  have hl := nearL_len he
  refine ⟨h1.1, by rw [hl]; exact h1.2.1, fun i hi => ?_⟩
  rw [hl] at hi
  unfold mayAt
  rw [nearL_at he hi]
  exact near_may (h1.2.2 i hi) (h2.2.2 i (by omega))
theorem im_rep {w h : Int} {n : Nat} (hz : Szd w h) (hn : (n : Int) = w * h) : imOk w h (List.replicate n pE) := by
  refine ⟨hz, by rw [List.length_replicate]; exact hn, fun i hi => ?_⟩
  rw [List.length_replicate] at hi
  unfold mayAt
  rw [List.getD_eq_getElem?_getD, List.getElem?_replicate, if_pos hi]
  decide
theorem nearL_self (xs : List Px) : nearL xs xs = xs := (nearL_is rfl rfl fun i _ => (Px.near_self _).symm).symm
theorem nearL_rep {xs : List Px} {n : Nat} (hn : xs.length = n) (hs : ∀ i, i < xs.length → mayAt xs i) : nearL xs (List.replicate n pE) = xs := by
  refine (nearL_is (by rw [List.length_replicate]; exact hn) rfl fun i hi => ?_).symm
  have e : (List.replicate n pE).getD i Px.zero = pE := by
    rw [List.getD_eq_getElem?_getD, List.getElem?_replicate, if_pos (by omega)]; rfl
  rw [e, Px.near_pE (hs i hi)]
theorem nearL_assoc {xs ys zs : List Px} (h1 : xs.length = ys.length) (h2 : xs.length = zs.length) : nearL (nearL xs ys) zs = nearL xs (nearL ys zs) := by
  have a1 := nearL_len h1
  have a2 := nearL_len (a := ys) (b := zs) (by omega)
  refine nearL_is (by rw [a2]; exact h1) (by rw [nearL_len (by omega), a1]) fun i hi => ?_
  rw [nearL_at (by omega) (by omega), nearL_at h1 hi, nearL_at (by omega) (by omega), Px.near_assoc]
end Go.Proofs.Ytflgamohploalaa
