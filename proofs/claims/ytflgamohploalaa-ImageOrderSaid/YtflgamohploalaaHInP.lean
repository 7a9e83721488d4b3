/- image: the nearer ones of images: plain laws. -/
import Derived.Test.YtflgamohploalaaHImV
namespace Go.Proofs.Ytflgamohploalaa
open Go.RowKit EV
set_option maxRecDepth 20000
theorem Px.near_pE {a : Px} (h : a.may) : a.near pE = a := by
  rw [Px.near_eq]
  refine if_neg fun h' => ?_
  obtain ⟨z, o, t, c⟩ := a
  unfold Px.may at h
  unfold Px.ahead at h'
  dsimp only at h h'
  omega
theorem near_may {a b : Px} (ha : a.may) (hB : b.may) : (a.near b).may := by
  rcases Px.near_mem a b with h | h <;> rw [h] <;> assumption
theorem im_near {w h : Int} {xs ys : List Px} (h1 : imOk w h xs) (h2 : imOk w h ys) : imOk w h (nearL xs ys) := by
  have he := im_same h1 h2
  have hl := nearL_len he
  refine ⟨h1.1, by rw [hl]; exact h1.2.1, fun i hi => ?_⟩
  rw [hl] at hi
  unfold mayAt
  rw [nearL_at he hi]
  exact near_may (h1.2.2 i hi) (h2.2.2 i (by omega))
theorem im_rep {w h : Int} {n : Nat} (hz : Szd w h) (hn : (n : Int) = w * h) : imOk w h (List.replicate n pE) := by
  refine ⟨hz, by rw [List.length_replicate]; exact hn, fun i hi => ?_⟩
  rw [List.length_replicate] at hi
  unfold mayAt
  rw [List.getD_eq_getElem?_getD, List.getElem?_replicate, if_pos hi]
  decide
end Go.Proofs.Ytflgamohploalaa
