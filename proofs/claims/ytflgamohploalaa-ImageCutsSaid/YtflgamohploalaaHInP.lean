/- image: the nearer ones of images: plain laws. -/
import Derived.Test.YtflgamohploalaaHImV
namespace Go.Proofs.Ytflgamohploalaa
open Go.RowKit EV
set_option maxRecDepth 20000
theorem near_may {a b : Px} (ha : a.may) (hB : b.may) : (a.near b).may := by
  rcases Px.near_mem a b with h | h <;> rw [h] <;> assumption
theorem im_near {w h : Int} {xs ys : List Px} (h1 : imOk w h xs) (h2 : imOk w h ys) : imOk w h (nearL xs ys) := by
  have he := im_same h1 h2
  have hl := nearL_len he
  refine ⟨h1.1, by rw [hl]; exact h1.2.1, fun i hi => ?_⟩
  rw [hl] at hi
  unfold mayAt
  rw [nearL_at he hi]
  exact near_may (h1.2.2 i hi) (h2.2.2 i (by omega))
end Go.Proofs.Ytflgamohploalaa
