import Derived.Test.YtnmkpekfkfckoaaHEwS
import Derived.Test.YtnmkpekfkfckoaaHIm8
import Derived.Test.YtnmkpekfkfckoaaHEw9
/- Walking over named blocks: a part with three bounds of a block that came in gets a name of its own. No program in sight. -/
/- image: signs of pixels, rows as texts. -/
namespace Go.Proofs.Ytnmkpekfkfckoaa
set_option linter.unusedSimpArgs false
set_option linter.unusedVariables false
open Go.RowKit EV
open SX (Wr Tv Qu Rm Sh Is conjP eqs_iff eqs_false)
open EW (PlL PlT PlV PlVs LfV Mm Bt Opn GV YT lpOf nums)
set_option maxRecDepth 20000
theorem pvs_take : ∀ (l : List Px) (k : Nat), (pvs l).take (k * 4) = pvs (l.take k)
  | [], k => by simp [pvs]
  | p :: l, 0 => by simp [pvs]
  | p :: l, k + 1 => by
    have := pvs_take l k
    rw [show (k + 1) * 4 = k * 4 + 1 + 1 + 1 + 1 by omega]
    simpa [pvs, Px.vals] using this
theorem pvs_drop : ∀ (l : List Px) (k : Nat), (pvs l).drop (k * 4) = pvs (l.drop k)
  | [], k => by simp [pvs]
  | p :: l, 0 => by simp [pvs]
  | p :: l, k + 1 => by
    have := pvs_drop l k
    rw [show (k + 1) * 4 = k * 4 + 1 + 1 + 1 + 1 by omega]
    simpa [pvs, Px.vals] using this
theorem pvs_part {l : List Px} {a k : Nat} (h : a + k ≤ l.length) : EW.Sub (pvs l) (pvs ((l.drop a).take k)) (a * 4) := by
  rw [← pvs_take, ← pvs_drop]
  exact EW.Sub.of (by rw [pvs_length]; omega)
end Go.Proofs.Ytnmkpekfkfckoaa
/- image: sign, slices.Chunk of pixels, Rows. -/
/- image: Rows. -/
/- image: Rows; the document's Rows, Texts. -/
namespace Go.Proofs.Ytnmkpekfkfckoaa
set_option linter.unusedSimpArgs false
set_option linter.unusedVariables false
open Go.RowKit EV
open SX (Wr Tv Qu Rm Sh Is conjP eqs_iff eqs_false)
open EW (PlL PlT PlV PlVs LfV Mm Bt Opn GV YT lpOf nums)
set_option maxRecDepth 20000
theorem least_not {l : List Px} (h : ¬ ∀ i, i < l.length → mayAt l i) : ∃ t, t < l.length ∧ (∀ i, i < t → mayAt l i) ∧ ¬ mayAt l t := by
  have key : ∀ n, n ≤ l.length → (∀ i, i < n → mayAt l i) ∨ ∃ t, t < l.length ∧ (∀ i, i < t → mayAt l i) ∧ ¬ mayAt l t := by
    intro n
    induction n with
    | zero => intro _; exact .inl fun i hi => by omega
    | succ n ih =>
      intro hn
      rcases ih (by omega) with h1 | h1
      · by_cases hm : mayAt l n
        · left; intro i hi
          rcases Nat.lt_or_ge i n with h2 | h2
          · exact h1 i h2
          · obtain rfl : i = n := by omega
            exact hm
        · exact .inr ⟨n, by omega, h1, hm⟩
      · exact .inr h1
  rcases key l.length (Nat.le_refl _) with h1 | h1
  · exact absurd h1 h
  · exact h1
end Go.Proofs.Ytnmkpekfkfckoaa
