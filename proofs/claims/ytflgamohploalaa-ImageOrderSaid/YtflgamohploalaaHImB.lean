/- image: Rows; the document's Rows, Texts. -/
import Derived.Test.YtflgamohploalaaHImA
namespace Go.Proofs.Ytflgamohploalaa
set_option linter.unusedSimpArgs false
set_option linter.unusedVariables false
open Go.RowKit EV
open SX (Wr Tv Qu Rm Sh Is conjP eqs_iff eqs_false)
open EW (PlL PlT PlV PlVs LfV Mm Bt Opn GV YT lpOf nums)
set_option maxRecDepth 20000
theorem least_not {l : List Px} (h : ¬ ∀ i, i < l.length → mayAt l i) : ∃ t, t < l.length ∧ (∀ i, i < t → mayAt l i) ∧ ¬ mayAt l t := by
  have key : ∀ n, n ≤ l.length → (∀ i, i < n → mayAt l i) ∨ ∃ t, t < l.length ∧ (∀ i, i < t → mayAt l i) ∧ ¬ mayAt l t := by
    intro n
    induction n with
    | zero => intro _; exact .inl fun i hi => by omega
    | succ n ih =>
      intro hn
      rcases ih (by omega) with h1 | h1
      · by_cases hm : mayAt l n
        · left; intro i hi
          rcases Nat.lt_or_ge i n with h2 | h2
          · exact h1 i h2
          · obtain rfl : i = n := by omega
            exact hm
        · exact .inr ⟨n, by omega, h1, hm⟩
      · exact .inr h1
  rcases key l.length (Nat.le_refl _) with h1 | h1
  · exact absurd h1 h
  · exact h1
theorem icheck_n (o : Bool) (l : List Px) (w h : Int) (hn : ¬ imOk w h l) (hl : l.length ≤ 10000) : CT Try.prog 34 [.a (imC 0 w h l.length)] (upd EW.emp (WP o l)) 1 1 (.c (.v (.int .i64 140))) (upd (upd EW.emp (WP o l)) []) := by
  by_cases hz : Szd w h
  · by_cases he : (l.length : Int) = w * h
    · obtain ⟨t, h1, h2, h3⟩ := least_not (l := l) fun hs => hn ⟨hz, he, hs⟩
      exact icheck_no o l w h t hz he h1 h2 h3
    · exact icheck_len o l w h hz he hl
  · exact icheck_sz o l w h hz
end Go.Proofs.Ytflgamohploalaa
