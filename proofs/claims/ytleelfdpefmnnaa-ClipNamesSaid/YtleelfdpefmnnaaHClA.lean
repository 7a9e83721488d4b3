/- ClipPlanes, ClipTriangles: the walks of the laws. -/
import Derived.Test.YtleelfdpefmnnaaHCl9
import Derived.Test.YtleelfdpefmnnaaHRow4
namespace Go.Proofs.Ytleelfdpefmnnaa
set_option linter.unusedSimpArgs false
set_option linter.unusedVariables false
open Go.RowKit EV
open SX (Wr Tv Qu Rm Sh Is conjP eqs_iff eqs_false)
open EW (PlL PlT PlV PlVs LfV Mm Bt Opn GV YT lpOf nums)
set_option maxRecDepth 20000
abbrev MAY (A : Value) (m : Bool) : Prop := ∀ w : World, Calls Try.prog 20 #[A] w fun e w' => e = .returned (.bool m) ∧ Below w.heap.size w w'
theorem first_bad {p : Nat → Prop} [DecidablePred p] : ∀ {n : Nat}, ¬ (∀ t, t < n → p t) → ∃ t, t < n ∧ (∀ i, i < t → p i) ∧ ¬ p t
  | 0, h => absurd (fun t ht => by omega) h
  | n + 1, h => by
    by_cases h' : ∀ t, t < n → p t
    · refine ⟨n, by omega, h', fun hn => h fun t ht => ?_⟩
      rcases Nat.lt_or_ge t n with h1 | h1
      · exact h' t h1
      · obtain rfl : t = n := by omega
        exact hn
    · obtain ⟨t, h1, h2, h3⟩ := first_bad h'
      exact ⟨t, by omega, h2, h3⟩
theorem sm_or (l : List Vx) : (∀ v ∈ l, v.sm) ∨ ∃ t, t < l.length ∧ (∀ i, i < t → (l.getD i Vx.zero).sm) ∧ ¬ (l.getD t Vx.zero).sm := by
  by_cases h : ∀ t, t < l.length → (l.getD t Vx.zero).sm
  · left
    intro v hv
    obtain ⟨i, hi, rfl⟩ := List.getElem_of_mem hv
    have := h i hi
    rwa [List.getD_eq_getElem?_getD, List.getElem?_eq_getElem hi] at this
  · exact .inr (first_bad h)
end Go.Proofs.Ytleelfdpefmnnaa
