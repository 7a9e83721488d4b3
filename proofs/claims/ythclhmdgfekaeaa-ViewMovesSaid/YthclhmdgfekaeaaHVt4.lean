/- ViewThrough: what comes in. -/
import Derived.Test.YthclhmdgfekaeaaHVt3
namespace Go.Proofs.Ythclhmdgfekaeaa
set_option linter.unusedSimpArgs false
set_option linter.unusedVariables false
open Go.RowKit EV
open EW (PlL PlT PlV PlVs nums)
set_option maxRecDepth 20000
theorem t3_of_rows : ∀ {rows : List (List Value)}, (∀ s ∈ rows, Fit [.i .i64, .i .i64, .i .i64] s) → ∃ l : List T3, l.length = rows.length ∧ rows.flatten = tvs l ∧ ∀ t ∈ l, t.ok
  | [], _ => ⟨[], rfl, rfl, fun x hx => by cases hx⟩
  | r :: rows, h => by
    obtain ⟨l, h1, h2, h3⟩ := t3_of_rows (rows := rows) (fun s hs => h s (by simp [hs]))
    obtain ⟨a, _, rfl, a0, a1, b, _, rfl, b0, b1, c, _, rfl, c0, c1, rfl⟩ := h r (by simp)
    refine ⟨⟨a, b, c⟩ :: l, by simp [h1], by rw [List.flatten_cons, h2]; rfl, fun x hx => ?_⟩
    rcases List.mem_cons.1 hx with rfl | hx
    · exact ⟨rg_i64 ⟨a0, a1⟩, rg_i64 ⟨b0, b1⟩, rg_i64 ⟨c0, c1⟩⟩
    · exact h3 x hx
theorem tvs_one (l : List T3) : ∀ x ∈ tvs l, x.oneCell' = true := by
  intro x hx
  simp only [tvs, List.mem_flatMap] at hx
  obtain ⟨p, _, hx⟩ := hx
  simp only [List.mem_cons, List.not_mem_nil, or_false] at hx
  rcases hx with rfl | rfl | rfl <;> rfl
theorem first_no {p : Nat → Prop} [DecidablePred p] : ∀ {n : Nat}, ¬ (∀ t, t < n → p t) → ∃ t, t < n ∧ (∀ i, i < t → p i) ∧ ¬ p t
  | 0, h => absurd (fun t ht => by omega) h
  | n + 1, h => by
    by_cases h' : ∀ t, t < n → p t
    · refine ⟨n, by omega, h', fun hn => h fun t ht => ?_⟩
      rcases Nat.lt_or_ge t n with h1 | h1
      · exact h' t h1
      · obtain rfl : t = n := by omega
        exact hn
    · obtain ⟨t, h1, h2, h3⟩ := first_no h'
      exact ⟨t, by omega, h2, h3⟩
theorem inG_len {v : Value} {b off len room z : Nat} (h : InG v b off len room z) : len ≤ maxLen := by
  rcases h with ⟨cap, _, e1, e2, _⟩ | ⟨e1, _⟩
  · exact Nat.le_trans e1 e2
  · rw [e1]; exact Nat.zero_le _
end Go.Proofs.Ythclhmdgfekaeaa
