/- pixel: Take, of any bytes. -/
import Derived.Test.YtnmkpekfkfckoaaHRlI
namespace Go.Proofs.Ytnmkpekfkfckoaa
set_option linter.unusedSectionVars false
set_option linter.unusedSimpArgs false
set_option linter.unusedVariables false
open Go.RowKit EV
open SX (Wr Tv Qu Rm Sh Is conjP eqs_iff eqs_false)
open EW (PlL PlT PlV PlVs LfV Mm Bt Opn GV YT lpOf nums)
set_option maxRecDepth 20000
section
variable (bs : List Int) (p n : Nat) (hy : By bs) (hn : p + n = bs.length) (hl : bs.length ≤ 1000000)
include hy hn hl
theorem itake_ok (x : Px) (k : Nat) (h : takeP (bs.drop p) = some (x, k)) : 0 < k ∧ k ≤ n ∧ x.may ∧ x.wf ∧ CT Try.prog 92 [.c (.p 0 0)] (upd EW.emp (WR bs p n false)) 2 2 (.a (pcl x.z x.o x.t x.c)) (upd (upd EW.emp (WR bs p n false)) [(.b 0, .b (.m true (rcs (p + k) (n - k) false)))]) := by
  have hT := takeP_is (bs.drop p)
  rw [h] at hT
  cases hT with
  | e k0 h0 =>
    obtain ⟨a1, a2, _⟩ := num_le hy hn h0
    exact ⟨a1, a2, by decide, by decide, ptake_e bs p n k hy hn hl h0 a2⟩
  | n z o t c k0 k1 k2 k3 h0 hz h1 ho h2 ht h3 o1 hc =>
    rw [dd] at h1
    rw [dd3] at h2
    rw [dd4] at h3
    obtain ⟨a1, a2, _⟩ := num_le hy hn h0
    obtain ⟨b1, b2, _⟩ := num_le (n := n - k0) hy (by omega) h1
    obtain ⟨c1, c2, _⟩ := num_le (n := n - k0 - k1) hy (by omega) h2
    obtain ⟨d1, d2, _⟩ := num_le (n := n - k0 - k1 - k2) hy (by omega) h3
    refine ⟨by omega, by omega, .inl ⟨?_, ?_, ?_, ?_, ?_⟩, ⟨⟨?_, ?_⟩, ⟨?_, ?_⟩, ⟨?_, ?_⟩, ?_, ?_⟩, ?_⟩
    iterate 13 (first | (show (_ : Int) ≤ _; dsimp only; omega) | (show (_ : Int) < _; dsimp only; omega))
    · rw [show p + (k0 + k1 + k2 + k3) = p + k0 + k1 + k2 + k3 by omega, show n - (k0 + k1 + k2 + k3) = n - k0 - k1 - k2 - k3 by omega]
      exact ptake_n bs p n z k0 o k1 t k2 c k3 hy hn hl h0 (by omega) h1 (by omega) h2 (by omega) h3 (by omega) hz ho ht o1 hc
theorem itake_no (h : takeP (bs.drop p) = none) : ∃ p' n', p' + n' = bs.length ∧ CT Try.prog 92 [.c (.p 0 0)] (upd EW.emp (WR bs p n false)) 2 2 (.a (pcl 0 0 0 0)) (upd (upd EW.emp (WR bs p n false)) [(.b 0, .b (.m true (rcs p' n' true)))]) := by
  have hT := takeP_is (bs.drop p)
  rw [h] at hT
  cases hT with
  | f0 hf => exact ⟨_, _, hn, ptake_0 bs p n hy hn hl hf⟩
  | f1 z k0 h0 hz hf =>
    rw [dd] at hf
    obtain ⟨a1, a2, _⟩ := num_le hy hn h0
    exact ⟨p + k0, n - k0, by omega, ptake_1 bs p n z k0 hy hn hl h0 a2 hz hf⟩
  | f2 z o k0 k1 h0 hz h1 ho hf =>
    rw [dd] at h1
    rw [dd3] at hf
    obtain ⟨a1, a2, _⟩ := num_le hy hn h0
    obtain ⟨b1, b2, _⟩ := num_le (n := n - k0) hy (by omega) h1
    refine ⟨p + k0 + k1, n - k0 - k1, by omega, ?_⟩
    · rcases Nat.eq_zero_or_pos o with h9 | h9
      · exact ptake_2b bs p n z k0 o k1 hy hn hl h0 (by omega) h1 (by omega) hz ho hf h9
      · exact ptake_2a bs p n z k0 o k1 hy hn hl h0 (by omega) h1 (by omega) hz ho hf h9
  | f3 z o t k0 k1 k2 h0 hz h1 ho h2 ht hf =>
    rw [dd] at h1
    rw [dd3] at h2
    rw [dd4] at hf
    obtain ⟨a1, a2, _⟩ := num_le hy hn h0
    obtain ⟨b1, b2, _⟩ := num_le (n := n - k0) hy (by omega) h1
    obtain ⟨c1, c2, _⟩ := num_le (n := n - k0 - k1) hy (by omega) h2
    refine ⟨p + k0 + k1 + k2, n - k0 - k1 - k2, by omega, ?_⟩
    · rcases Nat.eq_zero_or_pos o with h9 | h9
      · exact ptake_3b bs p n z k0 o k1 t k2 hy hn hl h0 (by omega) h1 (by omega) h2 (by omega) hz ho ht hf h9
      · exact ptake_3a bs p n z k0 o k1 t k2 hy hn hl h0 (by omega) h1 (by omega) h2 (by omega) hz ho ht hf h9
  | f4 z o t c k0 k1 k2 k3 h0 hz h1 ho h2 ht h3 hq =>
    rw [dd] at h1
    rw [dd3] at h2
    rw [dd4] at h3
    obtain ⟨a1, a2, _⟩ := num_le hy hn h0
    obtain ⟨b1, b2, _⟩ := num_le (n := n - k0) hy (by omega) h1
    obtain ⟨c1, c2, _⟩ := num_le (n := n - k0 - k1) hy (by omega) h2
    obtain ⟨d1, d2, d3⟩ := num_le (n := n - k0 - k1 - k2) hy (by omega) h3
    refine ⟨p + k0 + k1 + k2 + k3, n - k0 - k1 - k2 - k3, by omega, ?_⟩
    · by_cases h8 : 4294967295 < c
      · exact ptake_4b bs p n z k0 o k1 t k2 c k3 hy hn hl h0 (by omega) h1 (by omega) h2 (by omega) h3 (by omega) hz ho ht h8
      · exact ptake_4a bs p n z k0 o k1 t k2 c k3 hy hn hl h0 (by omega) h1 (by omega) h2 (by omega) h3 (by omega) hz ho ht (by omega) (by omega)
end
end Go.Proofs.Ytnmkpekfkfckoaa
