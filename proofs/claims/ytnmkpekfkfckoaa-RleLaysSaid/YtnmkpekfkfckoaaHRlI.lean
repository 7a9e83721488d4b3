import Derived.Test.YtnmkpekfkfckoaaHPyD
import Derived.Test.YtnmkpekfkfckoaaHIm3
import Derived.Test.YtnmkpekfkfckoaaHPxO
import Derived.Test.YtnmkpekfkfckoaaHCrP
import Derived.Test.YtnmkpekfkfckoaaHPkD
import Derived.Test.YtnmkpekfkfckoaaHRlF
import Derived.Test.YtnmkpekfkfckoaaHImJ
/- pixel: Write, Take and the document's, of any pixel and bytes. -/
namespace Go.Proofs.Ytnmkpekfkfckoaa
set_option linter.unusedSectionVars false
set_option linter.unusedSimpArgs false
set_option linter.unusedVariables false
open Go.RowKit EV
open SX (Wr Tv Qu Rm Sh Is conjP eqs_iff eqs_false)
open EW (PlL PlT PlV PlVs LfV Mm Bt Opn GV YT lpOf nums)
set_option maxRecDepth 20000
theorem px_nat {p : Px} (hm : p.may) (hw : p.wf) : p = ⟨16777216, 0, 0, 0⟩ ∨ ∃ z o t c : Nat, p = ⟨z, o, t, c⟩ ∧ z < 16777216 ∧ (1 ≤ o ∧ o ≤ 65535) ∧ t < 64 ∧ c < 4294967296 := by
  obtain ⟨z, o, t, c⟩ := p
  obtain ⟨w1, w2, w3, w4⟩ := hw
  unfold Px.may at hm
  dsimp only at *
  rcases hm with ⟨a1, a2, a3, a4, a5⟩ | ⟨rfl, rfl, rfl, rfl⟩
  · right
    refine ⟨z.toNat, o.toNat, t.toNat, c.toNat, ?_, by omega, by omega, by omega, by omega⟩
    rw [Int.toNat_of_nonneg (by omega), Int.toNat_of_nonneg (by omega), Int.toNat_of_nonneg (by omega), Int.toNat_of_nonneg (by omega)]
  · left; rfl
theorem dwrite_y (p : Px) (bs : List Int) (hm : p.may) (hw : p.wf) (hl : bs.length ≤ 300000) : CT Try.prog 40 [.c (.p 0 0), .a (pcl p.z p.o p.t p.c)] (upd EW.emp (WV bs false)) 2 3 (.c (.v (.int .i64 0))) (upd (upd EW.emp (WV bs false)) (Vmore (bs ++ encP p))) := by
  rcases px_nat hm hw with rfl | ⟨z, o, t, c, rfl, hz, ho, ht, hc⟩
  · exact dwrite_e bs (by omega)
  · rw [encP_n hz]; exact dwrite_n z o t c bs (by omega) hz ho ht hc
theorem dd (bs : List Int) (a b : Nat) : (bs.drop a).drop b = bs.drop (a + b) := by rw [List.drop_drop]
theorem dd3 (bs : List Int) (a b c : Nat) : (bs.drop a).drop (b + c) = bs.drop (a + b + c) := by rw [List.drop_drop, Nat.add_assoc]
theorem dd4 (bs : List Int) (a b c d : Nat) : (bs.drop a).drop (b + c + d) = bs.drop (a + b + c + d) := by rw [List.drop_drop, Nat.add_assoc a b c, Nat.add_assoc a (b + c) d]
theorem num_le {bs : List Int} {q n v k : Nat} (hy : By bs) (hn : q + n = bs.length) (h : num (bs.drop q) = some (v, k)) : 0 < k ∧ k ≤ n ∧ v < 18446744073709551616 := by
  obtain ⟨_, h1, h2, _, h3⟩ := num_spec (by_drop hy q) h
  rw [List.length_drop] at h2
  exact ⟨h1, by omega, h3⟩
section
variable (bs : List Int) (p n : Nat) (hy : By bs) (hn : p + n = bs.length) (hl : bs.length ≤ 1000000)
include hy hn hl
theorem ptake_ok (x : Px) (k : Nat) (h : takeP (bs.drop p) = some (x, k)) : 0 < k ∧ k ≤ n ∧ x.may ∧ x.wf ∧ CT Try.prog 92 [.c (.p 0 0)] (upd EW.emp (WR bs p n false)) 2 2 (.a (pcl x.z x.o x.t x.c)) (upd (upd EW.emp (WR bs p n false)) [(.b 0, .b (.m true (rcs (p + k) (n - k) false)))]) ∧ ∀ ow, CT Try.prog 48 [.c (.p 0 0)] (upd EW.emp (WD ow bs p false)) 2 2 (.a (pcl x.z x.o x.t x.c)) (upd (upd EW.emp (WD ow bs p false)) [(.b 0, .b (.m true (dcs bs.length (p + k) false)))]) := by
  have hT := takeP_is (bs.drop p)
  rw [h] at hT
  cases hT with
  | e k0 h0 =>
    obtain ⟨a1, a2, _⟩ := num_le hy hn h0
    exact ⟨a1, a2, by decide, by decide, ptake_e bs p n k hy hn hl h0 a2, fun ow => dtake_e ow bs p n k hy hn hl h0 a2⟩
  | n z o t c k0 k1 k2 k3 h0 hz h1 ho h2 ht h3 o1 hc =>
    rw [dd] at h1
    rw [dd3] at h2
    rw [dd4] at h3
    obtain ⟨a1, a2, _⟩ := num_le hy hn h0
    obtain ⟨b1, b2, _⟩ := num_le (n := n - k0) hy (by omega) h1
    obtain ⟨c1, c2, _⟩ := num_le (n := n - k0 - k1) hy (by omega) h2
    obtain ⟨d1, d2, _⟩ := num_le (n := n - k0 - k1 - k2) hy (by omega) h3
    refine ⟨by omega, by omega, .inl ⟨?_, ?_, ?_, ?_, ?_⟩, ⟨⟨?_, ?_⟩, ⟨?_, ?_⟩, ⟨?_, ?_⟩, ?_, ?_⟩, ?_, fun ow => ?_⟩
    iterate 13 (first | (show (_ : Int) ≤ _; dsimp only; omega) | (show (_ : Int) < _; dsimp only; omega))
    · rw [show p + (k0 + k1 + k2 + k3) = p + k0 + k1 + k2 + k3 by omega, show n - (k0 + k1 + k2 + k3) = n - k0 - k1 - k2 - k3 by omega]
      exact ptake_n bs p n z k0 o k1 t k2 c k3 hy hn hl h0 (by omega) h1 (by omega) h2 (by omega) h3 (by omega) hz ho ht o1 hc
    · rw [show p + (k0 + k1 + k2 + k3) = p + k0 + k1 + k2 + k3 by omega]
      exact dtake_n ow bs p n z k0 o k1 t k2 c k3 hy hn hl h0 (by omega) h1 (by omega) h2 (by omega) h3 (by omega) hz ho ht o1 hc
theorem ptake_no (h : takeP (bs.drop p) = none) : ∃ p' n' q, p' + n' = bs.length ∧ q ≤ bs.length ∧ CT Try.prog 92 [.c (.p 0 0)] (upd EW.emp (WR bs p n false)) 2 2 (.a (pcl 0 0 0 0)) (upd (upd EW.emp (WR bs p n false)) [(.b 0, .b (.m true (rcs p' n' true)))]) ∧ ∀ ow, CT Try.prog 48 [.c (.p 0 0)] (upd EW.emp (WD ow bs p false)) 2 2 (.a (pcl 0 0 0 0)) (upd (upd EW.emp (WD ow bs p false)) [(.b 0, .b (.m true (dcs bs.length q true)))]) := by
  have hT := takeP_is (bs.drop p)
  rw [h] at hT
  cases hT with
  | f0 hf => exact ⟨_, _, _, hn, by omega, ptake_0 bs p n hy hn hl hf, fun ow => dtake_0 ow bs p n hy hn hl hf⟩
  | f1 z k0 h0 hz hf =>
    rw [dd] at hf
    obtain ⟨a1, a2, _⟩ := num_le hy hn h0
    exact ⟨p + k0, n - k0, p + k0, by omega, by omega, ptake_1 bs p n z k0 hy hn hl h0 a2 hz hf, fun ow => dtake_1 ow bs p n z k0 hy hn hl h0 a2 hz hf⟩
  | f2 z o k0 k1 h0 hz h1 ho hf =>
    rw [dd] at h1
    rw [dd3] at hf
    obtain ⟨a1, a2, _⟩ := num_le hy hn h0
    obtain ⟨b1, b2, _⟩ := num_le (n := n - k0) hy (by omega) h1
    refine ⟨p + k0 + k1, n - k0 - k1, p + k0 + k1, by omega, by omega, ?_, fun ow => ?_⟩
    · rcases Nat.eq_zero_or_pos o with h9 | h9
      · exact ptake_2b bs p n z k0 o k1 hy hn hl h0 (by omega) h1 (by omega) hz ho hf h9
      · exact ptake_2a bs p n z k0 o k1 hy hn hl h0 (by omega) h1 (by omega) hz ho hf h9
    · rcases Nat.eq_zero_or_pos o with h9 | h9
      · exact dtake_2b ow bs p n z k0 o k1 hy hn hl h0 (by omega) h1 (by omega) hz ho hf h9
      · exact dtake_2a ow bs p n z k0 o k1 hy hn hl h0 (by omega) h1 (by omega) hz ho hf h9
  | f3 z o t k0 k1 k2 h0 hz h1 ho h2 ht hf =>
    rw [dd] at h1
    rw [dd3] at h2
    rw [dd4] at hf
    obtain ⟨a1, a2, _⟩ := num_le hy hn h0
    obtain ⟨b1, b2, _⟩ := num_le (n := n - k0) hy (by omega) h1
    obtain ⟨c1, c2, _⟩ := num_le (n := n - k0 - k1) hy (by omega) h2
    refine ⟨p + k0 + k1 + k2, n - k0 - k1 - k2, p + k0 + k1 + k2, by omega, by omega, ?_, fun ow => ?_⟩
    · rcases Nat.eq_zero_or_pos o with h9 | h9
      · exact ptake_3b bs p n z k0 o k1 t k2 hy hn hl h0 (by omega) h1 (by omega) h2 (by omega) hz ho ht hf h9
      · exact ptake_3a bs p n z k0 o k1 t k2 hy hn hl h0 (by omega) h1 (by omega) h2 (by omega) hz ho ht hf h9
    · rcases Nat.eq_zero_or_pos o with h9 | h9
      · exact dtake_3b ow bs p n z k0 o k1 t k2 hy hn hl h0 (by omega) h1 (by omega) h2 (by omega) hz ho ht hf h9
      · exact dtake_3a ow bs p n z k0 o k1 t k2 hy hn hl h0 (by omega) h1 (by omega) h2 (by omega) hz ho ht hf h9
  | f4 z o t c k0 k1 k2 k3 h0 hz h1 ho h2 ht h3 hq =>
    rw [dd] at h1
    rw [dd3] at h2
    rw [dd4] at h3
    obtain ⟨a1, a2, _⟩ := num_le hy hn h0
    obtain ⟨b1, b2, _⟩ := num_le (n := n - k0) hy (by omega) h1
    obtain ⟨c1, c2, _⟩ := num_le (n := n - k0 - k1) hy (by omega) h2
    obtain ⟨d1, d2, d3⟩ := num_le (n := n - k0 - k1 - k2) hy (by omega) h3
    refine ⟨p + k0 + k1 + k2 + k3, n - k0 - k1 - k2 - k3, p + k0 + k1 + k2 + k3, by omega, by omega, ?_, fun ow => ?_⟩
    · by_cases h8 : 4294967295 < c
      · exact ptake_4b bs p n z k0 o k1 t k2 c k3 hy hn hl h0 (by omega) h1 (by omega) h2 (by omega) h3 (by omega) hz ho ht h8
      · exact ptake_4a bs p n z k0 o k1 t k2 c k3 hy hn hl h0 (by omega) h1 (by omega) h2 (by omega) h3 (by omega) hz ho ht (by omega) (by omega)
    · by_cases h8 : 4294967295 < c
      · rcases Nat.eq_zero_or_pos o with h9 | h9
        · exact dtake_4c ow bs p n z k0 o k1 t k2 c k3 hy hn hl h0 (by omega) h1 (by omega) h2 (by omega) h3 (by omega) hz ho ht _ h8 rfl h9
        · exact dtake_4b ow bs p n z k0 o k1 t k2 c k3 hy hn hl h0 (by omega) h1 (by omega) h2 (by omega) h3 (by omega) hz ho ht _ h8 rfl h9
      · exact dtake_4a ow bs p n z k0 o k1 t k2 c k3 hy hn hl h0 (by omega) h1 (by omega) h2 (by omega) h3 (by omega) hz ho ht (by omega) (by omega)
end
end Go.Proofs.Ytnmkpekfkfckoaa
/- Walking over named blocks: a slice that is loaded out of a cell gets a name of its own. No program in sight. -/
/- rle: Encode. -/
namespace Go.Proofs.Ytnmkpekfkfckoaa
set_option linter.unusedSimpArgs false
set_option linter.unusedVariables false
open Go.RowKit EV
open SX (Wr Tv Qu Rm Sh Is conjP eqs_iff eqs_false)
open EW (PlL PlT PlV PlVs LfV Mm Bt Opn GV YT lpOf nums)
set_option maxRecDepth 20000
/-- A span that may be, of numbers of their types. -/
structure Gd (l : List Px) : Prop where
  sp : spOk l
  wf : ∀ i, i < l.length → (l.getD i Px.zero).wf
theorem pixB_gd {l : List Px} (h : Gd l) {a k : Nat} (hk : a + k ≤ l.length) : (pixB l a k).length ≤ 40 * k := pixB_len h.sp.2 h.wf a k hk
/-- What has been written when a run is done. -/
abbrev runBs (l : List Px) (bs : List Int) (at_ a b k : Nat) : List Int := bs ++ formN (a - at_) ++ formN (b - a) ++ pixB l a k
end Go.Proofs.Ytnmkpekfkfckoaa
/- rle: Encode. -/
/- rle: Encode, Size. -/
namespace Go.Proofs.Ytnmkpekfkfckoaa
set_option linter.unusedSimpArgs false
set_option linter.unusedVariables false
open Go.RowKit EV
open SX (Wr Tv Qu Rm Sh Is conjP eqs_iff eqs_false)
open EW (PlL PlT PlV PlVs LfV Mm Bt Opn GV YT lpOf nums)
set_option maxRecDepth 20000
abbrev EncR (f : FuncId) (o : Bool) (l : List Px) (r : List Int) (e : Int) : Prop := CT Try.prog f [.c (.g 0 0 l.length l.length 4)] (upd EW.emp (WP o l)) 1 2 (.t [.inl (.g 1 0 r.length r.length 1), .inl (.v (.int .i64 e))]) (upd (upd EW.emp (WP o l)) [(.l 1, .l true), (.b 1, .b (.w true (nums .u8 r)))])
theorem rleB_len {l : List Px} (hg : Gd l) : ∀ (k a : Nat), l.length - a ≤ k → a ≤ l.length → (encB l a).length ≤ 60 * (l.length - a)
  | 0, a, h, h0 => by rw [encB_end (by omega)]; simp
  | k + 1, a, h, h0 => by
    have hl := hg.sp.1
    have h1 := runA_le h0
    by_cases ha : a < l.length
    · by_cases hr : runA l a < l.length
      · have h2 := runB_gt hr
        have := rleB_len hg k (runB l a) (by omega) h2.2
        have f1 := formN_10 (n := runA l a - a) (by omega)
        have f2 := formN_10 (n := runB l a - runA l a) (by omega)
        have f3 := pixB_gd hg (a := runA l a) (k := runB l a - runA l a) (by omega)
        rw [encB_run ha hr]; simp only [List.length_append]; omega
      · have f1 := formN_10 (n := l.length - a) (by omega)
        rw [encB_last ha hr]; omega
    · rw [encB_end ha]; simp
theorem encB_by (l : List Px) : ∀ (k a : Nat), l.length - a ≤ k → a ≤ l.length → By (encB l a)
  | 0, a, h, h0 => by rw [encB_end (by omega)]; intro x hx; simp at hx
  | k + 1, a, h, h0 => by
    have h1 := runA_le h0
    by_cases ha : a < l.length
    · by_cases hr : runA l a < l.length
      · have h2 := runB_gt hr
        rw [encB_run ha hr]
        exact by_app2 (by_app2 (by_app2 (formN_by _) (formN_by _)) (pixB_by _ _ _)) (encB_by l k (runB l a) (by omega) h2.2)
      · rw [encB_last ha hr]; exact formN_by _
    · rw [encB_end ha]; intro x hx; simp at hx
theorem rleB_by (l : List Px) : By (rleB l) := by_app2 (formN_by _) (encB_by l l.length 0 (by omega) (by omega))
theorem rleB_le {l : List Px} (hg : Gd l) : (rleB l).length ≤ 10 + 60 * l.length := by
  have hl := hg.sp.1
  have f1 := formN_10 (n := l.length) (by omega)
  have := rleB_len hg l.length 0 (by omega) (by omega)
  rw [rleB, List.length_append]; omega
theorem pvs_self (l : List Px) : EW.Sub (pvs l) (pvs l) 0 := by have := pvs_head l []; rwa [List.append_nil] at this
end Go.Proofs.Ytnmkpekfkfckoaa
