/- rle: a span's bytes: plain laws. -/
import Derived.Test.YtnmkpekfkfckoaaHCrP
import Derived.Test.YtnmkpekfkfckoaaHPyA
import Derived.Test.YtnmkpekfkfckoaaHIm3
namespace Go.Proofs.Ytnmkpekfkfckoaa
set_option linter.unusedSimpArgs false
set_option linter.unusedVariables false
open Go.RowKit EV
open EW (nums)
set_option maxRecDepth 20000
/-- The forms of k pixels from a place on. -/
def pixB (l : List Px) (a k : Nat) : List Int := ((l.drop a).take k).flatMap encP
theorem pixB_0 (l : List Px) (a : Nat) : pixB l a 0 = [] := by simp [pixB]
theorem pixB_next {l : List Px} {a k : Nat} (h : a + k < l.length) : pixB l a k ++ encP (l.getD (a + k) Px.zero) = pixB l a (k + 1) := by
  unfold pixB
  rw [List.take_add_one, List.getElem?_drop, List.getElem?_eq_getElem h, List.flatMap_append, List.getD_eq_getElem?_getD, List.getElem?_eq_getElem h]
  simp
/-- The bytes of what stands from a place on. -/
def encB (l : List Px) (a : Nat) : List Int :=
  if h : a < l.length then
    if h2 : runA l a < l.length then formN (runA l a - a) ++ formN (runB l a - runA l a) ++ pixB l (runA l a) (runB l a - runA l a) ++ encB l (runB l a)
    else formN (l.length - a)
  else []
  termination_by l.length - a
  decreasing_by
    have h1 := runA_le (Nat.le_of_lt h)
    have h2 := runB_gt h2
    omega
/-- A span's bytes, but for the sum. -/
def rleB (l : List Px) : List Int := formN l.length ++ encB l 0
theorem encB_run {l : List Px} {a : Nat} (h : a < l.length) (h2 : runA l a < l.length) : encB l a = formN (runA l a - a) ++ formN (runB l a - runA l a) ++ pixB l (runA l a) (runB l a - runA l a) ++ encB l (runB l a) := by
  rw [encB, dif_pos h, dif_pos h2]
theorem encB_last {l : List Px} {a : Nat} (h : a < l.length) (h2 : ¬ runA l a < l.length) : encB l a = formN (l.length - a) := by
  rw [encB, dif_pos h, dif_neg h2]
theorem encB_end {l : List Px} {a : Nat} (h : ¬ a < l.length) : encB l a = [] := by rw [encB, dif_neg h]
theorem pixB_len {l : List Px} (hm : ∀ i, i < l.length → mayAt l i) (hw : ∀ i, i < l.length → (l.getD i Px.zero).wf) (a : Nat) : ∀ k, a + k ≤ l.length → (pixB l a k).length ≤ 40 * k
  | 0, _ => by rw [pixB_0]; simp
  | k + 1, h => by
    rw [← pixB_next (by omega), List.length_append]
    have h1 := pixB_len hm hw a k (by omega)
    have h2 : (encP (l.getD (a + k) Px.zero)).length ≤ 40 := by
      have hmm := hm (a + k) (by omega)
      unfold mayAt at hmm
      have hww := hw (a + k) (by omega)
      generalize l.getD (a + k) Px.zero = p at *
      unfold encP
      obtain ⟨⟨z0, z1⟩, ⟨o0, o1⟩, ⟨t0, t1⟩, c0, c1⟩ := hww
      have f1 := formN_10 (n := 16777216) (by omega)
      have f2 := formN_10 (n := p.z.toNat) (by omega)
      have f3 := formN_10 (n := p.o.toNat) (by omega)
      have f4 := formN_10 (n := p.t.toNat) (by omega)
      have f5 := formN_10 (n := p.c.toNat) (by omega)
      split
      · omega
      · simp only [List.length_append]; omega
    omega
theorem by_app2 {a b : List Int} (ha : By a) (hb : By b) : By (a ++ b) := fun x hx => by
  rcases List.mem_append.1 hx with h | h
  · exact ha x h
  · exact hb x h
theorem encP_by2 (p : Px) : By (encP p) := by
  unfold encP
  split
  · exact formN_by _
  · exact by_app2 (by_app2 (by_app2 (formN_by _) (formN_by _)) (formN_by _)) (formN_by _)
theorem pixB_by (l : List Px) (a k : Nat) : By (pixB l a k) := fun x hx => by
  unfold pixB at hx
  rw [List.mem_flatMap] at hx
  obtain ⟨p, _, hx⟩ := hx
  exact encP_by2 p x hx
end Go.Proofs.Ytnmkpekfkfckoaa
