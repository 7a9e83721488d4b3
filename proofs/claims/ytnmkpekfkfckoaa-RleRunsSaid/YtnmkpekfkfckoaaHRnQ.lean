/- Runs that rise, and are apart; how many bytes: plain laws. -/
import Derived.Test.YtnmkpekfkfckoaaHRlL
namespace Go.Proofs.Ytnmkpekfkfckoaa
open Go.RowKit EV
set_option maxRecDepth 20000
theorem run_emp {l : List Px} {q i : Nat} (h1 : q ≤ i) (h2 : i < runA l q) : (l.getD i Px.zero).z = 16777216 := by
  have := skipE_in (l.drop q) (i - q) (by unfold runA at h2; omega)
  rwa [drop_getD, show q + (i - q) = i by omega] at this
theorem run_set {l : List Px} {q i : Nat} (h1 : runA l q ≤ i) (h2 : i < runB l q) : ¬ (l.getD i Px.zero).z = 16777216 := by
  have := skipS_in (l.drop (runA l q)) (i - runA l q) (by unfold runB at h2; omega)
  rwa [drop_getD, show runA l q + (i - runA l q) = i by omega] at this
theorem run_end {l : List Px} {q : Nat} (h : runB l q < l.length) : (l.getD (runB l q) Px.zero).z = 16777216 := by
  have := skipS_at (l.drop (runA l q)) (by rw [List.length_drop]; unfold runB at h; omega)
  rwa [drop_getD] at this
theorem setN_emps {l : List Px} {a : Nat} : ∀ k, a + k ≤ l.length → (∀ i, a ≤ i → i < a + k → (l.getD i Px.zero).z = 16777216) → setN l (a + k) = setN l a
  | 0, _, _ => rfl
  | k + 1, h, he => by
    have h1 := setN_emps k (by omega) (fun i a b => he i a (by omega))
    have h2 := setN_n (l := l) (i := a + k) (by omega) (he _ (by omega) (by omega))
    rw [← Nat.add_assoc]; omega
theorem setN_sets {l : List Px} {a : Nat} : ∀ k, a + k ≤ l.length → (∀ i, a ≤ i → i < a + k → ¬ (l.getD i Px.zero).z = 16777216) → setN l (a + k) = setN l a + k
  | 0, _, _ => rfl
  | k + 1, h, he => by
    have h1 := setN_sets k (by omega) (fun i a b => he i a (by omega))
    have h2 := setN_y (l := l) (i := a + k) (by omega) (he _ (by omega) (by omega))
    rw [← Nat.add_assoc]; omega
theorem setN_run {l : List Px} {q : Nat} (h0 : q ≤ l.length) (h : runA l q < l.length) : setN l (runB l q) = setN l q + (runB l q - runA l q) := by
  have h1 := runA_le h0
  have h2 := runB_gt h
  have e1 := setN_emps (l := l) (a := q) (runA l q - q) (by omega) (fun i a b => run_emp a (by omega))
  have e2 := setN_sets (l := l) (a := runA l q) (runB l q - runA l q) (by omega) (fun i a b => run_set a (by omega))
  rw [show q + (runA l q - q) = runA l q by omega] at e1
  rw [show runA l q + (runB l q - runA l q) = runB l q by omega] at e2
  omega
theorem setN_rest {l : List Px} {q : Nat} (h0 : q ≤ l.length) (h : ¬ runA l q < l.length) : setN l l.length = setN l q := by
  have h1 := runA_le h0
  have e1 := setN_emps (l := l) (a := q) (l.length - q) (by omega) (fun i a b => run_emp a (by omega))
  rwa [show q + (l.length - q) = l.length by omega] at e1
/-- How far the law has got with the runs. -/
structure RI (l : List Px) (i q : Nat) (p : Int) (s : Nat) : Prop where
  d : (runsR l 0).drop i = runsR l q
  q1 : q ≤ l.length
  s1 : s = setN l q
  p1 : (p = -1 ∧ q = 0) ∨ (p = q ∧ (q < l.length → (l.getD q Px.zero).z = 16777216))
  i1 : i ≤ (runsR l 0).length
theorem RI.zero (l : List Px) : RI l 0 0 (-1) 0 := ⟨rfl, Nat.zero_le _, rfl, .inl ⟨rfl, rfl⟩, Nat.zero_le _⟩
theorem runsR_nil {l : List Px} {q : Nat} (h0 : q ≤ l.length) (h : runsR l q = []) : ¬ runA l q < l.length := fun hr => by
  rw [runsR_some h0 hr] at h; cases h
theorem RI.last {l : List Px} {i q s : Nat} {p : Int} (h : RI l i q p s) (hi : i = (runsR l 0).length) : s = setN l l.length := by
  have hd := h.d
  rw [hi, List.drop_length] at hd
  rw [setN_rest h.q1 (runsR_nil h.q1 hd.symm)]; exact h.s1
theorem RI.next {l : List Px} {i q s : Nat} {p : Int} (h : RI l i q p s) (hi : i < (runsR l 0).length) :
    ∃ A B : Nat, (runsR l 0).getD i (0, 0) = (A, B) ∧ p < A ∧ A < B ∧ B ≤ l.length ∧ (B < l.length → (l.getD B Px.zero).z = 16777216) ∧ (∀ k, A ≤ k → k < B → ¬ (l.getD k Px.zero).z = 16777216) ∧ RI l (i + 1) B (B : Int) (s + (B - A)) := by
  have hd := h.d
  rw [List.drop_eq_getElem_cons hi] at hd
  by_cases hr : runA l q < l.length
  · rw [runsR_some h.q1 hr] at hd
    obtain ⟨e1, e2⟩ := List.cons.inj hd
    have h1 := runA_le h.q1
    have h2 := runB_gt hr
    have hs := setN_run h.q1 hr
    have h0 := h.s1
    refine ⟨runA l q, runB l q, ?_, ?_, h2.1, h2.2, run_end, fun k a b => run_set a b, ⟨e2, h2.2, by omega, .inr ⟨rfl, run_end⟩, hi⟩⟩
    · rw [List.getD_eq_getElem?_getD, List.getElem?_eq_getElem hi]; exact e1
    · rcases h.p1 with ⟨p1, _⟩ | ⟨p1, p2⟩
      · omega
      · have : q ≠ runA l q := fun e => runA_set hr (by rw [← e]; exact p2 (by omega))
        omega
  · rw [runsR_none hr] at hd; cases hd
theorem form2 {n : Nat} (h : n < 16384) : (formN n).length ≤ 2 := formN_len 1 (by omega)
theorem encP_13 {p : Px} (hm : p.may) (hw : p.wf) : (encP p).length ≤ 13 := by
  rcases px_nat hm hw with rfl | ⟨z, o, t, c, rfl, hz, ho, ht, hc⟩
  · have : (formN 16777216).length ≤ 4 := formN_len 3 (by omega)
    rw [encP_e]; omega
  · rw [encP_n hz]
    have l1 : (formN z).length ≤ 4 := formN_len 3 (by omega)
    have l2 : (formN o).length ≤ 3 := formN_len 2 (by omega)
    have l3 : (formN t).length ≤ 1 := formN_len 0 (by omega)
    have l4 : (formN c).length ≤ 5 := formN_len 4 (by omega)
    simp only [List.length_append]; omega
theorem pixB_13 {l : List Px} (hg : Gd l) (a : Nat) : ∀ k, a + k ≤ l.length → (pixB l a k).length ≤ 13 * k
  | 0, _ => by rw [pixB_0]; simp
  | k + 1, h => by
    rw [← pixB_next (by omega), List.length_append]
    have h1 := pixB_13 hg a k (by omega)
    have h2 := encP_13 (hg.sp.2 (a + k) (by omega)) (hg.wf (a + k) (by omega))
    omega
theorem encB_17 {l : List Px} (hg : Gd l) : ∀ (k a : Nat), l.length - a ≤ k → a ≤ l.length → (encB l a).length + 17 * setN l a ≤ 2 + 17 * setN l l.length
  | 0, a, h, h0 => by rw [encB_end (by omega), show a = l.length by omega]; simp
  | k + 1, a, h, h0 => by
    have hl := hg.sp.1
    have h1 := runA_le h0
    by_cases ha : a < l.length
    · by_cases hr : runA l a < l.length
      · have h2 := runB_gt hr
        have := encB_17 hg k (runB l a) (by omega) h2.2
        have hs := setN_run h0 hr
        have f1 := form2 (n := runA l a - a) (by omega)
        have f2 := form2 (n := runB l a - runA l a) (by omega)
        have f3 := pixB_13 hg (runA l a) (runB l a - runA l a) (by omega)
        rw [encB_run ha hr]; simp only [List.length_append]; omega
      · have f1 := form2 (n := l.length - a) (by omega)
        have := setN_rest h0 hr
        rw [encB_last ha hr]; omega
    · rw [encB_end ha, show a = l.length by omega]; simp
theorem rle_17 {l : List Px} (hg : Gd l) : (sealL (rleB l)).length ≤ 8 + 17 * setN l l.length := by
  have hl := hg.sp.1
  have f1 := form2 (n := l.length) (by omega)
  have := encB_17 hg l.length 0 (by omega) (by omega)
  have h0 : setN l 0 = 0 := rfl
  rw [seal_len, rleB, List.length_append]; omega
end Go.Proofs.Ytnmkpekfkfckoaa
