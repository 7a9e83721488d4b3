/- Package clip: what is left of a polygon: plain laws. -/
import Derived.Test.YthclhmdgfekaeaaHCl5
namespace Go.Proofs.Ythclhmdgfekaeaa
set_option maxRecDepth 20000
def eK (k : Int) : Int := if k = 0 ∨ k = 1 ∨ k = 2 then 1 else if k = 3 ∨ k = 5 then 3 else 2
theorem far1 {a b c P Q r : Int} (e : c * (P - Q) = (b - a) * P - r) : (a + c) * (P - Q) = (-Q) * a + P * b - r := by grind
theorem far0 {a b c P Q r : Int} (e : c * (P - Q) = (b - a) * P - r) : (a + c - 4096) * (P - Q) = (-Q) * (a - 4096) + P * (b - 4096) - r := by grind
theorem farM {a0 b0 c0 r0 a3 b3 c3 r3 P Q : Int} (e0 : c0 * (P - Q) = (b0 - a0) * P - r0) (e3 : c3 * (P - Q) = (b3 - a3) * P - r3) : ((a3 + c3) - (a0 + c0)) * (P - Q) = (-Q) * (a3 - a0) + P * (b3 - b0) - (r3 - r0) := by grind
theorem farP {a0 b0 c0 r0 a3 b3 c3 r3 P Q : Int} (e0 : c0 * (P - Q) = (b0 - a0) * P - r0) (e3 : c3 * (P - Q) = (b3 - a3) * P - r3) : ((a0 + c0) + 2 * (a3 + c3)) * (P - Q) = (-Q) * (a0 + 2 * a3) + P * (b0 + 2 * b3) - (r0 + 2 * r3) := by grind
theorem farN {a0 b0 c0 r0 a3 b3 c3 r3 P Q : Int} (e0 : c0 * (P - Q) = (b0 - a0) * P - r0) (e3 : c3 * (P - Q) = (b3 - a3) * P - r3) : (2 * (a3 + c3) - (a0 + c0)) * (P - Q) = (-Q) * (2 * a3 - a0) + P * (2 * b3 - b0) - (2 * r3 - r0) := by grind
theorem low {P Q fa fb F R m E : Int} (h0 : 0 ≤ P) (h1 : Q < 0) (e : F * (P - Q) = (-Q) * fa + P * fb - R) (ha : m ≤ fa) (hB : m ≤ fb) (hR : R < E * (P - Q)) : m - E < F := by
  have g1 : (-Q) * m ≤ (-Q) * fa := Int.mul_le_mul_of_nonneg_left ha (by omega)
  have g2 : P * m ≤ P * fb := Int.mul_le_mul_of_nonneg_left hB h0
  rcases Int.lt_or_le (m - E) F with h | h
  · exact h
  · exfalso
    have g3 : F * (P - Q) ≤ (m - E) * (P - Q) := Int.mul_le_mul_of_nonneg_right h (by omega)
    have g4 : (m - E) * (P - Q) = (-Q) * m + P * m - E * (P - Q) := by grind
    omega
theorem high {P Q fa fb F R m : Int} (h0 : 0 ≤ P) (h1 : Q < 0) (e : F * (P - Q) = (-Q) * fa + P * fb - R) (ha : fa ≤ m) (hB : fb ≤ m) (hR : -(P - Q) < R) : F < m + 1 := by
  have g1 : (-Q) * fa ≤ (-Q) * m := Int.mul_le_mul_of_nonneg_left ha (by omega)
  have g2 : P * fb ≤ P * m := Int.mul_le_mul_of_nonneg_left hB h0
  rcases Int.lt_or_le F (m + 1) with h | h
  · exact h
  · exfalso
    have g3 : (m + 1) * (P - Q) ≤ F * (P - Q) := Int.mul_le_mul_of_nonneg_right h (by omega)
    have g4 : (m + 1) * (P - Q) = (-Q) * m + P * m + (P - Q) := by grind
    omega
theorem cr_ds (k p : Int) (a b : Vx) (h0 : 0 ≤ a.ds p) (h1 : b.ds p < 0) : ∃ R, (a.cr p b).ds k * (a.ds p - b.ds p) = (-(b.ds p)) * a.ds k + a.ds p * b.ds k - R ∧ -(a.ds p - b.ds p) < R ∧ R < eK k * (a.ds p - b.ds p) := by
  have hC : 0 < a.ds p - b.ds p := by omega
  obtain ⟨r0, e0, l0, u0⟩ := cq_mul (b.x - a.x) (a.ds p) _ hC
  obtain ⟨r1, e1, l1, u1⟩ := cq_mul (b.y - a.y) (a.ds p) _ hC
  obtain ⟨r2, e2, l2, u2⟩ := cq_mul (b.z - a.z) (a.ds p) _ hC
  obtain ⟨r3, e3, l3, u3⟩ := cq_mul (b.q - a.q) (a.ds p) _ hC
  simp only [Vx.cr]
  generalize a.ds p = P at *
  generalize b.ds p = Q at *
  generalize cq (b.x - a.x) P (P - Q) = c0 at *
  generalize cq (b.y - a.y) P (P - Q) = c1 at *
  generalize cq (b.z - a.z) P (P - Q) = c2 at *
  generalize cq (b.q - a.q) P (P - Q) = c3 at *
  simp only [Vx.ds, dsV, eK]
  by_cases g0 : k = 0
  · simp only [if_pos g0, if_pos (show k = 0 ∨ k = 1 ∨ k = 2 by omega)]
    exact ⟨r3, far0 e3, by omega, by omega⟩
  simp only [if_neg g0]
  by_cases g1 : k = 1
  · simp only [if_pos g1, if_pos (show k = 0 ∨ k = 1 ∨ k = 2 by omega)]
    exact ⟨r2, far1 e2, by omega, by omega⟩
  simp only [if_neg g1]
  by_cases g2 : k = 2
  · simp only [if_pos g2, if_pos (show k = 0 ∨ k = 1 ∨ k = 2 by omega)]
    exact ⟨r3 - r2, farM e2 e3, by omega, by omega⟩
  simp only [if_neg g2, if_neg (show ¬ (k = 0 ∨ k = 1 ∨ k = 2) by omega)]
  by_cases g5 : k = 5
  · simp only [if_pos g5, if_pos (show k = 3 ∨ k = 5 by omega)]
    exact ⟨r1 + 2 * r3, farP e1 e3, by omega, by omega⟩
  simp only [if_neg g5]
  by_cases g3 : k = 3
  · simp only [if_pos g3, if_pos (show k = 3 ∨ k = 5 by omega)]
    exact ⟨r0 + 2 * r3, farP e0 e3, by omega, by omega⟩
  simp only [if_neg g3, if_neg (show ¬ (k = 3 ∨ k = 5) by omega)]
  by_cases g6 : k = 6
  · simp only [if_pos g6]
    exact ⟨2 * r3 - r1, farN e1 e3, by omega, by omega⟩
  simp only [if_neg g6]
  exact ⟨2 * r3 - r0, farN e0 e3, by omega, by omega⟩
theorem eK_pos (k : Int) : 1 ≤ eK k ∧ eK k ≤ 3 := by
  unfold eK
  repeat' split
  all_goals omega
/-- How far below a plane what is left may lie. -/
theorem cut_low {k p m : Int} {l : List Vx} (h : ∀ v ∈ l, m ≤ v.ds k) : ∀ v ∈ cutL p l, m - eK k + 1 ≤ v.ds k := fun v hv => by
  have he := eK_pos k
  obtain ⟨a, ha, b, hb, hs⟩ := cutL_mem hv
  rcases stepL_or hs with ⟨rfl, _⟩ | ⟨rfl, h0, h1⟩ | ⟨rfl, h0, h1⟩
  · have := h _ ha; omega
  · obtain ⟨R, e, _, r1⟩ := cr_ds k p a b h0 h1
    have := low h0 h1 e (h _ ha) (h _ hb) r1; omega
  · obtain ⟨R, e, _, r1⟩ := cr_ds k p b a h0 h1
    have := low h0 h1 e (h _ hb) (h _ ha) r1; omega
theorem cut_own (p : Int) (l : List Vx) : ∀ v ∈ cutL p l, 0 - eK p + 1 ≤ v.ds p := fun v hv => by
  have he := eK_pos p
  obtain ⟨a, ha, b, hb, hs⟩ := cutL_mem hv
  rcases stepL_or hs with ⟨rfl, h0⟩ | ⟨rfl, h0, h1⟩ | ⟨rfl, h0, h1⟩
  · omega
  · obtain ⟨R, e, _, r1⟩ := cr_ds p p a b h0 h1
    have e' : (a.cr p b).ds p * (a.ds p - b.ds p) = (-(b.ds p)) * 0 + a.ds p * 0 - R := by rw [e]; grind
    have := low h0 h1 e' (Int.le_refl 0) (Int.le_refl 0) r1; omega
  · obtain ⟨R, e, _, r1⟩ := cr_ds p p b a h0 h1
    have e' : (b.cr p a).ds p * (b.ds p - a.ds p) = (-(a.ds p)) * 0 + b.ds p * 0 - R := by rw [e]; grind
    have := low h0 h1 e' (Int.le_refl 0) (Int.le_refl 0) r1; omega
theorem cut_out {k p : Int} {l : List Vx} (h : ∀ v ∈ l, v.ds k < 0) : ∀ v ∈ cutL p l, v.ds k < 0 := fun v hv => by
  obtain ⟨a, ha, b, hb, hs⟩ := cutL_mem hv
  rcases stepL_or hs with ⟨rfl, _⟩ | ⟨rfl, h0, h1⟩ | ⟨rfl, h0, h1⟩
  · exact h _ ha
  · obtain ⟨R, e, r0, _⟩ := cr_ds k p a b h0 h1
    have g1 := h _ ha
    have g2 := h _ hb
    have := high (m := -1) h0 h1 e (by omega) (by omega) r0; omega
  · obtain ⟨R, e, r0, _⟩ := cr_ds k p b a h0 h1
    have g1 := h _ ha
    have g2 := h _ hb
    have := high (m := -1) h0 h1 e (by omega) (by omega) r0; omega
theorem clipK_out {k : Int} {l : List Vx} (h : ∀ v ∈ l, v.ds k < 0) : ∀ n, ∀ v ∈ clipK l n, v.ds k < 0
  | 0 => h
  | n + 1 => cut_out (clipK_out h n)
/-- Behind plane k, and m planes more. -/
theorem clip_low (l : List Vx) (k : Nat) : ∀ m : Nat, ∀ v ∈ clipK l (k + 1 + m), (1 - eK k) * (m + 1) ≤ v.ds k
  | 0 => fun v hv => by
    have := cut_own k (clipK l k) v hv
    simp only [Int.natCast_zero, Int.zero_add, Int.mul_one]; omega
  | m + 1 => fun v hv => by
    have := cut_low (clip_low l k m) v hv
    have e : (1 - eK k) * ((m + 1 : Nat) + 1 : Int) = (1 - eK k) * (m + 1) + (1 - eK k) := by rw [Int.mul_add]; simp
    rw [e]; omega
theorem clip_good (l : List Vx) : ∀ v ∈ clipK l 7, 4096 ≤ v.q ∧ 0 ≤ v.z ∧ v.z ≤ v.q ∧ v.x ≤ 2 * v.q + 16 ∧ -2 * v.q - 16 ≤ v.x ∧ v.y ≤ 2 * v.q + 16 ∧ -2 * v.q - 16 ≤ v.y := fun v hv => by
  have k0 := clip_low l 0 6 v hv
  have k1 := clip_low l 1 5 v hv
  have k2 := clip_low l 2 4 v hv
  have k3 := clip_low l 3 3 v hv
  have k4 := clip_low l 4 2 v hv
  have k5 := clip_low l 5 1 v hv
  have k6 := clip_low l 6 0 v hv
  simp only [eK, Vx.ds, dsV] at k0 k1 k2 k3 k4 k5 k6
  simp at k0 k1 k2 k3 k4 k5 k6
  omega
inductive RotS : List Vx → List Vx → Prop
  | refl (l : List Vx) : RotS l l
  | step {l t : List Vx} {x : Vx} (h : RotS l (x :: t)) : RotS l (t ++ [x])
theorem RotS.trans {a b c : List Vx} (h : RotS a b) (k : RotS b c) : RotS a c := by
  induction k with
  | refl => exact h
  | step _ ih => exact .step ih
theorem RotS.app : ∀ (A B : List Vx), RotS (A ++ B) (B ++ A)
  | [], B => by simpa using RotS.refl B
  | a :: A, B => by
    have h1 : RotS (a :: A ++ B) (A ++ (B ++ [a])) := by
      have := RotS.step (RotS.refl (a :: (A ++ B)))
      rwa [List.append_assoc] at this
    have h2 := RotS.app A (B ++ [a])
    rw [List.append_assoc] at h2
    exact h1.trans h2
end Go.Proofs.Ythclhmdgfekaeaa
