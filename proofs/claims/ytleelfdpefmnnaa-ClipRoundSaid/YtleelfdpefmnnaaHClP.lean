/- Package clip: what is left of a polygon: plain laws. -/
import Derived.Test.YtleelfdpefmnnaaHCl5
namespace Go.Proofs.Ytleelfdpefmnnaa
set_option maxRecDepth 20000
def eK (k : Int) : Int := if k = 0 ∨ k = 1 ∨ k = 2 then 1 else if k = 3 ∨ k = 5 then 3 else 2
theorem far1 {a b c P Q r : Int} (e : c * (P - Q) = (b - a) * P - r) : (a + c) * (P - Q) = (-Q) * a + P * b - r := by grind
theorem far0 {a b c P Q r : Int} (e : c * (P - Q) = (b - a) * P - r) : (a + c - 4096) * (P - Q) = (-Q) * (a - 4096) + P * (b - 4096) - r := by grind
theorem farM {a0 b0 c0 r0 a3 b3 c3 r3 P Q : Int} (e0 : c0 * (P - Q) = (b0 - a0) * P - r0) (e3 : c3 * (P - Q) = (b3 - a3) * P - r3) : ((a3 + c3) - (a0 + c0)) * (P - Q) = (-Q) * (a3 - a0) + P * (b3 - b0) - (r3 - r0) := by grind
theorem farP {a0 b0 c0 r0 a3 b3 c3 r3 P Q : Int} (e0 : c0 * (P - Q) = (b0 - a0) * P - r0) (e3 : c3 * (P - Q) = (b3 - a3) * P - r3) : ((a0 + c0) + 2 * (a3 + c3)) * (P - Q) = (-Q) * (a0 + 2 * a3) + P * (b0 + 2 * b3) - (r0 + 2 * r3) := by grind
theorem farN {a0 b0 c0 r0 a3 b3 c3 r3 P Q : Int} (e0 : c0 * (P - Q) = (b0 - a0) * P - r0) (e3 : c3 * (P - Q) = (b3 - a3) * P - r3) : (2 * (a3 + c3) - (a0 + c0)) * (P - Q) = (-Q) * (2 * a3 - a0) + P * (2 * b3 - b0) - (2 * r3 - r0) := by grind
theorem low {P Q fa fb F R m E : Int} (h0 : 0 ≤ P) (h1 : Q < 0) (e : F * (P - Q) = (-Q) * fa + P * fb - R) (ha : m ≤ fa) (hB : m ≤ fb) (hR : R < E * (P - Q)) : m - E < F := by
  have g1 : (-Q) * m ≤ (-Q) * fa := Int.mul_le_mul_of_nonneg_left ha (by omega)
  have g2 : P * m ≤ P * fb := Int.mul_le_mul_of_nonneg_left hB h0
  rcases Int.lt_or_le (m - E) F with h | h
  · exact h
  · exfalso
    have g3 : F * (P - Q) ≤ (m - E) * (P - Q) := Int.mul_le_mul_of_nonneg_right h (by omega)
    have g4 : (m - E) * (P - Q) = (-Q) * m + P * m - E * (P - Q) := by grind
    omega
theorem high {P Q fa fb F R m : Int} (h0 : 0 ≤ P) (h1 : Q < 0) (e : F * (P - Q) = (-Q) * fa + P * fb - R) (ha : fa ≤ m) (hB : fb ≤ m) (hR : -(P - Q) < R) : F < m + 1 := by
  have g1 : (-Q) * fa ≤ (-Q) * m := Int.mul_le_mul_of_nonneg_left ha (by omega)
  have g2 : P * fb ≤ P * m := Int.mul_le_mul_of_nonneg_left hB h0
  rcases Int.lt_or_le F (m + 1) with h | h
  · exact h
  · exfalso
    have g3 : (m + 1) * (P - Q) ≤ F * (P - Q) := Int.mul_le_mul_of_nonneg_right h (by omega)
    have g4 : (m + 1) * (P - Q) = (-Q) * m + P * m + (P - Q) := by grind
    omega
theorem cr_ds (k p : Int) (a b : Vx) (h0 : 0 ≤ a.ds p) (h1 : b.ds p < 0) : ∃ R, (a.cr p b).ds k * (a.ds p - b.ds p) = (-(b.ds p)) * a.ds k + a.ds p * b.ds k - R ∧ -(a.ds p - b.ds p) < R ∧ R < eK k * (a.ds p - b.ds p) := by
  have hC : 0 < a.ds p - b.ds p := by omega
  obtain ⟨r0, e0, l0, u0⟩ := cq_mul (b.x - a.x) (a.ds p) _ hC
  obtain ⟨r1, e1, l1, u1⟩ := cq_mul (b.y - a.y) (a.ds p) _ hC
  obtain ⟨r2, e2, l2, u2⟩ := cq_mul (b.z - a.z) (a.ds p) _ hC
  obtain ⟨r3, e3, l3, u3⟩ := cq_mul (b.q - a.q) (a.ds p) _ hC
  simp only [Vx.cr]
  generalize a.ds p = P at *
  generalize b.ds p = Q at *
  generalize cq (b.x - a.x) P (P - Q) = c0 at *
  generalize cq (b.y - a.y) P (P - Q) = c1 at *
  generalize cq (b.z - a.z) P (P - Q) = c2 at *
  generalize cq (b.q - a.q) P (P - Q) = c3 at *
  simp only [Vx.ds, dsV, eK]
  by_cases g0 : k = 0
  · simp only [if_pos g0, if_pos (show k = 0 ∨ k = 1 ∨ k = 2 by omega)]
    exact ⟨r3, far0 e3, by omega, by omega⟩
  simp only [if_neg g0]
  by_cases g1 : k = 1
  · simp only [if_pos g1, if_pos (show k = 0 ∨ k = 1 ∨ k = 2 by omega)]
    exact ⟨r2, far1 e2, by omega, by omega⟩
  simp only [if_neg g1]
  by_cases g2 : k = 2
  · simp only [if_pos g2, if_pos (show k = 0 ∨ k = 1 ∨ k = 2 by omega)]
    exact ⟨r3 - r2, farM e2 e3, by omega, by omega⟩
  simp only [if_neg g2, if_neg (show ¬ (k = 0 ∨ k = 1 ∨ k = 2) by omega)]
  by_cases g5 : k = 5
  · simp only [if_pos g5, if_pos (show k = 3 ∨ k = 5 by omega)]
    exact ⟨r1 + 2 * r3, farP e1 e3, by omega, by omega⟩
  simp only [if_neg g5]
  by_cases g3 : k = 3
  · simp only [if_pos g3, if_pos (show k = 3 ∨ k = 5 by omega)]
    exact ⟨r0 + 2 * r3, farP e0 e3, by omega, by omega⟩
  simp only [if_neg g3, if_neg (show ¬ (k = 3 ∨ k = 5) by omega)]
  by_cases g6 : k = 6
  · simp only [if_pos g6]
    exact ⟨2 * r3 - r1, farN e1 e3, by omega, by omega⟩
  simp only [if_neg g6]
  exact ⟨2 * r3 - r0, farN e0 e3, by omega, by omega⟩
theorem cut_out {k p : Int} {l : List Vx} (h : ∀ v ∈ l, v.ds k < 0) : ∀ v ∈ cutL p l, v.ds k < 0 := fun v hv => by
  obtain ⟨a, ha, b, hb, hs⟩ := cutL_mem hv
  rcases stepL_or hs with ⟨rfl, _⟩ | ⟨rfl, h0, h1⟩ | ⟨rfl, h0, h1⟩
  · exact h _ ha
  · obtain ⟨R, e, r0, _⟩ := cr_ds k p a b h0 h1
    have g1 := h _ ha
    have g2 := h _ hb
    have := high (m := -1) h0 h1 e (by omega) (by omega) r0; omega
  · obtain ⟨R, e, r0, _⟩ := cr_ds k p b a h0 h1
    have g1 := h _ ha
    have g2 := h _ hb
    have := high (m := -1) h0 h1 e (by omega) (by omega) r0; omega
theorem clipK_out {k : Int} {l : List Vx} (h : ∀ v ∈ l, v.ds k < 0) : ∀ n, ∀ v ∈ clipK l n, v.ds k < 0
  | 0 => h
  | n + 1 => cut_out (clipK_out h n)
inductive RotS : List Vx → List Vx → Prop
  | refl (l : List Vx) : RotS l l
  | step {l t : List Vx} {x : Vx} (h : RotS l (x :: t)) : RotS l (t ++ [x])
theorem RotS.trans {a b c : List Vx} (h : RotS a b) (k : RotS b c) : RotS a c := by
  induction k with
  | refl => exact h
  | step _ ih => exact .step ih
theorem RotS.app : ∀ (A B : List Vx), RotS (A ++ B) (B ++ A)
  | [], B => by simpa using RotS.refl B
  | a :: A, B => by
    have h1 : RotS (a :: A ++ B) (A ++ (B ++ [a])) := by
      have := RotS.step (RotS.refl (a :: (A ++ B)))
      rwa [List.append_assoc] at this
    have h2 := RotS.app A (B ++ [a])
    rw [List.append_assoc] at h2
    exact h1.trans h2
def go (p : Int) (h : Vx) : List Vx → List Vx
  | [] => []
  | [a] => stepL p a h
  | a :: b :: t => stepL p a b ++ go p h (b :: t)
theorem go_snoc (p : Int) (h x : Vx) : ∀ l, go p h (l ++ [x]) = go p x l ++ stepL p x h
  | [] => rfl
  | [a] => by simp [go]
  | a :: b :: t => by
    have := go_snoc p h x (b :: t)
    simp only [List.cons_append] at this
    simp only [List.cons_append, go, this, List.append_assoc]
theorem go_range (p : Int) (h : Vx) : ∀ l : List Vx, go p h l = (List.range l.length).flatMap fun i => stepL p (l.getD i Vx.zero) (if i + 1 < l.length then l.getD (i + 1) Vx.zero else h)
  | [] => rfl
  | [a] => by simp [go]
  | a :: b :: t => by
    rw [go, go_range p h (b :: t)]
    rw [show (a :: b :: t).length = (b :: t).length + 1 from rfl, List.range_succ_eq_map, List.flatMap_cons, List.flatMap_map]
    congr 1
    simp only [List.length_cons, List.getD_cons_succ, Nat.succ_eq_add_one, Nat.add_lt_add_iff_right]
theorem cutL_go (p : Int) (x : Vx) (t : List Vx) : cutL p (x :: t) = go p x (x :: t) := by
  rw [go_range, cutL, cutK, List.flatMap_def, List.flatMap_def]
  refine congrArg List.flatten (List.map_congr_left fun i hi => ?_)
  have hi' := List.mem_range.1 hi
  unfold nxt
  by_cases h : i + 1 < (x :: t).length
  · rw [if_pos h, Nat.mod_eq_of_lt h]
  · rw [if_neg h, show i + 1 = (x :: t).length by omega, Nat.mod_self]; rfl
theorem cutL_rot1 (p : Int) (x : Vx) : ∀ t : List Vx, RotS (cutL p (x :: t)) (cutL p (t ++ [x]))
  | [] => .refl _
  | y :: t => by
    have e1 := cutL_go p x (y :: t)
    have e2 := cutL_go p y (t ++ [x])
    rw [show y :: (t ++ [x]) = (y :: t) ++ [x] from rfl, go_snoc] at e2
    rw [go] at e1
    rw [show (y :: t) ++ [x] = y :: (t ++ [x]) from rfl] at e2 ⊢
    rw [e1, e2]
    exact RotS.app _ _
theorem cutL_rot (p : Int) {l m : List Vx} (h : RotS l m) : RotS (cutL p l) (cutL p m) := by
  induction h with
  | refl => exact .refl _
  | step _ ih => exact ih.trans (cutL_rot1 p _ _)
theorem clipK_rot {l m : List Vx} (h : RotS l m) : ∀ n, RotS (clipK l n) (clipK m n)
  | 0 => h
  | n + 1 => cutL_rot n (clipK_rot h n)
theorem RotS.at_ {l m : List Vx} (h : RotS l m) : m.length = l.length ∧ (0 < l.length → ∃ k, k < l.length ∧ ∀ i, i < l.length → m.getD i Vx.zero = l.getD ((i + k) % l.length) Vx.zero) := by
  induction h with
  | refl => exact ⟨rfl, fun h0 => ⟨0, h0, fun i hi => by rw [Nat.add_zero, Nat.mod_eq_of_lt hi]⟩⟩
  | @step t x h ih =>
    obtain ⟨h1, h2⟩ := ih
    refine ⟨by rw [List.length_append]; simpa using h1, fun h0 => ?_⟩
    obtain ⟨k, hk, h3⟩ := h2 h0
    refine ⟨(k + 1) % l.length, Nat.mod_lt _ h0, fun i hi => ?_⟩
    have e : (t ++ [x]).getD i Vx.zero = (x :: t).getD ((i + 1) % l.length) Vx.zero := by
      simp only [List.length_cons] at h1
      rcases Nat.lt_or_ge (i + 1) l.length with h4 | h4
      · rw [Nat.mod_eq_of_lt h4, List.getD_cons_succ]
        simp only [List.getD_eq_getElem?_getD]
        rw [List.getElem?_append_left (by omega)]
      · rw [show i + 1 = l.length by omega, Nat.mod_self]
        simp only [List.getD_eq_getElem?_getD]
        rw [List.getElem?_append_right (by omega), show i - t.length = 0 by omega]; rfl
    rw [e, h3 _ (Nat.mod_lt _ h0), Nat.mod_add_mod, Nat.add_mod_mod, Nat.add_assoc, Nat.add_comm 1 k]
theorem tri_rot (a b c : Vx) (n : Nat) : RotS (clipK [a, b, c] n) (clipK [b, c, a] n) := clipK_rot (.step (.refl _)) n
end Go.Proofs.Ytleelfdpefmnnaa
