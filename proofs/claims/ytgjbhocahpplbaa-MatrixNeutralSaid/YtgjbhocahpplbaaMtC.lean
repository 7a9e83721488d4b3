/- MatrixNeutral: what products with the identity are; a product's other way about; the walk of the law. -/
import Derived.Test.YtgjbhocahpplbaaMtA
namespace Go.Proofs.Ytgjbhocahpplbaa
set_option linter.unusedSimpArgs false
set_option linter.unusedVariables false
open Go.RowKit EV
open SX (Wr Tv Qu Rm Sh Is conjP eqs_iff eqs_false)
open EW (PlL PlT PlV PlVs LfV Mm Bt Opn GV YT lpOf nums)
set_option maxRecDepth 20000
abbrev MX : Int := 4611686018427387904
def Wm (n : Nat) (m : List Int) : Prop := ∀ k, k < n → -4611686018427387904 ≤ m.getD k 0 ∧ m.getD k 0 ≤ 4611686018427387904
theorem within_W {m : List Int} (lm : m.length = 16) : within 4611686018427387904 m ↔ Wm 16 m := by
  rw [within_good (by omega), lm]
  constructor
  · intro h k hk; exact (h k hk).2
  · intro h k hk; exact ⟨by omega, h k hk⟩
theorem vec_get {v : List Int} (lv : v.length = 4) {k : Nat} (hk : k < 16) : (vec16 v).getD k 0 = if k < 4 then v.getD k 0 else 0 := by
  obtain ⟨a, b, c, d, rfl⟩ := len4 lv
  have : k = 0 ∨ k = 1 ∨ k = 2 ∨ k = 3 ∨ 4 ≤ k := by omega
  rcases this with rfl | rfl | rfl | rfl | h
  · rfl
  · rfl
  · rfl
  · rfl
  · rw [if_neg (by omega), vec16, List.getD_eq_getElem?_getD, List.getElem?_append_right (by simp; omega)]
    have : k - [a, b, c, d].length < 12 := by simp; omega
    generalize k - [a, b, c, d].length = j at *
    have : j = 0 ∨ j = 1 ∨ j = 2 ∨ j = 3 ∨ j = 4 ∨ j = 5 ∨ j = 6 ∨ j = 7 ∨ j = 8 ∨ j = 9 ∨ j = 10 ∨ j = 11 := by omega
    rcases this with rfl | rfl | rfl | rfl | rfl | rfl | rfl | rfl | rfl | rfl | rfl | rfl <;> rfl
theorem within_V {v : List Int} (lv : v.length = 4) : within 4611686018427387904 (vec16 v) ↔ Wm 4 v := by
  rw [within_W (by simp [vec16, lv])]
  constructor
  · intro h k hk
    have := h k (by omega)
    rwa [vec_get lv (by omega), if_pos hk] at this
  · intro h k hk
    rw [vec_get lv hk]
    split
    · exact h k (by assumption)
    · omega
theorem col_get {b : List Int} {c j : Nat} (hj : j < 4) : (col b c).getD j 0 = b.getD (j * 4 + c) 0 := by
  have : j = 0 ∨ j = 1 ∨ j = 2 ∨ j = 3 := by omega
  rcases this with rfl | rfl | rfl | rfl
  · show b.getD c 0 = _; congr 1; omega
  · rfl
  · rfl
  · rfl
theorem mulOk_iff {a b : List Int} (la : a.length = 16) (lb : b.length = 16) : mulOk a b ↔ Wm 16 a ∧ Wm 16 b ∧ ∀ r, r < 4 → ∀ c, c < 4 → okQ (dq (row a r) (col b c)) := by
  constructor
  · intro h
    refine ⟨(within_W la).1 (h 0 (by omega)).1, fun k hk => ?_, fun r hr c hc => (h c hc).2.2 r hr⟩
    have := (within_V (v := col b (k % 4)) rfl).1 (h (k % 4) (by omega)).2.1 (k / 4) (by omega)
    rwa [col_get (by omega), show k / 4 * 4 + k % 4 = k by omega] at this
  · rintro ⟨h1, h2, h3⟩ c hc
    refine ⟨(within_W la).2 h1, (within_V (v := col b c) rfl).2 fun k hk => ?_, fun r hr => h3 r hr c hc⟩
    rw [col_get hk]; exact h2 _ (by omega)
theorem dq_get (r v : List Int) : dq r v = (r.getD 0 0 * v.getD 0 0 + r.getD 1 0 * v.getD 1 0 + r.getD 2 0 * v.getD 2 0 + r.getD 3 0 * v.getD 3 0) / 65536 := by
  unfold dq; simp only [pd]; congr 1; omega
theorem dq_comm (r v : List Int) : dq r v = dq v r := by
  rw [dq_get, dq_get, Int.mul_comm (r.getD 0 0), Int.mul_comm (r.getD 1 0), Int.mul_comm (r.getD 2 0), Int.mul_comm (r.getD 3 0)]
theorem dq_one (a : List Int) {r c : Nat} (hr : r < 4) (hc : c < 4) : dq (row a r) (col idL c) = a.getD (r * 4 + c) 0 := by
  rw [dq_get, row_get (by omega), row_get (by omega), row_get (by omega), row_get (by omega)]
  have : c = 0 ∨ c = 1 ∨ c = 2 ∨ c = 3 := by omega
  rcases this with rfl | rfl | rfl | rfl
  · show (a.getD (r * 4 + 0) 0 * 65536 + a.getD (r * 4 + 1) 0 * 0 + a.getD (r * 4 + 2) 0 * 0 + a.getD (r * 4 + 3) 0 * 0) / 65536 = _; omega
  · show (a.getD (r * 4 + 0) 0 * 0 + a.getD (r * 4 + 1) 0 * 65536 + a.getD (r * 4 + 2) 0 * 0 + a.getD (r * 4 + 3) 0 * 0) / 65536 = _; omega
  · show (a.getD (r * 4 + 0) 0 * 0 + a.getD (r * 4 + 1) 0 * 0 + a.getD (r * 4 + 2) 0 * 65536 + a.getD (r * 4 + 3) 0 * 0) / 65536 = _; omega
  · show (a.getD (r * 4 + 0) 0 * 0 + a.getD (r * 4 + 1) 0 * 0 + a.getD (r * 4 + 2) 0 * 0 + a.getD (r * 4 + 3) 0 * 65536) / 65536 = _; omega
theorem row_id {r : Nat} (hr : r < 4) : row idL r = col idL r := by
  have : r = 0 ∨ r = 1 ∨ r = 2 ∨ r = 3 := by omega
  rcases this with rfl | rfl | rfl | rfl <;> rfl
theorem dq_id (v : List Int) {r : Nat} (hr : r < 4) : dq (row idL r) v = v.getD r 0 := by
  rw [dq_get]
  have : r = 0 ∨ r = 1 ∨ r = 2 ∨ r = 3 := by omega
  rcases this with rfl | rfl | rfl | rfl
  · show (65536 * v.getD 0 0 + 0 * v.getD 1 0 + 0 * v.getD 2 0 + 0 * v.getD 3 0) / 65536 = _; omega
  · show (0 * v.getD 0 0 + 65536 * v.getD 1 0 + 0 * v.getD 2 0 + 0 * v.getD 3 0) / 65536 = _; omega
  · show (0 * v.getD 0 0 + 0 * v.getD 1 0 + 65536 * v.getD 2 0 + 0 * v.getD 3 0) / 65536 = _; omega
  · show (0 * v.getD 0 0 + 0 * v.getD 1 0 + 0 * v.getD 2 0 + 65536 * v.getD 3 0) / 65536 = _; omega
theorem id_W : Wm 16 idL := (within_W rfl).1 (by decide)
theorem eq_of_get {l m : List Int} (n : Nat) (hl : l.length = n) (hm : m.length = n) (h : ∀ k, k < n → l.getD k 0 = m.getD k 0) : l = m := by
  apply List.ext_getElem (by rw [hl, hm])
  intro i h1 h2
  have := h i (by omega)
  rwa [List.getD_eq_getElem?_getD, List.getD_eq_getElem?_getD, List.getElem?_eq_getElem h1, List.getElem?_eq_getElem h2] at this
theorem mulV_one {a : List Int} (la : a.length = 16) : (mulOk a idL ↔ Wm 16 a) ∧ (Wm 16 a → mulV a idL = a) := by
  have h1 : mulOk a idL ↔ Wm 16 a := by
    rw [mulOk_iff la rfl]
    refine ⟨fun h => h.1, fun h => ⟨h, id_W, fun r hr c hc => ?_⟩⟩
    rw [dq_one a hr hc]; exact h _ (by omega)
  refine ⟨h1, fun h => ?_⟩
  rw [mulV, if_pos (h1.2 h)]
  refine eq_of_get 16 (outP_len _ _ _) la fun k hk => ?_
  rw [outP_get _ _ hk, if_pos rfl, mulF, dq_one a (by omega) (by omega), show k / 4 * 4 + k % 4 = k by omega]
theorem mulV_id {a : List Int} (la : a.length = 16) : (mulOk idL a ↔ Wm 16 a) ∧ (Wm 16 a → mulV idL a = a) := by
  have h1 : mulOk idL a ↔ Wm 16 a := by
    rw [mulOk_iff rfl la]
    refine ⟨fun h => h.2.1, fun h => ⟨id_W, h, fun r hr c hc => ?_⟩⟩
    rw [dq_id _ hr, col_get hr]; exact h _ (by omega)
  refine ⟨h1, fun h => ?_⟩
  rw [mulV, if_pos (h1.2 h)]
  refine eq_of_get 16 (outP_len _ _ _) la fun k hk => ?_
  rw [outP_get _ _ hk, if_pos rfl, mulF, dq_id _ (by omega), col_get (by omega), show k / 4 * 4 + k % 4 = k by omega]
theorem col_across {l : List Int} (ll : l.length = 16) {c : Nat} (hc : c < 4) : col (acrossL l) c = row l c := by
  refine eq_of_get 4 rfl (row_len hc ll) fun k hk => ?_
  rw [col_get hk, across_get (by omega), row_get hk, show (k * 4 + c) % 4 * 4 + (k * 4 + c) / 4 = c * 4 + k by omega]
theorem across_len (l : List Int) : (acrossL l).length = 16 := outP_len _ _ _
theorem across_W {l : List Int} : Wm 16 (acrossL l) ↔ Wm 16 l := by
  constructor
  · intro h k hk
    have := h (k % 4 * 4 + k / 4) (by omega)
    rwa [across_get (by omega), show (k % 4 * 4 + k / 4) % 4 * 4 + (k % 4 * 4 + k / 4) / 4 = k by omega] at this
  · intro h k hk; rw [across_get hk]; exact h _ (by omega)
theorem mul_across {a b : List Int} (la : a.length = 16) (lb : b.length = 16) : (mulOk (acrossL b) (acrossL a) ↔ mulOk a b) ∧ (mulOk a b → acrossL (mulV a b) = mulV (acrossL b) (acrossL a)) := by
  have hE : ∀ r, r < 4 → ∀ c, c < 4 → dq (row (acrossL b) r) (col (acrossL a) c) = dq (row a c) (col b r) := fun r hr c hc => by
    rw [row_across hr, col_across la hc, dq_comm]
  have h1 : mulOk (acrossL b) (acrossL a) ↔ mulOk a b := by
    rw [mulOk_iff (across_len b) (across_len a), mulOk_iff la lb, across_W, across_W]
    constructor
    · rintro ⟨h1, h2, h3⟩
      exact ⟨h2, h1, fun r hr c hc => by rw [← hE c hc r hr]; exact h3 c hc r hr⟩
    · rintro ⟨h1, h2, h3⟩
      exact ⟨h2, h1, fun r hr c hc => by rw [hE r hr c hc]; exact h3 c hc r hr⟩
  refine ⟨h1, fun h => ?_⟩
  rw [mulV, mulV, if_pos h, if_pos (h1.2 h)]
  refine eq_of_get 16 (outP_len _ _ _) (outP_len _ _ _) fun k hk => ?_
  rw [across_get hk, outP_get _ _ (by omega), outP_get _ _ hk, if_pos rfl, if_pos rfl, mulF, mulF, hE _ (by omega) _ (by omega), show (k % 4 * 4 + k / 4) / 4 = k % 4 by omega, show (k % 4 * 4 + k / 4) % 4 = k / 4 by omega]
theorem app_one {v : List Int} (lv : v.length = 4) : (appOk idL v ↔ Wm 4 v) ∧ (Wm 4 v → appV idL v = v) := by
  have h1 : appOk idL v ↔ Wm 4 v := by
    refine ⟨fun h => (within_V lv).1 h.2.1, fun h => ⟨(within_W rfl).2 id_W, (within_V lv).2 h, fun i hi => ?_⟩⟩
    show okQ (dq _ _)
    rw [dq_id _ hi]; exact h i hi
  refine ⟨h1, fun h => ?_⟩
  rw [appV, if_pos (h1.2 h)]
  refine eq_of_get 4 (outP_len _ _ _) lv fun k hk => ?_
  rw [outP_get _ _ hk, if_pos rfl, dq_id _ hk]
end Go.Proofs.Ytgjbhocahpplbaa
