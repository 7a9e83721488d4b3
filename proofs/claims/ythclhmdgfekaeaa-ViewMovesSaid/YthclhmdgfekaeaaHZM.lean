/- The document's matrices: sums of products, bounds. The document's matrices: products with vectors, products. -/
import Derived.Test.YthclhmdgfekaeaaHZG
namespace Go.Proofs.Ythclhmdgfekaeaa
set_option linter.unusedSimpArgs false
set_option linter.unusedVariables false
open Go.RowKit EV
open SX (Wr Tv Qu Rm Sh Is conjP eqs_iff eqs_false)
open EW (PlL PlT PlV PlVs LfV Mm Bt Opn GV nums)
set_option maxRecDepth 20000
abbrev Nm (l : List Int) : Value := .agg (nums .i64 l).toArray
def pd (r v : List Int) : Nat → Int
  | 0 => 0
  | k + 1 => pd r v k + r.getD k 0 * v.getD k 0
def dq (r v : List Int) : Int := pd r v 4 / 65536
def okQ (q : Int) : Prop := -4611686018427387904 ≤ q ∧ q ≤ 4611686018427387904
instance (q : Int) : Decidable (okQ q) := by unfold okQ; infer_instance
def valQ (q : Int) : Int := if okQ q then q else 0
abbrev sumOk (r v : List Int) : Prop := okQ (dq r v)
def good (b : Int) (m : List Int) (k : Nat) : Prop := ∀ t, t < k → 0 ≤ b ∧ -b ≤ m.getD t 0 ∧ m.getD t 0 ≤ b
def within (b : Int) (m : List Int) : Prop := 0 ≤ b ∧ ∀ n ∈ m, -b ≤ n ∧ n ≤ b
instance (b : Int) (m : List Int) : Decidable (within b m) := by unfold within; infer_instance
theorem within_good {b : Int} {m : List Int} (hm : 0 < m.length) : within b m ↔ good b m m.length := by
  constructor
  · rintro ⟨h1, h2⟩ t ht
    refine ⟨h1, h2 _ ?_⟩
    rw [List.getD_eq_getElem?_getD, List.getElem?_eq_getElem ht]; exact List.getElem_mem ht
  · intro h
    refine ⟨(h 0 hm).1, fun n hn => ?_⟩
    obtain ⟨i, hi, rfl⟩ := List.getElem_of_mem hn
    have := (h i hi).2
    rwa [List.getD_eq_getElem?_getD, List.getElem?_eq_getElem hi] at this
end Go.Proofs.Ythclhmdgfekaeaa
namespace Go.Proofs.Ythclhmdgfekaeaa
set_option linter.unusedSimpArgs false
set_option linter.unusedVariables false
open Go.RowKit EV
open SX (Wr Tv Qu Rm Sh Is conjP eqs_iff eqs_false)
open EW (PlL PlT PlV PlVs LfV Mm Bt Opn GV nums)
set_option maxRecDepth 20000
def outP (n : Nat) (d : Nat → Bool) (f : Nat → Int) : List Int := (List.range n).map fun k => if d k then f k else 0
theorem outP_len (n : Nat) (d : Nat → Bool) (f : Nat → Int) : (outP n d f).length = n := by simp [outP]
instance (n : Nat) (d : Nat → Bool) (f : Nat → Int) : EW.LenI (outP n d f) n := ⟨outP_len n d f⟩
theorem outP_congr {n : Nat} {d d' : Nat → Bool} {f f' : Nat → Int} (h : ∀ k, k < n → d k = d' k ∧ (d k = true → f k = f' k)) : outP n d f = outP n d' f' := by
  unfold outP; apply List.map_congr_left; intro k hk
  obtain ⟨h1, h2⟩ := h k (List.mem_range.1 hk)
  rw [← h1]; split
  · exact h2 (by assumption)
  · rfl
theorem outP_set {n k : Nat} {d d' : Nat → Bool} {f : Nat → Int} (h : ∀ j, j < n → d' j = (d j || j == k)) : (outP n d f).set k (f k) = outP n d' f := by
  apply List.ext_getElem?
  intro j
  rw [List.getElem?_set, outP_len]
  by_cases hj : j < n
  · have h1 := h j hj
    by_cases hk : k = j
    · subst hk; rw [if_pos rfl, if_pos hj]; simp [outP, List.getElem?_range hj, h1]
    · rw [if_neg hk]; simp [outP, List.getElem?_range hj, h1, Ne.symm hk]
  · rw [List.getElem?_eq_none (l := outP n d' f) (by rw [outP_len]; omega)]
    by_cases hk : k = j
    · subst hk; rw [if_pos rfl, if_neg hj]
    · rw [if_neg hk, List.getElem?_eq_none (by rw [outP_len]; omega)]
abbrev row (m : List Int) (i : Nat) : List Int := (m.drop (i * 4)).take 4
/-- A matrix whose first row is v. -/
def vec16 (v : List Int) : List Int := v ++ [0, 0, 0, 0, 0, 0, 0, 0, 0, 0, 0, 0]
theorem len4 {v : List Int} (h : v.length = 4) : ∃ a b c d, v = [a, b, c, d] := by
  match v, h with
  | [a, b, c, d], _ => exact ⟨a, b, c, d, rfl⟩
theorem bvec (a b c d : Int) : Is (putL 0 ((nums .i64 [a, b, c, d]).map C.v) (List.map C.v [.int .i64 0, .int .i64 0, .int .i64 0, .int .i64 0, .int .i64 0, .int .i64 0, .int .i64 0, .int .i64 0, .int .i64 0, .int .i64 0, .int .i64 0, .int .i64 0, .int .i64 0, .int .i64 0, .int .i64 0, .int .i64 0])) ((nums .i64 (vec16 [a, b, c, d])).map C.v) := ⟨rfl⟩
def appOk (m v : List Int) : Prop := within 4611686018427387904 m ∧ within 4611686018427387904 (vec16 v) ∧ ∀ i, i < 4 → sumOk (row m i) v
instance (m v : List Int) : Decidable (appOk m v) := by unfold appOk; infer_instance
def appV (m v : List Int) : List Int := if appOk m v then outP 4 (fun _ => true) (fun k => dq (row m k) v) else [0, 0, 0, 0]
def appE (m v : List Int) : Int := if appOk m v then 0 else 30
theorem row_get {m : List Int} {i k : Nat} (hk : k < 4) : (row m i).getD k 0 = m.getD (i * 4 + k) 0 := by
  simp only [row, List.getD_eq_getElem?_getD, List.getElem?_take, List.getElem?_drop, if_pos hk]
theorem row_len {m : List Int} {i : Nat} (hi : i < 4) (h : m.length = 16) : (row m i).length = 4 := by simp [row]; omega
theorem row_ok {m : List Int} (i : Nat) (h : Ok64 m) : Ok64 (row m i) := fun k => by
  rcases Nat.lt_or_ge k 4 with hk | hk
  · rw [row_get hk]; exact h _
  · have : (row m i).getD k 0 = 0 := by
      simp only [row, List.getD_eq_getElem?_getD, List.getElem?_take, if_neg (show ¬ k < 4 by omega)]; rfl
    rw [this]; omega
theorem ok_next {m v : List Int} {i : Nat} (h : ∀ k, k < i → sumOk (row m k) v) (h' : okQ (dq (row m i) v)) : ∀ k, k < i + 1 → sumOk (row m k) v := fun k hk => by
  rcases Nat.lt_or_ge k i with h1 | h1
  · exact h k h1
  · obtain rfl : k = i := by omega
    exact h'
theorem app_next {m v : List Int} {i : Nat} (h : okQ (dq (row m i) v)) : nums .i64 ((outP 4 (fun k => decide (k < i)) (fun k => dq (row m k) v)).set i (valQ (dq (row m i) v))) = nums .i64 (outP 4 (fun k => decide (k < i + 1)) (fun k => dq (row m k) v)) := by
  rw [valQ, if_pos h, outP_set (f := fun k => dq (row m k) v) (d' := fun k => decide (k < i + 1))]
  intro j _
  rw [Bool.eq_iff_iff]; simp; omega
theorem app_no {m v : List Int} (h : ¬ appOk m v) : Ending.returned (.tuple #[.agg #[.int .i64 0, .int .i64 0, .int .i64 0, .int .i64 0], .int .i64 30]) = Ending.returned (.tuple #[Nm (appV m v), .int .i64 (appE m v)]) := by
  rw [appV, appE, if_neg h, if_neg h]; rfl
theorem app_yes {m v : List Int} (h : appOk m v) : Ending.returned (.tuple #[Nm (outP 4 (fun k => decide (k < 4)) (fun k => dq (row m k) v)), .int .i64 0]) = Ending.returned (.tuple #[Nm (appV m v), .int .i64 (appE m v)]) := by
  have e : outP 4 (fun k => decide (k < 4)) (fun k => dq (row m k) v) = outP 4 (fun _ => true) (fun k => dq (row m k) v) :=
    outP_congr fun k hk => ⟨by simpa using hk, fun _ => rfl⟩
  rw [appV, appE, if_pos h, if_pos h, e]
theorem appV_len (m v : List Int) : (appV m v).length = 4 := by unfold appV; split <;> simp [outP_len]
theorem appE_zero {m v : List Int} : appE m v = 0 ↔ appOk m v := by unfold appE; split <;> simp [*]
end Go.Proofs.Ythclhmdgfekaeaa
