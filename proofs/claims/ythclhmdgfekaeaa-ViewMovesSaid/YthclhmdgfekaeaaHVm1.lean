/- ViewMoves: what a move comes to. No program in sight. -/
import Derived.Test.YthclhmdgfekaeaaHVt2
namespace Go.Proofs.Ythclhmdgfekaeaa
open Go.RowKit EV
set_option maxRecDepth 20000
def mvM (x y z : Int) : List Int := [65536, 0, 0, x, 0, 65536, 0, y, 0, 0, 65536, z, 0, 0, 0, 65536]
/-- A number that a move may add. -/
abbrev Sm31 (x : Int) : Prop := -2147483648 ≤ x ∧ x ≤ 2147483647
abbrev Sm30 (x : Int) : Prop := -1073741824 ≤ x ∧ x ≤ 1073741824
section
variable (x y z a b c : Int)
theorem dq_mv0 : dq (row (mvM x y z) 0) [a, b, c, 65536] = a + x := by
  show (0 + 65536 * a + 0 * b + 0 * c + x * 65536) / 65536 = a + x
  omega
theorem dq_mv1 : dq (row (mvM x y z) 1) [a, b, c, 65536] = b + y := by
  show (0 + 0 * a + 65536 * b + 0 * c + y * 65536) / 65536 = b + y
  omega
theorem dq_mv2 : dq (row (mvM x y z) 2) [a, b, c, 65536] = c + z := by
  show (0 + 0 * a + 0 * b + 65536 * c + z * 65536) / 65536 = c + z
  omega
theorem dq_mv3 : dq (row (mvM x y z) 3) [a, b, c, 65536] = 65536 := by
  show (0 + 0 * a + 0 * b + 0 * c + 65536 * 65536) / 65536 = 65536
  omega
theorem mv_ok (hx : Sm31 x) (hy : Sm31 y) (hz : Sm31 z) (ha : Sm30 a) (hB : Sm30 b) (hc : Sm30 c) : appOk (mvM x y z) [a, b, c, 65536] := by
  refine ⟨⟨by omega, fun n hn => ?_⟩, ⟨by omega, fun n hn => ?_⟩, fun i hi => ?_⟩
  · simp only [mvM, List.mem_cons, List.not_mem_nil, or_false] at hn
    omega
  · simp only [vec16, List.cons_append, List.nil_append, List.mem_cons, List.not_mem_nil, or_false] at hn
    omega
  · show okQ _
    match i, hi with
    | 0, _ => rw [dq_mv0]; exact ⟨by omega, by omega⟩
    | 1, _ => rw [dq_mv1]; exact ⟨by omega, by omega⟩
    | 2, _ => rw [dq_mv2]; exact ⟨by omega, by omega⟩
    | 3, _ => rw [dq_mv3]; exact ⟨by omega, by omega⟩
theorem mv_app (hx : Sm31 x) (hy : Sm31 y) (hz : Sm31 z) (ha : Sm30 a) (hB : Sm30 b) (hc : Sm30 c) : appV (mvM x y z) [a, b, c, 65536] = [a + x, b + y, c + z, 65536] ∧ appE (mvM x y z) [a, b, c, 65536] = 0 := by
  have h := mv_ok x y z a b c hx hy hz ha hB hc
  refine ⟨?_, appE_zero.2 h⟩
  unfold appV
  rw [if_pos h]
  show [dq (row (mvM x y z) 0) [a, b, c, 65536], dq (row (mvM x y z) 1) [a, b, c, 65536], dq (row (mvM x y z) 2) [a, b, c, 65536], dq (row (mvM x y z) 3) [a, b, c, 65536]] = _
  rw [dq_mv0, dq_mv1, dq_mv2, dq_mv3]
end
/-- A point that a move may move. -/
abbrev T3.sm (t : T3) : Prop := Sm30 t.x ∧ Sm30 t.y ∧ Sm30 t.z
def mvV (x y z : Int) (t : T3) : Vx := ⟨t.x + x, t.y + y, t.z + z, 65536⟩
theorem mv_thr {x y z : Int} {t : T3} (hx : Sm31 x) (hy : Sm31 y) (hz : Sm31 z) (ht : t.sm) : thrV (mvM x y z) t = mvV x y z t ∧ thrE (mvM x y z) t = 0 := by
  have h := mv_app x y z t.x t.y t.z hx hy hz ht.1 ht.2.1 ht.2.2
  refine ⟨?_, h.2⟩
  unfold thrV
  rw [h.1]
  rfl
theorem mvM_ok {x y z : Int} (hx : Sm31 x) (hy : Sm31 y) (hz : Sm31 z) : Ok64 (mvM x y z) := fun i => by
  match i with
  | 3 => show -9223372036854775808 ≤ x ∧ x ≤ 9223372036854775807; omega
  | 7 => show -9223372036854775808 ≤ y ∧ y ≤ 9223372036854775807; omega
  | 11 => show -9223372036854775808 ≤ z ∧ z ≤ 9223372036854775807; omega
  | 0 => exact ⟨by simp [mvM], by simp [mvM]⟩
  | 1 => exact ⟨by simp [mvM], by simp [mvM]⟩
  | 2 => exact ⟨by simp [mvM], by simp [mvM]⟩
  | 4 => exact ⟨by simp [mvM], by simp [mvM]⟩
  | 5 => exact ⟨by simp [mvM], by simp [mvM]⟩
  | 6 => exact ⟨by simp [mvM], by simp [mvM]⟩
  | 8 => exact ⟨by simp [mvM], by simp [mvM]⟩
  | 9 => exact ⟨by simp [mvM], by simp [mvM]⟩
  | 10 => exact ⟨by simp [mvM], by simp [mvM]⟩
  | 12 => exact ⟨by simp [mvM], by simp [mvM]⟩
  | 13 => exact ⟨by simp [mvM], by simp [mvM]⟩
  | 14 => exact ⟨by simp [mvM], by simp [mvM]⟩
  | 15 => exact ⟨by simp [mvM], by simp [mvM]⟩
  | i + 16 => exact ⟨by simp [mvM], by simp [mvM]⟩
theorem t3_sm_ok {t : T3} (h : t.sm) : t.ok := ⟨⟨by have := h.1; omega, by have := h.1; omega⟩, ⟨by have := h.2.1; omega, by have := h.2.1; omega⟩, ⟨by have := h.2.2; omega, by have := h.2.2; omega⟩⟩
end Go.Proofs.Ythclhmdgfekaeaa
