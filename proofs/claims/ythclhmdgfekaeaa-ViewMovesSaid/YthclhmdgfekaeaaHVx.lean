/- Lists of vertices. No program in sight. -/
import Derived.Test.YthclhmdgfekaeaaHEw7
namespace Go.Proofs.Ythclhmdgfekaeaa
set_option linter.unusedSimpArgs false
set_option linter.unusedVariables false
open Go.RowKit EV
set_option maxRecDepth 20000
abbrev V4 (x y z q : Int) : Value := .agg #[.int .i64 x, .int .i64 y, .int .i64 z, .int .i64 q]
structure Vx where
  x : Int
  y : Int
  z : Int
  q : Int
  deriving DecidableEq
abbrev Vx.vals (v : Vx) : List Value := [.int .i64 v.x, .int .i64 v.y, .int .i64 v.z, .int .i64 v.q]
abbrev Vx.zero : Vx := ⟨0, 0, 0, 0⟩
def vvs (l : List Vx) : List Value := l.flatMap Vx.vals
theorem vvs_length : ∀ l : List Vx, (vvs l).length = l.length * 4
  | [] => rfl
  | p :: l => by
    have := vvs_length l
    simp only [vvs, List.flatMap_cons, List.length_append, List.length_cons] at this ⊢
    rw [this]; simp only [Vx.vals, List.length_cons, List.length_nil]; omega
theorem vvs_cut : ∀ (l : List Vx) (j : Nat) (h : j < l.length), ((vvs l).drop (j * 4)).take 4 = (l[j]).vals
  | p :: l, 0, _ => rfl
  | p :: l, j + 1, h => by
    have := vvs_cut l j (by simpa using h)
    rw [show (j + 1) * 4 = j * 4 + 1 + 1 + 1 + 1 by omega]
    simpa [vvs, Vx.vals] using this
theorem vvs_append (l m : List Vx) : vvs l ++ vvs m = vvs (l ++ m) := by simp [vvs]
instance (l : List Vx) : EW.RowV (vvs l) 4 l.length (fun j => (l.getD j Vx.zero).vals) := ⟨vvs_length l, fun j h => by
  rw [vvs_cut l j h]; simp [List.getD_eq_getElem?_getD, List.getElem?_eq_getElem h]⟩
end Go.Proofs.Ythclhmdgfekaeaa
