/- image: signs of pixels, rows as texts. -/
import Derived.Test.YtflgamohploalaaHIm8
import Derived.Test.YtflgamohploalaaHEw9
import Derived.Test.YtflgamohploalaaHEwT
namespace Go.Proofs.Ytflgamohploalaa
set_option linter.unusedSimpArgs false
set_option linter.unusedVariables false
open Go.RowKit EV
open SX (Wr Tv Qu Rm Sh Is conjP eqs_iff eqs_false)
open EW (PlL PlT PlV PlVs LfV Mm Bt Opn GV YT lpOf nums)
set_option maxRecDepth 20000
/-- A text as a value. -/
abbrev txt (l : List UInt8) : Value := .string ⟨l.toArray⟩
/-- Texts as values. -/
def svs (o : List (List UInt8)) : List Value := o.map txt
theorem svs_len (o : List (List UInt8)) : (svs o).length = o.length := by simp [svs]
theorem svs_snoc (o : List (List UInt8)) (t : List UInt8) : svs o ++ [txt t] = svs (o ++ [t]) := by simp [svs]
instance (o : List (List UInt8)) (n : Nat) [h : EW.LenI o n] : EW.LenI (svs o) n := ⟨by rw [svs_len, h.len]⟩
instance (o : List (List UInt8)) (n : Nat) [hn : EW.LenI o n] : EW.ElemV (svs o) n (fun j => txt (o.getD j [])) := ⟨by rw [svs_len, hn.len], fun j h => by
  rw [← hn.len] at h; simp [svs, List.getD_eq_getElem?_getD, List.getElem?_eq_getElem h]⟩
/-- A pixel's sign. -/
def sgn (p : Px) : Int := if p.z = 16777216 then 46 else 97 + (p.o - 1) % 26
theorem sgn_bd (p : Px) : 46 ≤ sgn p ∧ sgn p ≤ 122 := by unfold sgn; split <;> omega
theorem sgn_dot {p : Px} (h : p.z = 16777216) : sgn p = 46 := if_pos h
theorem sgn_let {p : Px} (h : ¬ p.z = 16777216) : sgn p = 97 + (p.o - 1) % 26 := if_neg h
/-- Their signs as a text. -/
def sgU (l : List Px) : List UInt8 := l.map fun p => UInt8.ofNat (sgn p).toNat
theorem sgU_len (l : List Px) : (sgU l).length = l.length := by simp [sgU]
theorem sgU_nums : ∀ l : List Px, nums .u8 (l.map sgn) = (sgU l).map u8V
  | [] => rfl
  | p :: l => by
    have := sgU_nums l
    have hp := sgn_bd p
    simp only [nums, List.map_cons, sgU] at this ⊢
    rw [this]
    congr 1
    unfold u8V
    rw [UInt8.toNat_ofNat']
    congr 1
    omega
theorem sgU_text (l : List Px) : (((nums .u8 (l.map sgn)).map C.v).drop 0).take l.length = ((sgU l).map u8V).map C.v := by
  rw [List.drop_zero, sgU_nums, List.take_of_length_le (by simp [sgU_len])]
theorem sgU_next {l : List Px} {i : Nat} (h : i < l.length) : sgU (l.take i) ++ [UInt8.ofNat (sgn (l.getD i Px.zero)).toNat] = sgU (l.take (i + 1)) := by
  rw [take_next h]; simp [sgU]
theorem sg_next {l : List Px} {i : Nat} (h : i < l.length) : nums .u8 ((l.take i).map sgn) ++ [.int .u8 (sgn (l.getD i Px.zero))] = nums .u8 ((l.take (i + 1)).map sgn) := by
  rw [take_next h]; simp [nums]
/-- One row of the pixels. -/
def rowP (l : List Px) (w i : Nat) : List Px := (l.drop (i * w)).take w
theorem rowP_len {l : List Px} {w h i : Nat} (hl : l.length = h * w) (hi : i < h) : (rowP l w i).length = w := by
  have := Nat.mul_le_mul_right w (show i + 1 ≤ h by omega)
  rw [Nat.add_mul, Nat.one_mul] at this
  unfold rowP
  rw [List.length_take, List.length_drop]
  omega
theorem rowP_getD {l : List Px} {w i j : Nat} (hj : j < w) : (rowP l w i).getD j Px.zero = l.getD (i * w + j) Px.zero := by
  unfold rowP
  rw [List.getD_eq_getElem?_getD, List.getD_eq_getElem?_getD, List.getElem?_take, if_pos hj, List.getElem?_drop]
theorem rowP_may {l : List Px} {w h i : Nat} (hl : l.length = h * w) (hi : i < h) (hs : ∀ i, i < l.length → mayAt l i) : ∀ j, j < w → mayAt (rowP l w i) j := by
  intro j hj
  have := Nat.mul_le_mul_right w (show i + 1 ≤ h by omega)
  rw [Nat.add_mul, Nat.one_mul] at this
  unfold mayAt
  rw [rowP_getD hj]
  exact hs _ (by omega)
theorem pvs_take : ∀ (l : List Px) (k : Nat), (pvs l).take (k * 4) = pvs (l.take k)
  | [], k => by simp [pvs]
  | p :: l, 0 => by simp [pvs]
  | p :: l, k + 1 => by
    have := pvs_take l k
    rw [show (k + 1) * 4 = k * 4 + 1 + 1 + 1 + 1 by omega]
    simpa [pvs, Px.vals] using this
theorem pvs_drop : ∀ (l : List Px) (k : Nat), (pvs l).drop (k * 4) = pvs (l.drop k)
  | [], k => by simp [pvs]
  | p :: l, 0 => by simp [pvs]
  | p :: l, k + 1 => by
    have := pvs_drop l k
    rw [show (k + 1) * 4 = k * 4 + 1 + 1 + 1 + 1 by omega]
    simpa [pvs, Px.vals] using this
theorem pvs_part {l : List Px} {a k : Nat} (h : a + k ≤ l.length) : EW.Sub (pvs l) (pvs ((l.drop a).take k)) (a * 4) := by
  rw [← pvs_take, ← pvs_drop]
  exact EW.Sub.of (by rw [pvs_length]; omega)
/-- The first rows as texts. -/
def rowsT (l : List Px) (w k : Nat) : List (List UInt8) := (List.range k).map fun i => sgU (rowP l w i)
theorem rowsT_len (l : List Px) (w k : Nat) : (rowsT l w k).length = k := by simp [rowsT]
theorem rowsT_next (l : List Px) (w k : Nat) : rowsT l w k ++ [sgU (rowP l w k)] = rowsT l w (k + 1) := by simp [rowsT, List.range_succ]
theorem sv_next (l : List Px) (w k : Nat) : svs (rowsT l w k) ++ [txt (sgU (rowP l w k))] = svs (rowsT l w (k + 1)) := by rw [svs_snoc, rowsT_next]
instance (l : List Px) (w k : Nat) : EW.LenI (rowsT l w k) k := ⟨rowsT_len l w k⟩
/-- The letters. -/
abbrev abc : List UInt8 := [97, 98, 99, 100, 101, 102, 103, 104, 105, 106, 107, 108, 109, 110, 111, 112, 113, 114, 115, 116, 117, 118, 119, 120, 121, 122]
theorem abc_at : ∀ k : Fin 26, (abc.drop k.1).take 1 = [UInt8.ofNat (97 + (k.1 : Int)).toNat] := by decide
end Go.Proofs.Ytflgamohploalaa
