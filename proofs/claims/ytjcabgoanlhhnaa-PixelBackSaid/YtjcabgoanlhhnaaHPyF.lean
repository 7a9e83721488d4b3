/- PixelForms: the walk. -/
import Derived.Test.YtjcabgoanlhhnaaHPyE
import Derived.Test.YtjcabgoanlhhnaaHPkG
namespace Go.Proofs.Ytjcabgoanlhhnaa
set_option linter.unusedSimpArgs false
set_option linter.unusedVariables false
open Go.RowKit EV
open SX (Wr Tv Qu Rm Sh Is conjP eqs_iff eqs_false)
open EW (PlL PlT PlV PlVs LfV Mm Bt Opn GV YT lpOf nums)
set_option maxRecDepth 20000
/-- The bytes of the pixels that may be. -/
def encW (p : Px) : List Int := if p.may then encP p else []
def encs (l : List Px) (i : Nat) : List Int := (l.take i).flatMap encW
theorem tk1 {l : List Px} {i : Nat} (h : i < l.length) : l.take (i + 1) = l.take i ++ [l.getD i Px.zero] := by
  rw [List.take_add_one, List.getD_eq_getElem?_getD, List.getElem?_eq_getElem h]; rfl
theorem encs_y {l : List Px} {i : Nat} (h : i < l.length) (hm : (l.getD i Px.zero).may) : encs l i ++ encP (l.getD i Px.zero) = encs l (i + 1) := by
  unfold encs; rw [tk1 h, List.flatMap_append]; simp only [List.flatMap_cons, List.flatMap_nil, List.append_nil]; rw [encW, if_pos hm]
theorem encs_n {l : List Px} {i : Nat} (h : i < l.length) (hm : ¬ (l.getD i Px.zero).may) : encs l i = encs l (i + 1) := by
  unfold encs; rw [tk1 h, List.flatMap_append]; simp only [List.flatMap_cons, List.flatMap_nil, List.append_nil]; rw [encW, if_neg hm, List.append_nil]
theorem encs_len {l : List Px} (hw : ∀ i, i < l.length → (l.getD i Px.zero).wf) : ∀ i, i ≤ l.length → (encs l i).length ≤ 40 * i
  | 0, _ => by simp [encs]
  | i + 1, h => by
    have ih := encs_len hw i (by omega)
    by_cases hm : (l.getD i Px.zero).may
    · rw [← encs_y (by omega) hm, List.length_append]
      have := encP_len hm (hw i (by omega))
      omega
    · rw [← encs_n (by omega) hm]; omega
theorem app_by {a b : List Int} (ha : By a) (hb : By b) : By (a ++ b) := fun x hx => by
  rcases List.mem_append.1 hx with h | h
  · exact ha x h
  · exact hb x h
theorem encP_by (p : Px) : By (encP p) := by
  unfold encP
  split
  · exact formN_by _
  · exact app_by (app_by (app_by (formN_by _) (formN_by _)) (formN_by _)) (formN_by _)
theorem encs_by (l : List Px) (i : Nat) : By (encs l i) := fun x hx => by
  unfold encs at hx
  rw [List.mem_flatMap] at hx
  obtain ⟨p, _, hx⟩ := hx
  unfold encW at hx
  split at hx
  · exact encP_by p x hx
  · cases hx
set_option linter.unusedSectionVars false
noncomputable def WPB (l : List Px) (bs : List Int) : Ws := [(.l 0, .l true), (.b 0, .b (.w false (pvs l))), (.l 1, .l true), (.b 1, .b (.w false (nums .u8 bs)))]
end Go.Proofs.Ytjcabgoanlhhnaa
