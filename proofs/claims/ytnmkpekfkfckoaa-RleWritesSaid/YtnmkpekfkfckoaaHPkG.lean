/- Package pack: PackAgain. -/
import Derived.Test.YtnmkpekfkfckoaaHPkF
import Derived.Test.YtnmkpekfkfckoaaHZK
namespace Go.Proofs.Ytnmkpekfkfckoaa
set_option linter.unusedSimpArgs false
set_option linter.unusedVariables false
open Go.RowKit EV
open SX (Wr Tv Qu Rm Sh Is conjP eqs_iff eqs_false)
open EW (PlL PlT PlV PlVs LfV Mm Bt Opn GV YT lpOf nums)
set_option maxRecDepth 20000
/-- Bytes as a text's. -/
def U (l : List Int) : List UInt8 := l.map fun x => UInt8.ofNat x.toNat
theorem text_nums : ∀ {l : List Int}, By l → nums .u8 l = (U l).map u8V
  | [], _ => rfl
  | x :: l, h => by
    have h1 := text_nums (l := l) (fun y hy => h y (by simp [hy]))
    have h2 := h x (by simp)
    have h3 : Value.int .u8 x = u8V (UInt8.ofNat x.toNat) := by
      unfold u8V
      rw [UInt8.toNat_ofNat']
      congr 1
      omega
    simp only [nums, List.map_cons, U] at h1 ⊢
    rw [h1, h3]
theorem text_all {l : List Int} (h : By l) : (((nums .u8 l).map C.v).drop 0).take l.length = ((U l).map u8V).map C.v := by
  rw [List.drop_zero, List.take_of_length_le (by simp [nums]), text_nums h]
end Go.Proofs.Ytnmkpekfkfckoaa
