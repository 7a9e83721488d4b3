import Derived.Test.YtnmkpekfkfckoaaHPyA
import Derived.Test.YtnmkpekfkfckoaaHEwJ
/- pixel: Take, case by case. -/
/- pixel: the document's Take, case by case. -/
/- pixel: what is taken of bytes: plain laws; Take and the document's, of any bytes. -/
/- pixel: Write, Take and the document's, of any pixel and bytes. -/
namespace Go.Proofs.Ytnmkpekfkfckoaa
set_option linter.unusedSimpArgs false
set_option linter.unusedVariables false
open Go.RowKit EV
open SX (Wr Tv Qu Rm Sh Is conjP eqs_iff eqs_false)
open EW (PlL PlT PlV PlVs LfV Mm Bt Opn GV YT lpOf nums)
set_option maxRecDepth 20000
theorem px_nat {p : Px} (hm : p.may) (hw : p.wf) : p = ⟨16777216, 0, 0, 0⟩ ∨ ∃ z o t c : Nat, p = ⟨z, o, t, c⟩ ∧ z < 16777216 ∧ (1 ≤ o ∧ o ≤ 65535) ∧ t < 64 ∧ c < 4294967296 := by
  obtain ⟨z, o, t, c⟩ := p
  obtain ⟨w1, w2, w3, w4⟩ := hw
  unfold Px.may at hm
  dsimp only at *
  rcases hm with ⟨a1, a2, a3, a4, a5⟩ | ⟨rfl, rfl, rfl, rfl⟩
  · right
    refine ⟨z.toNat, o.toNat, t.toNat, c.toNat, ?_, by omega, by omega, by omega, by omega⟩
    rw [Int.toNat_of_nonneg (by omega), Int.toNat_of_nonneg (by omega), Int.toNat_of_nonneg (by omega), Int.toNat_of_nonneg (by omega)]
  · left; rfl
theorem pwrite_y (p : Px) (bs : List Int) (hm : p.may) (hw : p.wf) (hl : bs.length ≤ 300000) : CT Try.prog 35 [.c (.p 0 0), .a (pcl p.z p.o p.t p.c)] (upd EW.emp (WW bs false)) 2 3 (.c (.v (.int .i64 0))) (upd (upd EW.emp (WW bs false)) (Wmore (bs ++ encP p))) := by
  rcases px_nat hm hw with rfl | ⟨z, o, t, c, rfl, hz, ho, ht, hc⟩
  · exact pwrite_e bs (by omega)
  · rw [encP_n hz]; exact pwrite_n z o t c bs (by omega) hz ho ht hc
end Go.Proofs.Ytnmkpekfkfckoaa
