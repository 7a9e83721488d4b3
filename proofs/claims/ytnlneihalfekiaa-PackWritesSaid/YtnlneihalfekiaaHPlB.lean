/- PackReads, PackWrites: what comes in. -/
import Derived.Test.YtnlneihalfekiaaHPlA
namespace Go.Proofs.Ytnlneihalfekiaa
set_option linter.unusedSimpArgs false
set_option linter.unusedVariables false
open Go.RowKit Go.ChangeShapes Go.WideShapes EV
open SX (Wr Tv Qu Rm Sh Is conjP eqs_iff eqs_false)
open EW (PlL PlT PlV PlVs LfV Mm Bt Opn GV YT lpOf nums)
set_option maxRecDepth 20000
theorem ina_len {v : Value} {b off len room z : Nat} (h : InA v b off len room z) : len ≤ maxLen := by
  rcases h with ⟨cap, _, e1, e2, _⟩ | ⟨e1, _⟩
  · exact Nat.le_trans e1 e2
  · rw [e1]; exact Nat.zero_le _
theorem ops_in {H : Type} {enc : TypeId × Value → H} {W : World} {m : Nat} {v : Value} {x : DataW H × List MemPlace} (h : DataW.trod enc Try.prog W 0 (fun _ => true) true m 22 [v] = some x) : ∃ (b off room : Nat) (l : List Ob), (∀ j, j < l.length → (l.getD j Ob.zero).ok2 W) ∧ SrcG W b off room (obs l) ∧ InA v b off l.length room 7 := by
  obtain ⟨b, off, len, room, rows, q1, q2, q3, q4⟩ := open_sliceQ (Q := fun s => ∃ o : Ob, s = o.vals ∧ o.ok2 W) Try.underlying22 (z := 7) (by kernel_rfl) (by decide) (fun m cs x h => op_of_trod2 h) h
  obtain ⟨l, h1, h2, h3⟩ := ops_of_rows2 q2
  obtain rfl : l.length = len := by omega
  rw [h2] at q3
  exact ⟨b, off, room, l, fun j hj => by rw [List.getD_eq_getElem?_getD, List.getElem?_eq_getElem hj]; exact h3 _ (List.getElem_mem hj), q3, q4⟩
/-- Are operations more than the laws go through? -/
theorem great_any (l : List Ob) (hl : l.length ≤ maxLen) : (l.length ≤ 200 ∧ ∀ j, j < l.length → (l.getD j Ob.zero).bs.length ≤ 300) ∨ CT Try.prog 8 [.c (.g 0 0 l.length l.length 7)] (upd EW.emp (WO false l)) 1 1 (.c (.v (.bool true))) (upd (upd EW.emp (WO false l)) []) := by
  rcases Nat.lt_or_ge 200 l.length with h | h
  · exact .inr (great_far false l h hl)
  · by_cases hB : ∀ t, t < l.length → (l.getD t Ob.zero).bs.length ≤ 300
    · exact .inl ⟨h, hB⟩
    · obtain ⟨t, t1, t2, t3⟩ := first_no (p := fun t => (l.getD t Ob.zero).bs.length ≤ 300) hB
      exact .inr (great_bad false l t h t1 t2 (by omega))
end Go.Proofs.Ytnlneihalfekiaa
