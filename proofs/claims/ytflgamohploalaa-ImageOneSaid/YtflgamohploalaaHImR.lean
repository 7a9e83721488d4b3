/- image: Lay where it fails; the document's Lay. -/
import Derived.Test.YtflgamohploalaaHImQ
namespace Go.Proofs.Ytflgamohploalaa
set_option linter.unusedSimpArgs false
set_option linter.unusedVariables false
open Go.RowKit EV
open SX (Wr Tv Qu Rm Sh Is conjP eqs_iff eqs_false)
open EW (PlL PlT PlV PlVs LfV Mm Bt Opn GV YT lpOf nums)
set_option maxRecDepth 20000
/-- A place: its slot, told twice. -/
theorem slot_e (o : Bool) (l : List Px) (w h a b : Int) : ∃ (s d : Int) (is : Bool), CT Try.prog 31 [.a (imC 0 w h l.length), .c (.v (.int .i64 a)), .c (.v (.int .i64 b))] (upd EW.emp (WP o l)) 1 1 (.t [.inl (.v (.int .i64 s)), .inl (.v (.bool is))]) (upd (upd EW.emp (WP o l)) []) ∧ (∀ o, CT Try.prog 32 [.a (imC 0 w h l.length), .c (.v (.int .i64 a)), .c (.v (.int .i64 b))] (upd EW.emp (WP o l)) 1 1 (.c (.v (.int .i64 d))) (upd (upd EW.emp (WP o l)) [])) ∧ (is = true ↔ inIm w h a b) ∧ (0 ≤ d ↔ inIm w h a b) ∧ s = max d 0 ∧ -1 ≤ d ∧ d ≤ 4096 := by
  by_cases hi : inIm w h a b
  · have := slot_bound hi
    exact ⟨_, _, true, islot_y o l w h a b hi, fun o => dslot_y o l w h a b hi, ⟨fun _ => hi, fun _ => rfl⟩, ⟨fun _ => hi, fun _ => by omega⟩, by omega, by omega, by omega⟩
  · exact ⟨0, -1, false, islot_n o l w h a b hi, fun o => dslot_n o l w h a b hi, ⟨fun h => (by cases h), fun h => absurd h hi⟩, ⟨fun h => (by omega), fun h => absurd h hi⟩, by omega, by omega, by omega⟩
end Go.Proofs.Ytflgamohploalaa
