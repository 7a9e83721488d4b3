import Derived.Test.YtnmkpekfkfckoaaHImF
import Derived.Test.YtnmkpekfkfckoaaHPx3
/- image: Cut; the document's. -/
/- image: Paste; the document's. -/
namespace Go.Proofs.Ytnmkpekfkfckoaa
set_option linter.unusedSimpArgs false
set_option linter.unusedVariables false
open Go.RowKit EV
open SX (Wr Tv Qu Rm Sh Is conjP eqs_iff eqs_false)
open EW (PlL PlT PlV PlVs LfV Mm Bt Opn GV YT lpOf nums)
set_option maxRecDepth 20000
/-- A span that may be. -/
def spOk (l : List Px) : Prop := l.length ≤ 4096 ∧ ∀ i, i < l.length → mayAt l i
theorem whole_n (o : Bool) (l : List Px) (hl : l.length ≤ 10000) (hn : ¬ spOk l) : CT Try.prog 52 [.c (.g 0 0 l.length l.length 4)] (upd EW.emp (WP o l)) 1 1 (.c (.v (.bool false))) (upd (upd EW.emp (WP o l)) []) := by
  rcases Nat.lt_or_ge 4096 l.length with h | h
  · exact whole_far o l h hl
  · obtain ⟨t, h1, h2, h3⟩ := least_not (l := l) fun hs => hn ⟨h, hs⟩
    exact whole_no o l t h h1 h2 h3
theorem span_n (o : Bool) (l : List Px) (hl : l.length ≤ 10000) (hn : ¬ spOk l) : CT Try.prog 37 [.c (.g 0 0 l.length l.length 4)] (upd EW.emp (WP o l)) 1 1 (.c (.v (.bool false))) (upd (upd EW.emp (WP o l)) []) := by
  by_cases hs : ∀ i, i < l.length → mayAt l i
  · exact span_all o l hl false (decide_eq_false fun h => hn ⟨by omega, hs⟩) hs
  · obtain ⟨t, h1, h2, h3⟩ := least_not (l := l) hs
    exact span_no o l t hl h1 h2 h3
theorem span_y (o : Bool) (l : List Px) (hs : spOk l) : CT Try.prog 37 [.c (.g 0 0 l.length l.length 4)] (upd EW.emp (WP o l)) 1 1 (.c (.v (.bool true))) (upd (upd EW.emp (WP o l)) []) :=
  span_all o l (by have := hs.1; omega) true (decide_eq_true (by have := hs.1; omega)) hs.2
end Go.Proofs.Ytnmkpekfkfckoaa
/- The order of pixels: plain laws. -/
