import Derived.Test.YtnmkpekfkfckoaaHImB
import Derived.Test.YtnmkpekfkfckoaaHEwJ
/- image: the document's Rows, Texts. -/
/- ImageTells: the walk. -/
/- Walking over named blocks: a block given up to reading; a slice within a record that is loaded gets a name of its own. No program in sight. -/
/- image: Twin, twin, kept; slices.Clone of any pixels. -/
namespace Go.Proofs.Ytnmkpekfkfckoaa
set_option linter.unusedSimpArgs false
set_option linter.unusedVariables false
open Go.RowKit EV
open SX (Wr Tv Qu Rm Sh Is conjP eqs_iff eqs_false)
open EW (PlL PlT PlV PlVs LfV Mm Bt Opn GV YT lpOf nums)
set_option maxRecDepth 20000
theorem pvs_head (l t : List Px) : EW.Sub (pvs (l ++ t)) (pvs l) 0 := by
  have := pvs_part (l := l ++ t) (a := 0) (k := l.length) (by simp)
  simpa using this
end Go.Proofs.Ytnmkpekfkfckoaa
/- image: Cut; the document's. -/
/- image: Paste; the document's. -/
namespace Go.Proofs.Ytnmkpekfkfckoaa
set_option linter.unusedSimpArgs false
set_option linter.unusedVariables false
open Go.RowKit EV
open SX (Wr Tv Qu Rm Sh Is conjP eqs_iff eqs_false)
open EW (PlL PlT PlV PlVs LfV Mm Bt Opn GV YT lpOf nums)
set_option maxRecDepth 20000
/-- A span that may be. -/
def spOk (l : List Px) : Prop := l.length ≤ 4096 ∧ ∀ i, i < l.length → mayAt l i
theorem whole_n (o : Bool) (l : List Px) (hl : l.length ≤ 10000) (hn : ¬ spOk l) : CT Try.prog 52 [.c (.g 0 0 l.length l.length 4)] (upd EW.emp (WP o l)) 1 1 (.c (.v (.bool false))) (upd (upd EW.emp (WP o l)) []) := by
  rcases Nat.lt_or_ge 4096 l.length with h | h
  · exact whole_far o l h hl
  · obtain ⟨t, h1, h2, h3⟩ := least_not (l := l) fun hs => hn ⟨h, hs⟩
    exact whole_no o l t h h1 h2 h3
end Go.Proofs.Ytnmkpekfkfckoaa
/- The order of pixels: plain laws. -/
