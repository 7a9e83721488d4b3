/- image: fragments in memory; Lay. -/
import Derived.Test.YtflgamohploalaaHImP
namespace Go.Proofs.Ytflgamohploalaa
set_option linter.unusedSimpArgs false
set_option linter.unusedVariables false
open Go.RowKit EV
open SX (Wr Tv Qu Rm Sh Is conjP eqs_iff eqs_false)
open EW (PlL PlT PlV PlVs LfV Mm Bt Opn GV YT lpOf nums)
set_option maxRecDepth 20000
def Fg.zero : Fg := ⟨0, 0, Px.zero⟩
theorem of_y (f : Fg) (h : f.p.ok) (w : World) : Calls Try.prog 40 #[f.val] w fun e w' => e = .returned (.tuple #[f.p.val, .int .i64 0]) ∧ Below w.heap.size w w' := by
  have := of_any f w; rwa [ofV, if_pos h] at this
theorem of_n (f : Fg) (h : ¬ f.p.ok) (w : World) : Calls Try.prog 40 #[f.val] w fun e w' => e = .returned (.tuple #[Px.zero.val, .int .i64 130]) ∧ Below w.heap.size w w' := by
  have := of_any f w; rwa [ofV, if_neg h] at this
theorem of_e (f : Fg) : ∃ (q : Px) (e : Int), (∀ w, Calls Try.prog 40 #[f.val] w fun r w' => r = .returned (.tuple #[q.val, .int .i64 e]) ∧ Below w.heap.size w w') ∧ (∀ w, Calls Try.prog 56 #[f.val] w fun r w' => r = .returned (.tuple #[q.val, .int .i64 e]) ∧ Below w.heap.size w w') ∧ (e = 0 ↔ f.p.ok) := by
  by_cases h : f.p.ok
  · exact ⟨f.p, 0, of_y f h, fun w => by have := rof_any f w; rwa [ofV, if_pos h] at this, by simp [h]⟩
  · exact ⟨Px.zero, 130, of_n f h, fun w => by have := rof_any f w; rwa [ofV, if_neg h] at this, by simp [h]⟩
/-- A fragment that may be laid. -/
abbrev fgOk (w h : Int) (f : Fg) : Prop := inIm w h f.x f.y ∧ f.p.ok
/-- Where it goes. -/
def fat (w : Int) (f : Fg) : Nat := (f.y * w + f.x).toNat
def lay1 (w : Int) (y : List Px) (f : Fg) : List Px := y.set (fat w f) ((y.getD (fat w f) Px.zero).near f.p)
theorem fat_is {w h : Int} {l : List Px} {f : Fg} (hi : imOk w h l) (hf : inIm w h f.x f.y) : f.y * w + f.x = (fat w f : Int) ∧ fat w f < l.length := by
  have := slot_bound hf
  have hl := hi.2.1
  unfold fat
  omega
end Go.Proofs.Ytflgamohploalaa
