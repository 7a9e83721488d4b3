/- image: one fragment is laid; near, either way about. -/
import Derived.Test.YtflgamohploalaaHImR
import Derived.Test.YtflgamohploalaaHZK
namespace Go.Proofs.Ytflgamohploalaa
set_option linter.unusedSimpArgs false
set_option linter.unusedVariables false
open Go.RowKit EV
open SX (Wr Tv Qu Rm Sh Is conjP eqs_iff eqs_false)
open EW (PlL PlT PlV PlVs LfV Mm Bt Opn GV YT lpOf nums)
set_option maxRecDepth 20000
theorem ialive (w : World) : Calls Try.prog 39 #[] w fun e w' => e = .returned (.bool true) ∧ Below w.heap.size w w' :=
  EV.calls_plain enters EV.noX_ok (fuel := 1000) (us := []) (by kernel_rfl) w
theorem Px.near_comm (a b : Px) : a.near b = b.near a := by
  rw [Px.near_eq, Px.near_eq]
  by_cases h : b.ahead a
  · rw [if_pos h, if_neg (Px.ahead_asymm h)]
  · rw [if_neg h]
    by_cases h' : a.ahead b
    · rw [if_pos h']
    · rw [if_neg h']; exact (Px.ahead_total h' h)
theorem lay1_len (w : Int) (l : List Px) (f : Fg) : (lay1 w l f).length = l.length := by unfold lay1; rw [List.length_set]
theorem lay1_at {w : Int} {l : List Px} {f : Fg} {k : Nat} (ha : fat w f < l.length) : (k = fat w f → (lay1 w l f).getD k Px.zero = f.p.near (l.getD k Px.zero)) ∧ (k ≠ fat w f → (lay1 w l f).getD k Px.zero = l.getD k Px.zero) := by
  unfold lay1
  rw [set_at ha]
  refine ⟨fun h => ?_, fun h => by rw [if_neg h]⟩
  rw [if_pos h, Px.near_comm, h]
end Go.Proofs.Ytflgamohploalaa
