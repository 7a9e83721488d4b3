/- Images that come in. -/
import Derived.Test.YtflgamohploalaaHRow5
import Derived.Test.YtflgamohploalaaHPxW
namespace Go.Proofs.Ytflgamohploalaa
open Go.RowKit Go.ChangeShapes Go.WideShapes EV
set_option maxRecDepth 20000
/-- An image that came in. -/
theorem im_of_trod {H : Type} {enc : TypeId × Value → H} {W : World} {m : Nat} {cs : List Value} {x : DataW H × List MemPlace} (h : DataW.trod enc Try.prog W 0 (fun _ => true) true m 24 cs = some x) :
    ∃ (w h : Int) (v : Value) (b off room : Nat) (l : List Px), cs = [.int .i64 w, .int .i64 h, v] ∧ (-9223372036854775808 ≤ w ∧ w ≤ 9223372036854775807) ∧ (-9223372036854775808 ≤ h ∧ h ≤ 9223372036854775807) ∧ (∀ p ∈ l, p.wf) ∧ SrcG W b off room (pvs l) ∧ InA v b off l.length room 4 := by
  obtain ⟨hl, hf⟩ := trod_fields Try.underlying24 h
  have hl3 : cs.length = 3 := hl.trans (by kernel_rfl)
  match cs, hl3 with
  | [c0, c1, c2], _ =>
    obtain ⟨m0, y0, g0⟩ := hf ⟨"W", 3, 0, false, "", "", 0⟩ (by simp)
    obtain ⟨m1, y1, g1⟩ := hf ⟨"H", 3, 1, false, "", "", 8⟩ (by simp)
    obtain ⟨m2, y2, g2⟩ := hf ⟨"P", 22, 2, false, "", "", 16⟩ (by simp)
    have k3 : Try.prog.cellsOf 3 = 1 := by kernel_rfl
    have k22 : Try.prog.cellsOf 22 = 1 := by kernel_rfl
    simp only [k3, List.drop_succ_cons, List.drop_zero, List.take_succ_cons, List.take_zero] at g0 g1
    simp only [k22, List.drop_succ_cons, List.drop_zero, List.take_succ_cons, List.take_zero] at g2
    obtain ⟨n0, rfl, a0, b0⟩ := trod_int Try.underlying3 g0
    obtain ⟨n1, rfl, a1, b1⟩ := trod_int Try.underlying3 g1
    obtain ⟨b, off, len, room, rows, q1, q2, q3, q4⟩ := open_sliceQ (Q := Fit [.i .u32, .i .i64, .i .i64, .i .u32]) Try.underlying22 (z := 4) (by kernel_rfl) (by decide) (fun m cs x h => flat_fit (ks := [.i .u32, .i .i64, .i .i64, .i .u32]) 9 37 (by kernel_rfl) _ _ _ h) g2
    obtain ⟨l, r1, r2, r3⟩ := px_of_rows (fun s hs => (q2 s hs).2)
    obtain rfl : l.length = len := by omega
    rw [r2] at q3
    exact ⟨n0, n1, c2, b, off, room, l, rfl, ⟨a0, b0⟩, ⟨a1, b1⟩, r3, q3, q4⟩
end Go.Proofs.Ytflgamohploalaa
