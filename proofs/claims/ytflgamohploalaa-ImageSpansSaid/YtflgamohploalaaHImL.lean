/- ImageSpans: whatever comes in. -/
import Derived.Test.YtflgamohploalaaHImK
namespace Go.Proofs.Ytflgamohploalaa
open Go.RowKit Go.ChangeShapes Go.WideShapes EV
set_option maxRecDepth 20000
theorem spans_any (xs l m : List Px) (w h n0 n1 : Int) : SP xs l m w h n0 n1 := by
  rcases Nat.lt_or_ge 5000 xs.length with hx | hx
  · exact spans_far1 xs l m w h n0 n1 hx
  by_cases hl : 5000 < l.length ∨ 5000 < m.length
  · exact spans_far2 xs l m w h n0 n1 hx hl
  · exact spans_ok xs l m w h n0 n1 hx (by omega) (by omega)
theorem spans_row (W : World) (n0 n1 : Int) {w h : Int} {u v1 v2 : Value} {b off room b1 o1 len1 room1 b2 o2 len2 room2 : Nat} {xs : List Px} {rows1 rows2 : List (List Value)}
    (hl1 : rows1.length = len1) (ft1 : ∀ s ∈ rows1, Fit [.i .u32, .i .i64, .i .i64, .i .u32] s) (sr1 : SrcG W b1 o1 room1 rows1.flatten) (hv1 : InG v1 b1 o1 len1 room1 4)
    (hl2 : rows2.length = len2) (ft2 : ∀ s ∈ rows2, Fit [.i .u32, .i .i64, .i .i64, .i .u32] s) (sr2 : SrcG W b2 o2 room2 rows2.flatten) (hv2 : InG v2 b2 o2 len2 room2 4)
    (_ : -9223372036854775808 ≤ w ∧ w ≤ 9223372036854775807) (_ : -9223372036854775808 ≤ h ∧ h ≤ 9223372036854775807) (_ : ∀ p ∈ xs, p.wf) (s0 : SrcG W b off room (pvs xs)) (i0 : InA u b off xs.length room 4) :
    Calls Try.prog 4 #[.agg #[.int .i64 w, .int .i64 h, u], v1, v2, .agg #[.int .i64 n0, .int .i64 n1]] W fun e w' => e = .returned (.bool true) ∧ Below W.heap.size W w' := by
  obtain ⟨l, g1, g2, _⟩ := px_of_rows ft1
  rw [g2] at sr1
  obtain rfl : l.length = len1 := by omega
  obtain ⟨m, k1, k2, _⟩ := px_of_rows ft2
  rw [k2] at sr2
  obtain rfl : m.length = len2 := by omega
  have hT := spans_any xs l m w h n0 n1
  have := calls_rowsG (us := [.agg #[.int .i64 w, .int .i64 h, u], v1, v2, .agg #[.int .i64 n0, .int .i64 n1]]) (Ls := [pvs xs, pvs l, pvs m]) (A := [(b, off, room), (b1, o1, room1), (b2, o2, room2)]) (w := W) hT rfl (by decide)
    (fun i L hi => by
      match i, hi with
      | 0, hi => simp only [List.getElem?_cons_zero, Option.some.injEq] at hi; subst hi; exact ⟨s0, pvs_one xs⟩
      | 1, hi => simp only [List.getElem?_cons_succ, List.getElem?_cons_zero, Option.some.injEq] at hi; subst hi; exact ⟨sr1, pvs_one l⟩
      | 2, hi => simp only [List.getElem?_cons_succ, List.getElem?_cons_zero, Option.some.injEq] at hi; subst hi; exact ⟨sr2, pvs_one m⟩
      | i + 3, hi => simp at hi)
    (okvs_im rfl i0 (okvs_sliceG rfl hv1 (okvs_sliceG rfl hv2 (okvs_plain (.a (.cons (.cons .nil))) rfl okvs_nil))))
    (fun v hv n hn => by
      simp only [List.mem_cons, List.not_mem_nil, or_false] at hv
      rcases hv with rfl | rfl | rfl | rfl <;> simp [V.names, C.names, List.flatMap_cons] at hn <;> simp [hn])
  exact this
end Go.Proofs.Ytflgamohploalaa
