/- RleOver: whatever comes in. -/
import Derived.Test.YtnmkpekfkfckoaaHRmI
namespace Go.Proofs.Ytnmkpekfkfckoaa
set_option linter.unusedSimpArgs false
set_option linter.unusedVariables false
open Go.RowKit Go.ChangeShapes Go.WideShapes EV
open EW (PlL PlT PlV PlVs nums)
set_option maxRecDepth 20000
theorem rover_any (l m o : List Px) (wm : ∀ i, i < m.length → (m.getD i Px.zero).wf) (wo : ∀ i, i < o.length → (o.getD i Px.zero).wf) : RO_ l m o := by
  rcases Nat.lt_or_ge 4200 l.length with h1 | h1
  · exact rover_f1 l m o h1
  rcases Nat.lt_or_ge 4200 m.length with h2 | h2
  · exact rover_f2 l m o h1 h2
  rcases Nat.lt_or_ge 4200 o.length with h3 | h3
  · exact rover_f3 l m o h1 h2 h3
  by_cases hs : spOk m ∧ spOk o
  · exact rover_y l m o h1 h2 h3 ⟨hs.1, wm⟩ ⟨hs.2, wo⟩
  · exact rover_n l m o h1 h2 h3 wm wo hs
theorem rover_row (W : World) {b0 o0 len0 room0 b1 o1 len1 room1 b2 o2 len2 room2 : Nat} {rows0 rows1 rows2 : List (List Value)} {v0 v1 v2 : Value} (hl0 : rows0.length = len0) (ft0 : ∀ s ∈ rows0, Fit [.i .u32, .i .i64, .i .i64, .i .u32] s) (sr0 : SrcG W b0 o0 room0 rows0.flatten) (hv0 : InG v0 b0 o0 len0 room0 4)
    (hl1 : rows1.length = len1) (ft1 : ∀ s ∈ rows1, Fit [.i .u32, .i .i64, .i .i64, .i .u32] s) (sr1 : SrcG W b1 o1 room1 rows1.flatten) (hv1 : InG v1 b1 o1 len1 room1 4)
    (hl2 : rows2.length = len2) (ft2 : ∀ s ∈ rows2, Fit [.i .u32, .i .i64, .i .i64, .i .u32] s) (sr2 : SrcG W b2 o2 room2 rows2.flatten) (hv2 : InG v2 b2 o2 len2 room2 4) :
    Calls Try.prog 7 #[v0, v1, v2] W fun e w' => e = .returned (.bool true) ∧ Below W.heap.size W w' := by
  obtain ⟨l, c1, c2, c3⟩ := px_of_rows ft0
  rw [c2] at sr0
  obtain rfl : l.length = len0 := by omega
  obtain ⟨m, d1, d2, d3⟩ := px_of_rows ft1
  rw [d2] at sr1
  obtain rfl : m.length = len1 := by omega
  obtain ⟨o, e1, e2, e3⟩ := px_of_rows ft2
  rw [e2] at sr2
  obtain rfl : o.length = len2 := by omega
  exact calls_rowsG (us := [v0, v1, v2]) (Ls := [pvs l, pvs m, pvs o]) (A := [(b0, o0, room0), (b1, o1, room1), (b2, o2, room2)]) (w := W) (rover_any l m o (wf_of d3) (wf_of e3)) rfl (by decide)
    (fun i L hi => by
      match i, hi with
      | 0, hi => simp only [List.getElem?_cons_zero, Option.some.injEq] at hi; subst hi; exact ⟨sr0, pvs_one l⟩
      | 1, hi => simp only [List.getElem?_cons_succ, List.getElem?_cons_zero, Option.some.injEq] at hi; subst hi; exact ⟨sr1, pvs_one m⟩
      | 2, hi => simp only [List.getElem?_cons_succ, List.getElem?_cons_zero, Option.some.injEq] at hi; subst hi; exact ⟨sr2, pvs_one o⟩
      | i + 3, hi => simp at hi)
    (okvs_sliceG rfl hv0 (okvs_sliceG rfl hv1 (okvs_sliceG rfl hv2 okvs_nil)))
    (fun v hv n hn => by
      simp only [List.mem_cons, List.not_mem_nil, or_false] at hv
      rcases hv with rfl | rfl | rfl <;> simp [V.names, C.names, List.flatMap_cons] at hn <;> simp [hn])
end Go.Proofs.Ytnmkpekfkfckoaa
