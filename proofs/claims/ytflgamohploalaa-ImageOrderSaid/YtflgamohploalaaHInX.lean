/- ImageOrder: whatever comes in. -/
import Derived.Test.YtflgamohploalaaHInW
import Derived.Test.YtflgamohploalaaHImU
namespace Go.Proofs.Ytflgamohploalaa
set_option linter.unusedSimpArgs false
set_option linter.unusedVariables false
open Go.RowKit Go.ChangeShapes Go.WideShapes EV
open EW (nums)
set_option maxRecDepth 20000
theorem order_any (xs : List Px) (fs : List Fg) (who : List Int) (w h : Int) (hy : By who) : OrdP xs fs who w h := by
  rcases Nat.lt_or_ge 5000 xs.length with hx | hx
  · exact order_far1 xs fs who w h hx
  rcases Nat.lt_or_ge 300 fs.length with hf | hf
  · exact order_far2 xs fs who w h hx hf
  by_cases hi : imOk w h xs
  · by_cases hs : ∀ i, i < fs.length → fgOk w h (fs.getD i Fg.zero)
    · exact order_ok xs fs who w h hi hf (ok_mem hs) hy
    · obtain ⟨t, t1, t2, t3⟩ := first_bad hs
      exact order_bad xs fs who w h hx hf (ilay_bad2 false false xs fs w h t hi (by omega) t1 t2 t3)
  · exact order_bad xs fs who w h hx hf (ilay_bad1 false false xs fs w h (by omega) hi)
theorem order_row (W : World) {w h : Int} {u v1 v2 : Value} {b off room b1 o1 len1 room1 b2 o2 len2 room2 : Nat} {xs : List Px} {rows1 rows2 : List (List Value)}
    (hl1 : rows1.length = len1) (ft1 : ∀ s ∈ rows1, Fit [.i .i64, .i .i64, .i .u32, .i .i64, .i .i64, .i .u32] s) (sr1 : SrcG W b1 o1 room1 rows1.flatten) (hv1 : InG v1 b1 o1 len1 room1 6)
    (hl2 : rows2.length = len2) (ft2 : ∀ s ∈ rows2, Fit [.i .u8] s) (sr2 : SrcG W b2 o2 room2 rows2.flatten) (hv2 : InG v2 b2 o2 len2 room2 1)
    (_ : -9223372036854775808 ≤ w ∧ w ≤ 9223372036854775807) (_ : -9223372036854775808 ≤ h ∧ h ≤ 9223372036854775807) (_ : ∀ p ∈ xs, p.wf) (s0 : SrcG W b off room (pvs xs)) (i0 : InA u b off xs.length room 4) :
    Calls Try.prog 7 #[.agg #[.int .i64 w, .int .i64 h, u], v1, v2] W fun e w' => e = .returned (.bool true) ∧ Below W.heap.size W w' := by
  obtain ⟨fs, g1, g2, _⟩ := fg_of_rows ft1
  rw [g2] at sr1
  obtain rfl : fs.length = len1 := by omega
  obtain ⟨who, c1, c2, c3⟩ := bytes_of_rows ft2
  rw [c2] at sr2
  obtain rfl : who.length = len2 := by omega
  have hT := order_any xs fs who w h c3
  have := calls_rowsG (us := [.agg #[.int .i64 w, .int .i64 h, u], v1, v2]) (Ls := [pvs xs, fgs fs, nums .u8 who]) (A := [(b, off, room), (b1, o1, room1), (b2, o2, room2)]) (w := W) hT rfl (by decide)
    (fun i L hi => by
      match i, hi with
      | 0, hi => simp only [List.getElem?_cons_zero, Option.some.injEq] at hi; subst hi; exact ⟨s0, pvs_one xs⟩
      | 1, hi => simp only [List.getElem?_cons_succ, List.getElem?_cons_zero, Option.some.injEq] at hi; subst hi; exact ⟨sr1, fgs_one fs⟩
      | 2, hi => simp only [List.getElem?_cons_succ, List.getElem?_cons_zero, Option.some.injEq] at hi; subst hi; exact ⟨sr2, nums_one .u8 who⟩
      | i + 3, hi => simp at hi)
    (okvs_im rfl i0 (okvs_sliceG rfl hv1 (okvs_sliceG rfl hv2 okvs_nil)))
    (fun v hv n hn => by
      simp only [List.mem_cons, List.not_mem_nil, or_false] at hv
      rcases hv with rfl | rfl | rfl <;> simp [V.names, C.names, List.flatMap_cons] at hn <;> simp [hn])
  exact this
end Go.Proofs.Ytflgamohploalaa
