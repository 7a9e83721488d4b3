/- ImageLays: whatever comes in. -/
import Derived.Test.YtflgamohploalaaHImS
namespace Go.Proofs.Ytflgamohploalaa
open Go.RowKit Go.ChangeShapes Go.WideShapes EV
set_option maxRecDepth 20000
theorem lays_any (xs ys : List Px) (fs : List Fg) (w h w' h' n0 n1 : Int) : LS xs ys fs w h w' h' n0 n1 := by
  rcases Nat.lt_or_ge 5000 xs.length with hx | hx
  · exact lays_far1 xs ys fs w h w' h' n0 n1 hx
  rcases Nat.lt_or_ge 5000 ys.length with hy | hy
  · exact lays_far2 xs ys fs w h w' h' n0 n1 hx hy
  rcases Nat.lt_or_ge 300 fs.length with hf | hf
  · exact lays_far3 xs ys fs w h w' h' n0 n1 hx hy hf
  · exact lays_ok xs ys fs w h w' h' n0 n1 hx hy hf
abbrev Fg.wf (f : Fg) : Prop := (-9223372036854775808 ≤ f.x ∧ f.x ≤ 9223372036854775807) ∧ (-9223372036854775808 ≤ f.y ∧ f.y ≤ 9223372036854775807) ∧ f.p.wf
theorem fg_of_rows : ∀ {rows : List (List Value)}, (∀ s ∈ rows, Fit [.i .i64, .i .i64, .i .u32, .i .i64, .i .i64, .i .u32] s) → ∃ l : List Fg, l.length = rows.length ∧ rows.flatten = fgs l ∧ ∀ f ∈ l, f.wf
  | [], _ => ⟨[], rfl, rfl, fun x hx => by cases hx⟩
  | r :: rows, h => by
    obtain ⟨l, h1, h2, h3⟩ := fg_of_rows (rows := rows) (fun s hs => h s (by simp [hs]))
    obtain ⟨x, _, rfl, e0, e1, y, _, rfl, f0, f1, z, _, rfl, a0, a1, o, _, rfl, b0, b1, t, _, rfl, c0, c1, c, _, rfl, d0, d1, rfl⟩ := h r (by simp)
    refine ⟨⟨x, y, ⟨z, o, t, c⟩⟩ :: l, by simp [h1], by rw [List.flatten_cons, h2]; rfl, fun f hf => ?_⟩
    rcases List.mem_cons.1 hf with rfl | hf
    · exact ⟨rg_i64 ⟨e0, e1⟩, rg_i64 ⟨f0, f1⟩, rg_u32 ⟨a0, a1⟩, rg_i64 ⟨b0, b1⟩, rg_i64 ⟨c0, c1⟩, rg_u32 ⟨d0, d1⟩⟩
    · exact h3 f hf
theorem fgs_one (l : List Fg) : ∀ x ∈ fgs l, x.oneCell' = true := by
  intro x hx
  simp only [fgs, List.mem_flatMap] at hx
  obtain ⟨p, _, hx⟩ := hx
  simp only [Fg.vals, List.mem_cons, List.not_mem_nil, or_false] at hx
  rcases hx with rfl | rfl | rfl | rfl | rfl | rfl <;> rfl
theorem lays_row (W : World) (n0 n1 : Int) {w h w' h' : Int} {u u' v2 : Value} {b off room b' off' room' b2 o2 len2 room2 : Nat} {xs ys : List Px} {rows2 : List (List Value)}
    (hl2 : rows2.length = len2) (ft2 : ∀ s ∈ rows2, Fit [.i .i64, .i .i64, .i .u32, .i .i64, .i .i64, .i .u32] s) (sr2 : SrcG W b2 o2 room2 rows2.flatten) (hv2 : InG v2 b2 o2 len2 room2 6)
    (_ : -9223372036854775808 ≤ w ∧ w ≤ 9223372036854775807) (_ : -9223372036854775808 ≤ h ∧ h ≤ 9223372036854775807) (_ : ∀ p ∈ xs, p.wf) (s0 : SrcG W b off room (pvs xs)) (i0 : InA u b off xs.length room 4)
    (_ : -9223372036854775808 ≤ w' ∧ w' ≤ 9223372036854775807) (_ : -9223372036854775808 ≤ h' ∧ h' ≤ 9223372036854775807) (_ : ∀ p ∈ ys, p.wf) (s1 : SrcG W b' off' room' (pvs ys)) (i1 : InA u' b' off' ys.length room' 4) :
    Calls Try.prog 5 #[.agg #[.int .i64 w, .int .i64 h, u], .agg #[.int .i64 w', .int .i64 h', u'], v2, .agg #[.int .i64 n0, .int .i64 n1]] W fun e w' => e = .returned (.bool true) ∧ Below W.heap.size W w' := by
  obtain ⟨fs, g1, g2, _⟩ := fg_of_rows ft2
  rw [g2] at sr2
  obtain rfl : fs.length = len2 := by omega
  have hT := lays_any xs ys fs w h w' h' n0 n1
  have := calls_rowsG (us := [.agg #[.int .i64 w, .int .i64 h, u], .agg #[.int .i64 w', .int .i64 h', u'], v2, .agg #[.int .i64 n0, .int .i64 n1]]) (Ls := [pvs xs, pvs ys, fgs fs]) (A := [(b, off, room), (b', off', room'), (b2, o2, room2)]) (w := W) hT rfl (by decide)
    (fun i L hi => by
      match i, hi with
      | 0, hi => simp only [List.getElem?_cons_zero, Option.some.injEq] at hi; subst hi; exact ⟨s0, pvs_one xs⟩
      | 1, hi => simp only [List.getElem?_cons_succ, List.getElem?_cons_zero, Option.some.injEq] at hi; subst hi; exact ⟨s1, pvs_one ys⟩
      | 2, hi => simp only [List.getElem?_cons_succ, List.getElem?_cons_zero, Option.some.injEq] at hi; subst hi; exact ⟨sr2, fgs_one fs⟩
      | i + 3, hi => simp at hi)
    (okvs_im rfl i0 (okvs_im rfl i1 (okvs_sliceG rfl hv2 (okvs_plain (.a (.cons (.cons .nil))) rfl okvs_nil))))
    (fun v hv n hn => by
      simp only [List.mem_cons, List.not_mem_nil, or_false] at hv
      rcases hv with rfl | rfl | rfl | rfl <;> simp [V.names, C.names, List.flatMap_cons] at hn <;> simp [hn])
  exact this
end Go.Proofs.Ytflgamohploalaa
