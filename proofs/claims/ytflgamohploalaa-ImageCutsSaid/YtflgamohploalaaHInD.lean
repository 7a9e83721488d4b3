/- ImageCuts: whatever comes in. -/
import Derived.Test.YtflgamohploalaaHInC
namespace Go.Proofs.Ytflgamohploalaa
open Go.RowKit Go.ChangeShapes Go.WideShapes EV
set_option maxRecDepth 20000
theorem cuts_any (xs ys : List Px) (w h w' h' at0 : Int) (h0 : 0 ≤ at0) (h1 : at0 ≤ 65535) : CutP xs ys w h w' h' at0 := by
  rcases Nat.lt_or_ge 5000 xs.length with hx | hx
  · exact cuts_far1 xs ys w h w' h' at0 hx
  rcases Nat.lt_or_ge 5000 ys.length with hy | hy
  · exact cuts_far2 xs ys w h w' h' at0 hx hy
  by_cases hb : imOk w h xs ∧ imOk w' h' ys
  · obtain ⟨g1, g2⟩ := hb
    by_cases he : w = w' ∧ h = h'
    · obtain ⟨rfl, rfl⟩ := he
      exact cuts_ok xs ys w h at0 g1 g2 h0 h1
    · exact cuts_bad xs ys w h w' h' at0 141 hx hy (.inr rfl) (imerge_un false false xs ys w h w' h' (by omega) (by omega) g1 g2 he)
  · exact cuts_bad xs ys w h w' h' at0 140 hx hy (.inl rfl) (imerge_bad false false xs ys w h w' h' (by omega) (by omega) hb)
theorem cuts_row (W : World) (at0 : Int) {w h w' h' : Int} {u u' : Value} {b off room b' off' room' : Nat} {xs ys : List Px}
    (_ : -9223372036854775808 ≤ w ∧ w ≤ 9223372036854775807) (_ : -9223372036854775808 ≤ h ∧ h ≤ 9223372036854775807) (_ : ∀ p ∈ xs, p.wf) (s0 : SrcG W b off room (pvs xs)) (i0 : InA u b off xs.length room 4)
    (_ : -9223372036854775808 ≤ w' ∧ w' ≤ 9223372036854775807) (_ : -9223372036854775808 ≤ h' ∧ h' ≤ 9223372036854775807) (_ : ∀ p ∈ ys, p.wf) (s1 : SrcG W b' off' room' (pvs ys)) (i1 : InA u' b' off' ys.length room' 4)
    (h0 : 0 ≤ at0) (h1 : at0 < 65536) :
    Calls Try.prog 10 #[.agg #[.int .i64 w, .int .i64 h, u], .agg #[.int .i64 w', .int .i64 h', u'], .int .u16 at0] W fun e w' => e = .returned (.bool true) ∧ Below W.heap.size W w' := by
  have hT := cuts_any xs ys w h w' h' at0 h0 (by omega)
  have := calls_rowsG (us := [.agg #[.int .i64 w, .int .i64 h, u], .agg #[.int .i64 w', .int .i64 h', u'], .int .u16 at0]) (Ls := [pvs xs, pvs ys]) (A := [(b, off, room), (b', off', room')]) (w := W) hT rfl (by decide)
    (fun i L hi => by
      match i, hi with
      | 0, hi => simp only [List.getElem?_cons_zero, Option.some.injEq] at hi; subst hi; exact ⟨s0, pvs_one xs⟩
      | 1, hi => simp only [List.getElem?_cons_succ, List.getElem?_cons_zero, Option.some.injEq] at hi; subst hi; exact ⟨s1, pvs_one ys⟩
      | i + 2, hi => simp at hi)
    (okvs_im rfl i0 (okvs_im rfl i1 (okvs_plain .c rfl okvs_nil)))
    (fun v hv n hn => by
      simp only [List.mem_cons, List.not_mem_nil, or_false] at hv
      rcases hv with rfl | rfl | rfl <;> simp [V.names, C.names, List.flatMap_cons] at hn <;> simp [hn])
  exact this
end Go.Proofs.Ytflgamohploalaa
