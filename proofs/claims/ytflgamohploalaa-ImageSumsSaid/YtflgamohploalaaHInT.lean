/- ImageSums: whatever comes in. -/
import Derived.Test.YtflgamohploalaaHInS
namespace Go.Proofs.Ytflgamohploalaa
open Go.RowKit Go.ChangeShapes Go.WideShapes EV
set_option maxRecDepth 20000
theorem sums_any (xs ys zs : List Px) (w h w' h' w3 h3 : Int) : SumP xs ys zs w h w' h' w3 h3 := by
  rcases Nat.lt_or_ge 5000 xs.length with hx | hx
  · exact sums_far1 xs ys zs w h w' h' w3 h3 hx
  rcases Nat.lt_or_ge 5000 ys.length with hy | hy
  · exact sums_far2 xs ys zs w h w' h' w3 h3 hx hy
  rcases Nat.lt_or_ge 5000 zs.length with hz | hz
  · exact sums_far3 xs ys zs w h w' h' w3 h3 hx hy hz
  by_cases hb : imOk w h xs ∧ imOk w' h' ys
  · obtain ⟨h1, h2⟩ := hb
    by_cases he : w = w' ∧ h = h'
    · obtain ⟨rfl, rfl⟩ := he
      have hA := im_near h1 h2
      have hAl := im_len hA
      have hyl := im_len h2
      by_cases h3' : imOk w3 h3 zs
      · by_cases he3 : w = w3 ∧ h = h3
        · obtain ⟨rfl, rfl⟩ := he3
          have hB := im_near h2 h3'
          have hC := im_near hA h3'
          have hD := im_near h1 hB
          exact sums_ok2 xs ys zs w h w h w h w h w h _ _ _ h1 h2 hz (imerge_y true false _ zs w h hA h3') (imerge_y false false ys zs w h h2 h3') (imerge_y false true xs _ w h h1 hB)
            (isame_y true true w h w h _ _ (by have := im_len hC; omega) (by have := im_len hD; omega) rfl rfl (nearL_assoc (im_same h1 h2) (im_same h1 h3')))
        · exact sums_ok1 xs ys zs w h w3 h3 0 0 0 0 [] [] 141 h1 h2 hz (imerge_un true false _ zs w h w3 h3 (by omega) (by omega) hA h3' he3) (imerge_un false false ys zs w h w3 h3 (by omega) (by omega) h2 h3' he3) (by omega)
      · exact sums_ok1 xs ys zs w h w3 h3 0 0 0 0 [] [] 140 h1 h2 hz (imerge_bad true false _ zs w h w3 h3 (by omega) (by omega) (fun x => h3' x.2)) (imerge_bad false false ys zs w h w3 h3 (by omega) (by omega) (fun x => h3' x.2)) (by omega)
    · exact sums_bad xs ys zs w h w' h' w3 h3 141 hx hy hz (by omega) (imerge_un false false xs ys w h w' h' (by omega) (by omega) h1 h2 he) (imerge_un false false ys xs w' h' w h (by omega) (by omega) h2 h1 (fun x => he ⟨x.1.symm, x.2.symm⟩))
  · exact sums_bad xs ys zs w h w' h' w3 h3 140 hx hy hz (by omega) (imerge_bad false false xs ys w h w' h' (by omega) (by omega) hb) (imerge_bad false false ys xs w' h' w h (by omega) (by omega) (fun x => hb ⟨x.2, x.1⟩))
theorem sums_row (W : World) {w h w' h' w3 h3 : Int} {u u' u3 : Value} {b off room b' off' room' b3 off3 room3 : Nat} {xs ys zs : List Px}
    (_ : -9223372036854775808 ≤ w ∧ w ≤ 9223372036854775807) (_ : -9223372036854775808 ≤ h ∧ h ≤ 9223372036854775807) (_ : ∀ p ∈ xs, p.wf) (s0 : SrcG W b off room (pvs xs)) (i0 : InA u b off xs.length room 4)
    (_ : -9223372036854775808 ≤ w' ∧ w' ≤ 9223372036854775807) (_ : -9223372036854775808 ≤ h' ∧ h' ≤ 9223372036854775807) (_ : ∀ p ∈ ys, p.wf) (s1 : SrcG W b' off' room' (pvs ys)) (i1 : InA u' b' off' ys.length room' 4)
    (_ : -9223372036854775808 ≤ w3 ∧ w3 ≤ 9223372036854775807) (_ : -9223372036854775808 ≤ h3 ∧ h3 ≤ 9223372036854775807) (_ : ∀ p ∈ zs, p.wf) (s2 : SrcG W b3 off3 room3 (pvs zs)) (i2 : InA u3 b3 off3 zs.length room3 4) :
    Calls Try.prog 8 #[.agg #[.int .i64 w, .int .i64 h, u], .agg #[.int .i64 w', .int .i64 h', u'], .agg #[.int .i64 w3, .int .i64 h3, u3]] W fun e w' => e = .returned (.bool true) ∧ Below W.heap.size W w' := by
  have hT := sums_any xs ys zs w h w' h' w3 h3
  have := calls_rowsG (us := [.agg #[.int .i64 w, .int .i64 h, u], .agg #[.int .i64 w', .int .i64 h', u'], .agg #[.int .i64 w3, .int .i64 h3, u3]]) (Ls := [pvs xs, pvs ys, pvs zs]) (A := [(b, off, room), (b', off', room'), (b3, off3, room3)]) (w := W) hT rfl (by decide)
    (fun i L hi => by
      match i, hi with
      | 0, hi => simp only [List.getElem?_cons_zero, Option.some.injEq] at hi; subst hi; exact ⟨s0, pvs_one xs⟩
      | 1, hi => simp only [List.getElem?_cons_succ, List.getElem?_cons_zero, Option.some.injEq] at hi; subst hi; exact ⟨s1, pvs_one ys⟩
      | 2, hi => simp only [List.getElem?_cons_succ, List.getElem?_cons_zero, Option.some.injEq] at hi; subst hi; exact ⟨s2, pvs_one zs⟩
      | i + 3, hi => simp at hi)
    (okvs_im rfl i0 (okvs_im rfl i1 (okvs_im rfl i2 okvs_nil)))
    (fun v hv n hn => by
      simp only [List.mem_cons, List.not_mem_nil, or_false] at hv
      rcases hv with rfl | rfl | rfl <;> simp [V.names, C.names, List.flatMap_cons] at hn <;> simp [hn])
  exact this
end Go.Proofs.Ytflgamohploalaa
