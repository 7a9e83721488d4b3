/- image: images that come in; ImageTells: the row. -/
import Derived.Test.YtflgamohploalaaHImD
namespace Go.Proofs.Ytflgamohploalaa
open Go.RowKit Go.ChangeShapes Go.WideShapes EV
set_option maxRecDepth 20000
theorem im_open {H : Type} {enc : TypeId × Value → H} {W : World} {r : Reach} {b0 : Nat} {v : Value} {x : DataW H} {p : List MemPlace} (hv : Value.okWide Try.prog W r b0 24 v) (h : DataW.Trod enc Try.prog W 0 (fun _ => true) true 24 v x p) :
    ∃ (w h : Int) (u : Value) (b off room : Nat) (l : List Px), v = .agg #[.int .i64 w, .int .i64 h, u] ∧ (-9223372036854775808 ≤ w ∧ w ≤ 9223372036854775807) ∧ (-9223372036854775808 ≤ h ∧ h ≤ 9223372036854775807) ∧ (∀ p ∈ l, p.wf) ∧ SrcG W b off room (pvs l) ∧ InA u b off l.length room 4 := by
  obtain ⟨cs, rfl, _⟩ := okWide_struct Try.underlying24 hv
  obtain ⟨n, hn⟩ := h
  have hcs : (Value.agg cs).cells.toList = cs.toList := rfl
  rw [hcs] at hn
  obtain ⟨w, g, u, b, off, room, l, h1, h2⟩ := im_of_trod hn
  refine ⟨w, g, u, b, off, room, l, ?_, h2⟩
  rw [← Array.toArray_toList (xs := cs), h1]
theorem InA.one {v : Value} {b off len room z : Nat} (h : InA v b off len room z) : v.oneCell' = true := by
  rcases h with ⟨cap, rfl, _⟩ | ⟨_, a, rfl⟩ <;> rfl
theorem InA.len {v : Value} {b off len room z : Nat} (h : InA v b off len room z) : len ≤ maxLen := by
  rcases h with ⟨cap, _, h1, h2, _⟩ | ⟨h1, _⟩
  · omega
  · omega
theorem okvs_im {s : Sf} {A : List (Nat × Nat × Nat)} {n b off k room : Nat} {w h : Int} {u : Value} {vs : List V} {us : List Value} (hA : A.getD n (0, 0, 0) = (b, off, room)) (hu : InA u b off k room 4) (hr : OkVs s (envG A) vs us) : OkVs s (envG A) (.a (imC n w h k) :: vs) (.agg #[.int .i64 w, .int .i64 h, u] :: us) :=
  ⟨_, _, rfl, ⟨[.int .i64 w, .int .i64 h, u], rfl, ⟨_, _, rfl, ⟨rfl, fun _ => rfl⟩, _, _, rfl, ⟨rfl, fun _ => rfl⟩, _, _, rfl, ⟨hu.one, fun _ => hu.rep (by show (A.getD n (0, 0, 0)).1 = b; rw [hA]) (by show (A.getD n (0, 0, 0)).2.1 = off; rw [hA]) (by show (A.getD n (0, 0, 0)).2.2 = room; rw [hA])⟩, rfl⟩⟩, hr⟩
theorem tells_any (xs ys l : List Px) (w h w' h' : Int) : TL xs ys l w h w' h' := by
  rcases Nat.lt_or_ge 5000 xs.length with hx | hx
  · exact tells_far1 xs ys l w h w' h' hx
  rcases Nat.lt_or_ge 5000 ys.length with hy | hy
  · exact tells_far2 xs ys l w h w' h' hx hy
  rcases Nat.lt_or_ge 5000 l.length with hl | hl
  · exact tells_far3 xs ys l w h w' h' hx hy hl
  by_cases hi : imOk w h xs
  · obtain ⟨w2, h2, rfl, rfl, a1, a2, a3, _, a4, a5, a6⟩ := imOk_nat hi
    exact tells_y xs ys l w2 h2 w' h' hx hy hl hi a1 a2 a3 a4 a5 a6
  · exact tells_n xs ys l w h w' h' hx hy hl hi
theorem tells_row (W : World) {w h w' h' : Int} {u u' v : Value} {b off room b' off' room' b2 o2 len2 room2 : Nat} {xs ys : List Px} {rows : List (List Value)} (hl : rows.length = len2) (ft : ∀ s ∈ rows, Fit [.i .u32, .i .i64, .i .i64, .i .u32] s) (sr : SrcG W b2 o2 room2 rows.flatten) (hv : InG v b2 o2 len2 room2 4)
    (_ : -9223372036854775808 ≤ w ∧ w ≤ 9223372036854775807) (_ : -9223372036854775808 ≤ h ∧ h ≤ 9223372036854775807) (_ : ∀ p ∈ xs, p.wf) (s0 : SrcG W b off room (pvs xs)) (i0 : InA u b off xs.length room 4)
    (_ : -9223372036854775808 ≤ w' ∧ w' ≤ 9223372036854775807) (_ : -9223372036854775808 ≤ h' ∧ h' ≤ 9223372036854775807) (_ : ∀ p ∈ ys, p.wf) (s1 : SrcG W b' off' room' (pvs ys)) (i1 : InA u' b' off' ys.length room' 4) :
    Calls Try.prog 3 #[.agg #[.int .i64 w, .int .i64 h, u], .agg #[.int .i64 w', .int .i64 h', u'], v] W fun e w' => e = .returned (.bool true) ∧ Below W.heap.size W w' := by
  obtain ⟨l, h1, h2, _⟩ := px_of_rows ft
  rw [h2] at sr
  obtain rfl : l.length = len2 := by omega
  obtain ⟨s, hT⟩ := tells_any xs ys l w h w' h'
  have := calls_rowsG (us := [.agg #[.int .i64 w, .int .i64 h, u], .agg #[.int .i64 w', .int .i64 h', u'], v]) (Ls := [pvs xs, pvs ys, pvs l]) (A := [(b, off, room), (b', off', room'), (b2, o2, room2)]) (w := W) hT rfl (by decide)
    (fun i L hi => by
      match i, hi with
      | 0, hi => simp only [List.getElem?_cons_zero, Option.some.injEq] at hi; subst hi; exact ⟨s0, pvs_one xs⟩
      | 1, hi => simp only [List.getElem?_cons_succ, List.getElem?_cons_zero, Option.some.injEq] at hi; subst hi; exact ⟨s1, pvs_one ys⟩
      | 2, hi => simp only [List.getElem?_cons_succ, List.getElem?_cons_zero, Option.some.injEq] at hi; subst hi; exact ⟨sr, pvs_one l⟩
      | i + 3, hi => simp at hi)
    (okvs_im rfl i0 (okvs_im rfl i1 (okvs_sliceG rfl hv okvs_nil)))
    (fun v hv n hn => by
      simp only [List.mem_cons, List.not_mem_nil, or_false] at hv
      rcases hv with rfl | rfl | rfl <;> simp [V.names, C.names, List.flatMap_cons] at hn <;> simp [hn])
  exact this
end Go.Proofs.Ytflgamohploalaa
