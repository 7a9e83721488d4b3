/- image: images that come in; ImageTells: the row. -/
import Derived.Test.YtflgamohploalaaHImD
namespace Go.Proofs.Ytflgamohploalaa
open Go.RowKit Go.ChangeShapes Go.WideShapes EV
set_option maxRecDepth 20000
theorem im_open {H : Type} {enc : TypeId × Value → H} {W : World} {r : Reach} {b0 : Nat} {v : Value} {x : DataW H} {p : List MemPlace} (hv : Value.okWide Try.prog W r b0 24 v) (h : DataW.Trod enc Try.prog W 0 (fun _ => true) true 24 v x p) :
    ∃ (w h : Int) (u : Value) (b off room : Nat) (l : List Px), v = .agg #[.int .i64 w, .int .i64 h, u] ∧ (-9223372036854775808 ≤ w ∧ w ≤ 9223372036854775807) ∧ (-9223372036854775808 ≤ h ∧ h ≤ 9223372036854775807) ∧ (∀ p ∈ l, p.wf) ∧ SrcG W b off room (pvs l) ∧ InA u b off l.length room 4 := by
  obtain ⟨cs, rfl, _⟩ := okWide_struct Try.underlying24 hv
  obtain ⟨n, hn⟩ := h
  have hcs : (Value.agg cs).cells.toList = cs.toList := rfl
  rw [hcs] at hn
  obtain ⟨w, g, u, b, off, room, l, h1, h2⟩ := im_of_trod hn
  refine ⟨w, g, u, b, off, room, l, ?_, h2⟩
  rw [← Array.toArray_toList (xs := cs), h1]
theorem InA.one {v : Value} {b off len room z : Nat} (h : InA v b off len room z) : v.oneCell' = true := by
  rcases h with ⟨cap, rfl, _⟩ | ⟨_, a, rfl⟩ <;> rfl
theorem InA.len {v : Value} {b off len room z : Nat} (h : InA v b off len room z) : len ≤ maxLen := by
  rcases h with ⟨cap, _, h1, h2, _⟩ | ⟨h1, _⟩
  · omega
  · omega
theorem okvs_im {s : Sf} {A : List (Nat × Nat × Nat)} {n b off k room : Nat} {w h : Int} {u : Value} {vs : List V} {us : List Value} (hA : A.getD n (0, 0, 0) = (b, off, room)) (hu : InA u b off k room 4) (hr : OkVs s (envG A) vs us) : OkVs s (envG A) (.a (imC n w h k) :: vs) (.agg #[.int .i64 w, .int .i64 h, u] :: us) :=
  ⟨_, _, rfl, ⟨[.int .i64 w, .int .i64 h, u], rfl, ⟨_, _, rfl, ⟨rfl, fun _ => rfl⟩, _, _, rfl, ⟨rfl, fun _ => rfl⟩, _, _, rfl, ⟨hu.one, fun _ => hu.rep (by show (A.getD n (0, 0, 0)).1 = b; rw [hA]) (by show (A.getD n (0, 0, 0)).2.1 = off; rw [hA]) (by show (A.getD n (0, 0, 0)).2.2 = room; rw [hA])⟩, rfl⟩⟩, hr⟩
end Go.Proofs.Ytflgamohploalaa
