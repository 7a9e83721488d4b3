/- image: in which order fragments are laid makes no difference: plain laws. -/
import Derived.Test.YtflgamohploalaaHInP
import Derived.Test.YtflgamohploalaaHImX
namespace Go.Proofs.Ytflgamohploalaa
open Go.RowKit EV
set_option maxRecDepth 20000
/-- The least one of one and of some more. -/
structure Low (v p : Px) (S : Px → Prop) : Prop where
  le : v.le p
  all : ∀ q, S q → v.le q
  mem : v = p ∨ S v
theorem Low.uniq {v v' p : Px} {S S' : Px → Prop} (h : Low v p S) (h' : Low v' p S') (hS : ∀ q, S q ↔ S' q) : v = v' := by
  refine Px.le_antisymm ?_ ?_
  · rcases h'.mem with e | e
    · rw [e]; exact h.le
    · exact h.all _ ((hS _).2 e)
  · rcases h.mem with e | e
    · rw [e]; exact h'.le
    · exact h'.all _ ((hS _).1 e)
theorem lays_low {w : Int} : ∀ (l : List Fg) (y : List Px) (q : Nat), (∀ f ∈ l, fat w f < y.length) → Low ((lays w y l).getD q Px.zero) (y.getD q Px.zero) (fun r => ∃ f ∈ l, fat w f = q ∧ f.p = r)
  | [], y, q, _ => ⟨Px.le_refl _, fun _ ⟨_, h, _⟩ => (by cases h), .inl rfl⟩
  | f :: l, y, q, hf => by
    have hl : (lay1 w y f).length = y.length := lay1_len w y f
    have ih := lays_low l (lay1 w y f) q (fun g hg => by rw [hl]; exact hf g (by simp [hg]))
    have he : lays w y (f :: l) = lays w (lay1 w y f) l := rfl
    rw [he]
    generalize (lays w (lay1 w y f) l).getD q Px.zero = v at ih
    have ha := hf f (by simp)
    by_cases hq : q = fat w f
    · have e1 : (lay1 w y f).getD q Px.zero = (y.getD q Px.zero).near f.p := by
        rw [(lay1_at ha).1 hq, Px.near_comm]
      rw [e1] at ih
      refine ⟨Px.le_trans ih.le (Px.near_le1 _ _), ?_, ?_⟩
      · rintro r ⟨g, hg, h1, rfl⟩
        rcases List.mem_cons.1 hg with rfl | hg
        · exact Px.le_trans ih.le (Px.near_le2 _ _)
        · exact ih.all _ ⟨g, hg, h1, rfl⟩
      · rcases ih.mem with e | ⟨g, hg, h1, h2⟩
        · rcases Px.near_mem (y.getD q Px.zero) f.p with e2 | e2
          · exact .inl (e.trans e2)
          · exact .inr ⟨f, by simp, hq.symm, (e.trans e2).symm⟩
        · exact .inr ⟨g, by simp [hg], h1, h2⟩
    · rw [(lay1_at ha).2 hq] at ih
      refine ⟨ih.le, ?_, ?_⟩
      · rintro r ⟨g, hg, h1, rfl⟩
        rcases List.mem_cons.1 hg with rfl | hg
        · exact absurd h1.symm hq
        · exact ih.all _ ⟨g, hg, h1, rfl⟩
      · rcases ih.mem with e | ⟨g, hg, h1, h2⟩
        · exact .inl e
        · exact .inr ⟨g, by simp [hg], h1, h2⟩
theorem may_le {p : Px} (h : p.may) : p.le pE := by
  have := Px.near_le2 p pE
  rwa [Px.near_pE h] at this
theorem near_low {a v p : Px} {A S : Px → Prop} (hp : p.le pE) (h1 : Low a pE A) (h2 : Low v p S) : Low (a.near v) p (fun r => A r ∨ S r) := by
  have l1 := Px.near_le1 a v
  have l2 := Px.near_le2 a v
  refine ⟨Px.le_trans l2 h2.le, ?_, ?_⟩
  · rintro q (h | h)
    · exact Px.le_trans l1 (h1.all q h)
    · exact Px.le_trans l2 (h2.all q h)
  · rcases Px.near_mem a v with e | e
    · rcases h1.mem with e1 | e1
      · left
        have := Px.le_trans l2 h2.le
        rw [e, e1] at this
        rw [e, e1]
        exact Px.le_antisymm this hp
      · rw [e]; exact .inr (.inl e1)
    · rw [e]
      rcases h2.mem with e1 | e1
      · exact .inl e1
      · exact .inr (.inr e1)
theorem im_lays {w h : Int} : ∀ {l : List Fg} {y : List Px}, imOk w h y → (∀ f ∈ l, fgOk w h f) → imOk w h (lays w y l)
  | [], _, hy, _ => hy
  | f :: l, y, hy, hf => by
    have h1 := hf f (by simp)
    obtain ⟨_, ha⟩ := fat_is hy h1.1
    have hl := lay1_len w y f
    refine im_lays (y := lay1 w y f) ⟨hy.1, by rw [hl]; exact hy.2.1, fun i hi => ?_⟩ (fun g hg => hf g (by simp [hg]))
    rw [hl] at hi
    unfold mayAt
    by_cases hq : i = fat w f
    · rw [(lay1_at ha).1 hq]
      exact near_may ((Px.may_iff _).2 (.inl h1.2)) (hy.2.2 i hi)
    · rw [(lay1_at ha).2 hq]; exact hy.2.2 i hi
theorem fat_all {w h : Int} {y : List Px} {l : List Fg} (hy : imOk w h y) (hf : ∀ f ∈ l, fgOk w h f) : ∀ f ∈ l, fat w f < y.length := fun f h => (fat_is hy (hf f h).1).2
theorem px_ext' {xs ys : List Px} (hl : xs.length = ys.length) (h : ∀ i, i < xs.length → xs.getD i Px.zero = ys.getD i Px.zero) : xs = ys := by
  apply List.ext_getElem?
  intro i
  rcases Nat.lt_or_ge i xs.length with hi | hi
  · have := h i hi
    rw [List.getD_eq_getElem?_getD, List.getD_eq_getElem?_getD, List.getElem?_eq_getElem hi, List.getElem?_eq_getElem (by omega)] at this
    rw [List.getElem?_eq_getElem hi, List.getElem?_eq_getElem (by omega)]
    simpa using this
  · rw [List.getElem?_eq_none (by omega), List.getElem?_eq_none (by omega)]
/-- Lists with the same fragments make the same of an image. -/
theorem lays_mem {w h : Int} {y : List Px} {l m : List Fg} (hy : imOk w h y) (hl : ∀ f ∈ l, fgOk w h f) (hm : ∀ f ∈ m, fgOk w h f) (he : ∀ f, f ∈ m ↔ f ∈ l) : lays w y m = lays w y l := by
  refine px_ext' (by rw [lays_len, lays_len]) fun q hq => ?_
  exact (lays_low m y q (fat_all hy hm)).uniq (lays_low l y q (fat_all hy hl)) fun r => ⟨fun ⟨f, h1, h2⟩ => ⟨f, (he f).1 h1, h2⟩, fun ⟨f, h1, h2⟩ => ⟨f, (he f).2 h1, h2⟩⟩
/-- Fragments in four parts, each laid on an empty image, and the four merged with the image. -/
theorem four_parts {w h : Int} {xs : List Px} {l p0 p1 p2 p3 : List Fg} {n : Nat} (hx : imOk w h xs) (hn : xs.length = n) (hl : ∀ f ∈ l, fgOk w h f) (he : ∀ f, (f ∈ p0 ∨ f ∈ p1 ∨ f ∈ p2 ∨ f ∈ p3) ↔ f ∈ l) :
    nearL (lays w (List.replicate n pE) p3) (nearL (lays w (List.replicate n pE) p2) (nearL (lays w (List.replicate n pE) p1) (nearL (lays w (List.replicate n pE) p0) xs))) = lays w xs l := by
  have hrp : imOk w h (List.replicate n pE) := im_rep hx.1 (by rw [← hn]; exact hx.2.1)
  have hrl : (List.replicate n pE).length = n := List.length_replicate
  have g0 : ∀ f ∈ p0, fgOk w h f := fun f h => hl f ((he f).1 (.inl h))
  have g1 : ∀ f ∈ p1, fgOk w h f := fun f h => hl f ((he f).1 (.inr (.inl h)))
  have g2 : ∀ f ∈ p2, fgOk w h f := fun f h => hl f ((he f).1 (.inr (.inr (.inl h))))
  have g3 : ∀ f ∈ p3, fgOk w h f := fun f h => hl f ((he f).1 (.inr (.inr (.inr h))))
  have k0 : (lays w (List.replicate n pE) p0).length = n := by rw [lays_len, hrl]
  have k1 : (lays w (List.replicate n pE) p1).length = n := by rw [lays_len, hrl]
  have k2 : (lays w (List.replicate n pE) p2).length = n := by rw [lays_len, hrl]
  have k3 : (lays w (List.replicate n pE) p3).length = n := by rw [lays_len, hrl]
  have s1 : (nearL (lays w (List.replicate n pE) p0) xs).length = n := by rw [nearL_len (by omega)]; exact k0
  have s2 : (nearL (lays w (List.replicate n pE) p1) (nearL (lays w (List.replicate n pE) p0) xs)).length = n := by rw [nearL_len (by omega)]; exact k1
  have s3 : (nearL (lays w (List.replicate n pE) p2) (nearL (lays w (List.replicate n pE) p1) (nearL (lays w (List.replicate n pE) p0) xs))).length = n := by rw [nearL_len (by omega)]; exact k2
  refine px_ext' (by rw [nearL_len (by omega), k3, lays_len, hn]) fun q hq => ?_
  rw [nearL_len (by omega), k3] at hq
  rw [nearL_at (by omega) (by omega), nearL_at (by omega) (by omega), nearL_at (by omega) (by omega), nearL_at (by omega) (by omega)]
  have he0 : (List.replicate n pE).getD q Px.zero = pE := by
    rw [List.getD_eq_getElem?_getD, List.getElem?_replicate, if_pos hq]; rfl
  have hp := may_le (hx.2.2 q (by omega))
  have b0 := lays_low p0 (List.replicate n pE) q (fat_all hrp g0)
  have b1 := lays_low p1 (List.replicate n pE) q (fat_all hrp g1)
  have b2 := lays_low p2 (List.replicate n pE) q (fat_all hrp g2)
  have b3 := lays_low p3 (List.replicate n pE) q (fat_all hrp g3)
  rw [he0] at b0 b1 b2 b3
  have c0 : Low (xs.getD q Px.zero) (xs.getD q Px.zero) (fun _ => False) := ⟨Px.le_refl _, fun _ h => h.elim, .inl rfl⟩
  have c4 := near_low hp b3 (near_low hp b2 (near_low hp b1 (near_low hp b0 c0)))
  refine c4.uniq (lays_low l xs q (fat_all hx hl)) fun r => ⟨?_, ?_⟩
  · rintro (⟨f, h1, h2⟩ | ⟨f, h1, h2⟩ | ⟨f, h1, h2⟩ | ⟨f, h1, h2⟩ | h1)
    · exact ⟨f, (he f).1 (.inr (.inr (.inr h1))), h2⟩
    · exact ⟨f, (he f).1 (.inr (.inr (.inl h1))), h2⟩
    · exact ⟨f, (he f).1 (.inr (.inl h1)), h2⟩
    · exact ⟨f, (he f).1 (.inl h1), h2⟩
    · exact h1.elim
  · rintro ⟨f, h1, h2⟩
    rcases (he f).2 h1 with h3 | h3 | h3 | h3
    · exact .inr (.inr (.inr (.inl ⟨f, h3, h2⟩)))
    · exact .inr (.inr (.inl ⟨f, h3, h2⟩))
    · exact .inr (.inl ⟨f, h3, h2⟩)
    · exact .inl ⟨f, h3, h2⟩
end Go.Proofs.Ytflgamohploalaa
