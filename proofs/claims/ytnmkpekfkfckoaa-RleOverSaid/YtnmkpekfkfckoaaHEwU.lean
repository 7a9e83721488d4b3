import Derived.Test.YtnmkpekfkfckoaaHEwS
import Derived.Test.YtnmkpekfkfckoaaHEw9
/- Walking over named blocks: a part with three bounds of a block that came in gets a name of its own. No program in sight. -/
/- image: signs of pixels, rows as texts. -/
namespace Go.Proofs.Ytnmkpekfkfckoaa
set_option linter.unusedSimpArgs false
set_option linter.unusedVariables false
open Go.RowKit EV
open SX (Wr Tv Qu Rm Sh Is conjP eqs_iff eqs_false)
open EW (PlL PlT PlV PlVs LfV Mm Bt Opn GV YT lpOf nums)
set_option maxRecDepth 20000
theorem pvs_take : ∀ (l : List Px) (k : Nat), (pvs l).take (k * 4) = pvs (l.take k)
  | [], k => by simp [pvs]
  | p :: l, 0 => by simp [pvs]
  | p :: l, k + 1 => by
    have := pvs_take l k
    rw [show (k + 1) * 4 = k * 4 + 1 + 1 + 1 + 1 by omega]
    simpa [pvs, Px.vals] using this
theorem pvs_drop : ∀ (l : List Px) (k : Nat), (pvs l).drop (k * 4) = pvs (l.drop k)
  | [], k => by simp [pvs]
  | p :: l, 0 => by simp [pvs]
  | p :: l, k + 1 => by
    have := pvs_drop l k
    rw [show (k + 1) * 4 = k * 4 + 1 + 1 + 1 + 1 by omega]
    simpa [pvs, Px.vals] using this
theorem pvs_part {l : List Px} {a k : Nat} (h : a + k ≤ l.length) : EW.Sub (pvs l) (pvs ((l.drop a).take k)) (a * 4) := by
  rw [← pvs_take, ← pvs_drop]
  exact EW.Sub.of (by rw [pvs_length]; omega)
end Go.Proofs.Ytnmkpekfkfckoaa
/- image: sign, slices.Chunk of pixels, Rows. -/
/- image: Rows. -/
/- image: Rows; the document's Rows, Texts. -/
namespace Go.Proofs.Ytnmkpekfkfckoaa
set_option linter.unusedSimpArgs false
set_option linter.unusedVariables false
open Go.RowKit EV
open SX (Wr Tv Qu Rm Sh Is conjP eqs_iff eqs_false)
open EW (PlL PlT PlV PlVs LfV Mm Bt Opn GV YT lpOf nums)
set_option maxRecDepth 20000
theorem least_not {l : List Px} (h : ¬ ∀ i, i < l.length → mayAt l i) : ∃ t, t < l.length ∧ (∀ i, i < t → mayAt l i) ∧ ¬ mayAt l t := by
  have key : ∀ n, n ≤ l.length → (∀ i, i < n → mayAt l i) ∨ ∃ t, t < l.length ∧ (∀ i, i < t → mayAt l i) ∧ ¬ mayAt l t := by
    intro n
    induction n with
    | zero => intro _; exact .inl fun i hi => by omega
    | succ n ih =>
      intro hn
      rcases ih (by omega) with h1 | h1
      · by_cases hm : mayAt l n
        · left; intro i hi
          rcases Nat.lt_or_ge i n with h2 | h2
          · exact h1 i h2
          · obtain rfl : i = n := by omega
            exact hm
        · exact .inr ⟨n, by omega, h1, hm⟩
      · exact .inr h1
  rcases key l.length (Nat.le_refl _) with h1 | h1
  · exact absurd h1 h
  · exact h1
end Go.Proofs.Ytnmkpekfkfckoaa
/- image: the document's Rows, Texts. -/
/- ImageTells: the walk. -/
/- Walking over named blocks: a block given up to reading; a slice within a record that is loaded gets a name of its own. No program in sight. -/
namespace Go.Proofs.Ytnmkpekfkfckoaa.EW
set_option linter.unusedSectionVars false
set_option linter.unusedSimpArgs false
set_option linter.unusedVariables false
open Go.RowKit EV
open SX (Is)
section
variable {c : Ctx} {F : Fence} {nn : Nat} {id : Nat} {ops : Array Oper} {draw : Bool} {Q : Exit → Act → World → Prop} {σ0 σ s s' : Sf} {i : Nat} {rest : List Oper} {tr : List Tr} {sup : List Nat} {e e' : Env} {a : Act} {w : World}
theorem Real.freeze (hR : Real c s e a w) {n : Nat} {L : List Value} (hb : s (.b n) = some (.b (.w true L))) : Real c (upd s [(.b n, .b (.w false L))]) e a w := by
  have hbk : ∀ k, upd s [(.b n, .b (.w false L))] (.b k) = if n = k then some (.b (.w false L)) else s (.b k) := fun k => by rw [upd_cons, upd_nil]; simp
  have hl : ∀ k, upd s [(.b n, .b (.w false L))] (.l k) = s (.l k) := fun k => by rw [upd_cons_ne _ _ _ (by simp), upd_nil]
  have ht : ∀ k, upd s [(.b n, .b (.w false L))] (.t k) = s (.t k) := fun k => by rw [upd_cons_ne _ _ _ (by simp), upd_nil]
  have hmo : ∀ m, Mo s e (upd s [(.b n, .b (.w false L))]) e m := fun m => ⟨fun hx => by unfold live at *; rwa [hl] at hx, .rfl⟩
  have old : ∀ k b, upd s [(.b n, .b (.w false L))] (.b k) = some (.b b) → ∃ b', s (.b k) = some (.b b') ∧ (b.own = true → b'.own = true) ∧ (∀ w, BOk s e w k b' → BOk s e w k b) := fun k b h => by
    rw [hbk] at h
    by_cases hk : n = k
    · subst hk; rw [if_pos rfl] at h; cases h
      refine ⟨_, hb, fun h => (by cases h), fun w h => ?_⟩
      obtain ⟨h1, h2⟩ : MOk s e w n true (L.map C.v) := h
      refine (show MOk s e w n false (L.map C.v) from ⟨h1, ?_⟩)
      rcases h2 with h2 | ⟨cs, ty, fz, g1, g2, g3, g4⟩
      · exact .inl h2
      · exact .inr ⟨cs, ty, fz, g1, (fun h => by cases h), g3, g4⟩
    · rw [if_neg hk] at h; exact ⟨b, h, id, fun _ h => h⟩
  have h := hR.W
  refine ⟨⟨fun k b h1 h2 => ?_, fun k k' b b' h1 h2 h3 h4 hne ho => ?_, fun k b h1 h2 ho => ?_, ⟨fun q x hq m hm => ?_, fun k hx => ?_⟩, h.given, h.os, h.tape, h.output, h.size, h.old⟩, hR.defers, fun k hk => ?_, hR.slots, fun i v hx => ?_⟩
  · rw [hl] at h1
    obtain ⟨b', g1, g2, g3⟩ := old k b h2
    exact (g3 w (h.blk k b' h1 g1)).mono (fun m _ => hmo m) .rfl (fun _ => rfl)
  · rw [hl] at h1 h3
    obtain ⟨b1, g1, g2, _⟩ := old k b h2
    obtain ⟨b2, g3, _⟩ := old k' b' h4
    exact h.sep k k' b1 b2 h1 g1 h3 g3 hne (g2 ho)
  · rw [hl] at h1
    obtain ⟨b1, g1, g2, _⟩ := old k b h2
    exact h.own k b1 h1 g1 (g2 ho)
  · rw [hl]
    cases q with
    | t i => rw [ht] at hq; exact h.cl.1 _ x hq m hm
    | l i => rw [hl] at hq; exact h.cl.1 _ x hq m hm
    | b i =>
      rw [hbk] at hq
      split at hq
      · cases hq
        exact h.cl.1 (.b n) _ hb m hm
      · exact h.cl.1 _ x hq m hm
  · rw [hl]
    rw [hbk] at hx
    split at hx
    · next hk => subst hk; exact h.cl.2 n (by rw [hb]; simp)
    · exact h.cl.2 k hx
  · rw [hl, hbk]
    obtain ⟨g1, g2⟩ := hR.fml k hk
    refine ⟨g1, ?_⟩
    split
    · next he => subst he; rw [hb] at g2; cases g2
    · exact g2
  · rw [ht] at hx
    obtain ⟨u, g1, g2⟩ := hR.tmp i v hx
    exact ⟨u, g1, OkV.mono (fun m _ => hmo m) g2⟩
/-- A block of our own is written no more: from here on it is like one that came in. -/
theorem eFreeze {code : Code} (n : Nat) {L : List Value} (hr : CX c F nn code Q (upd σ [(.b n, .b (.w false L))]) sup) (hb : σ (.b n) = some (.b (.w true L)) := by rfl) : CX c F nn code Q σ sup := ⟨⟨fun e a w hR => hr.go.go e a w (Real.freeze hR hb)⟩⟩
end
end Go.Proofs.Ytnmkpekfkfckoaa.EW
