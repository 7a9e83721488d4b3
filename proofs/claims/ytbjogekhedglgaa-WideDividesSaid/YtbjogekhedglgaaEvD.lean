/- States by names: calls. No program in sight. -/
import Derived.Test.YtbjogekhedglgaaEvC
namespace Go.Proofs.Ytbjogekhedglgaa.EV
open Go.RowKit

/-- What a callee is shown: not the names of X. -/
def mask (σ : Sf) (X : Nat → Bool) : Sf
  | .t _ => none
  | .b n => σ (.b n)
  | .l n => if X n = true then (match σ (.l n) with | none => none | some _ => some (.l false)) else σ (.l n)
section
variable {c : Ctx} {F : Fence} {nn : Nat} {σ s : Sf} {e : Env} {a : Act} {w w' : World} {Q : Exit → Act → World → Prop}
theorem mask_ne {X : Nat → Bool} {n : Nat} (h : σ (.l n) ≠ none) : mask σ X (.l n) ≠ none := by
  simp only [mask]
  split
  · cases hx : σ (.l n) with
    | none => exact absurd hx h
    | some _ => simp
  · exact h
theorem mask_alive {X : Nat → Bool} {n : Nat} (h : mask σ X (.l n) = some (.l true)) : X n = false ∧ σ (.l n) = some (.l true) := by
  simp only [mask] at h
  split at h
  · split at h <;> cases h
  · rename_i hx; exact ⟨by simpa using hx, h⟩
theorem mask_off {X : Nat → Bool} {n : Nat} (h : X n = false) : mask σ X (.l n) = σ (.l n) := by simp [mask, h]
theorem Cl.mask (h : Cl σ) (X : Nat → Bool) : Cl (mask σ X) := by
  refine ⟨fun q x hx n hn => ?_, fun n hn => mask_ne (h.2 n hn)⟩
  cases q with
  | t i => cases hx
  | b k => exact mask_ne (h.1 (.b k) x hx n hn)
  | l k =>
    simp only [EV.mask] at hx
    split at hx
    · split at hx
      · cases hx
      · cases hx; cases hn
    · exact mask_ne (h.1 (.l k) x hx n hn)
theorem RealW.mask (h : RealW c s e w) (hcl : Cl σ) {X : Nat → Bool} {hi : Nat} (hag : ∀ n, n < hi → X n = false → s (.l n) = σ (.l n) ∧ s (.b n) = σ (.b n)) (hfr : ∀ n, hi ≤ n → σ (.l n) = none) : RealW c (mask σ X) e w ∧ ∀ n, live (EV.mask σ X) n → live s n ∧ n < hi ∧ X n = false := by
  have key : ∀ n, EV.mask σ X (.l n) = some (.l true) → s (.l n) = some (.l true) ∧ s (.b n) = EV.mask σ X (.b n) ∧ n < hi ∧ X n = false := fun n hn => by
    obtain ⟨h1, h2⟩ := mask_alive hn
    have hlt : n < hi := by
      rcases Nat.lt_or_ge n hi with h3 | h3
      · exact h3
      · rw [hfr n h3] at h2; cases h2
    obtain ⟨h3, h4⟩ := hag n hlt h1
    exact ⟨h3.trans h2, h4, hlt, h1⟩
  refine ⟨⟨fun n b h1 h2 => ?_, fun n n' b b' h1 h2 h3 h4 => ?_, fun n b h1 h2 => ?_, hcl.mask X, h.given, h.os, h.tape, h.output, h.size, h.old⟩, fun n hn => ⟨(key n hn).1, (key n hn).2.2⟩⟩
  · obtain ⟨g1, g2, _⟩ := key n h1
    exact (h.blk n b g1 (g2.trans h2)).mono (fun m _ => ⟨fun hl => (key m hl).1, .rfl⟩) .rfl (fun _ => rfl)
  · obtain ⟨g1, g2, _⟩ := key n h1
    obtain ⟨g3, g4, _⟩ := key n' h3
    exact h.sep n n' b b' g1 (g2.trans h2) g3 (g4.trans h4)
  · obtain ⟨g1, g2, _⟩ := key n h1
    exact h.own n b g1 (g2.trans h2)
/-- What is asked of a call's outcome. -/
structure CallOk (c : Ctx) (σ : Sf) (X : Nat → Bool) (lo hi : Nat) (v : V) (h' : Sf) (ws : Ws) : Prop where
  le : lo ≤ hi
  gv : ∀ n, lo ≤ n → n < hi → ¬ c.gv n
  fr : ∀ n, lo ≤ n → σ (.l n) = none
  bl : ∀ n, σ (.l n) ≠ none → ∃ b, σ (.b n) = some (.b b)
  xl : ∀ n, X n = true → n < lo
  wk : ∀ q x, lookW ws q = some x → h' q = some x ∧ (∃ n, (q = .l n ∨ q = .b n) ∧ X n = false ∧ n < hi) ∧ ∀ n ∈ x.names, X n = false
  nl : ∀ n, lookW ws (.l n) = none → h' (.l n) = mask σ X (.l n)
  nb : ∀ n, lookW ws (.b n) = none → h' (.b n) = mask σ X (.b n)
  xn : ∀ n b, X n = false → σ (.b n) = some (.b b) → ∀ m ∈ b.names, X m = false
  vx : ∀ n ∈ v.names, X n = false
  rev : ∀ n, n < lo → h' (.l n) = some (.l true) → σ (.l n) = some (.l true)
  fo : ∀ n b, lo ≤ n → h' (.b n) = some (.b b) → b.own = true
  fm : ∀ n ∈ c.fm, lookW ws (.l n) = none ∧ lookW ws (.b n) = none
theorem Real.called (hR : Real c s e a w) (hcl : Cl σ) {X : Nat → Bool} {lo hi : Nat} {v : V} {h' : Sf} {ws : Ws} (hC : CallOk c σ X lo hi v h' ws) (hag : ∀ n, n < hi → X n = false → s (.l n) = σ (.l n) ∧ s (.b n) = σ (.b n)) :
    ∃ c3 : Ctx, c3.P = c.P ∧ (∀ n, lo ≤ n → n < hi → ¬ c3.gv n) ∧ RealW c3 (mask σ X) e w ∧
      ∀ u e' w', RealW c3 h' e' w' → OkV h' e' v u → (∀ n ∈ v.names, h' (.l n) ≠ none) → Real c (upd s ws) e' a w' ∧ OkV (upd s ws) e' v u ∧ ∀ n ∈ v.names, upd s ws (.l n) ≠ none := by
  have hfr' : ∀ n, hi ≤ n → σ (.l n) = none := fun n hn => hC.fr n (Nat.le_trans hC.le hn)
  obtain ⟨hM, hlv⟩ := hR.W.mask hcl hag hfr'
  have hW := hR.W
  refine ⟨⟨c.P, w, fun k => ∃ n b, s (.l n) = some (.l true) ∧ s (.b n) = some (.b b) ∧ b.own = true ∧ e.rm n ≠ 0 ∧ e.id n = k ∧ n < hi ∧ X n = false, fun n => n < lo ∨ hi ≤ n, e, c.N, []⟩, rfl, fun n h1 h2 h => by (have : n < lo ∨ hi ≤ n := h; omega), ⟨hM.blk, hM.sep, ?_, hM.cl, fun n _ => .rfl, rfl, rfl, rfl, Nat.le_refl _, fun k _ _ => rfl⟩, ?_⟩
  · intro n b h1 h2 ho
    by_cases h0 : e.rm n = 0
    · exact .inl h0
    · obtain ⟨g1, g2, g3⟩ := hlv n h1
      exact .inr (.inr ⟨n, b, g1, (hag n g2 g3).2.trans h2, ho, h0, rfl, g2, g3⟩)
  intro u e' w' hW' hu hvn
  -- who is inside
  have inside : ∀ n, n < hi → X n = false → upd s ws (.l n) = h' (.l n) ∧ upd s ws (.b n) = h' (.b n) := fun n h1 h2 => by
    constructor
    · cases hl : lookW ws (.l n) with
      | some x => simp only [upd, hl, Option.some_or]; exact (hC.wk _ _ hl).1.symm
      | none => simp only [upd, hl, Option.none_or]; rw [(hag n h1 h2).1, hC.nl n hl, mask_off h2]
    · cases hl : lookW ws (.b n) with
      | some x => simp only [upd, hl, Option.some_or]; exact (hC.wk _ _ hl).1.symm
      | none => simp only [upd, hl, Option.none_or]; rw [(hag n h1 h2).2, hC.nb n hl]; rfl
  have outside : ∀ n, ¬ (n < hi ∧ X n = false) → upd s ws (.l n) = s (.l n) ∧ upd s ws (.b n) = s (.b n) := fun n hn => by
    constructor
    · cases hl : lookW ws (.l n) with
      | some x =>
        obtain ⟨_, ⟨k, hk, h1, h2⟩, _⟩ := hC.wk _ _ hl
        rcases hk with hk | hk <;> cases hk
        exact absurd ⟨h2, h1⟩ hn
      | none => simp only [upd, hl, Option.none_or]
    · cases hl : lookW ws (.b n) with
      | some x =>
        obtain ⟨_, ⟨k, hk, h1, h2⟩, _⟩ := hC.wk _ _ hl
        rcases hk with hk | hk <;> cases hk
        exact absurd ⟨h2, h1⟩ hn
      | none => simp only [upd, hl, Option.none_or]
  have slot : ∀ i, upd s ws (.t i) = s (.t i) := fun i => by
    cases hl : lookW ws (.t i) with
    | some x =>
      obtain ⟨_, ⟨k, hk, h1, h2⟩, _⟩ := hC.wk _ _ hl
      rcases hk with hk | hk <;> cases hk
    | none => simp only [upd, hl, Option.none_or]
  have hnone : ∀ n, hi ≤ n → h' (.l n) = none := fun n hn => by
    cases hl : lookW ws (.l n) with
    | some x =>
      obtain ⟨_, ⟨k, hk, h1, h2⟩, _⟩ := hC.wk _ _ hl
      rcases hk with hk | hk <;> cases hk
      omega
    | none =>
      rw [hC.nl n hl]
      cases hx : X n with
      | false => rw [mask_off hx]; exact hfr' n hn
      | true => simp [EV.mask, hx, hfr' n hn]
  have hlt : ∀ n, h' (.l n) ≠ none → n < hi := fun n hn => by
    rcases Nat.lt_or_ge n hi with h | h
    · exact h
    · exact absurd (hnone n h) hn
  have sNone : ∀ n, lo ≤ n → n < hi → X n = false → s (.l n) = none := fun n h1 h2 h3 => (hag n h2 h3).1.trans (hC.fr n h1)
  -- names that were made keep their places
  have same : ∀ n, (n < lo ∨ hi ≤ n) → e.same e' n := fun n hn => (hW'.given n hn).symm
  -- names of the state s: none of them is new
  have old : ∀ m, s (.l m) ≠ none → (m < lo ∨ hi ≤ m) := fun m hm => by
    rcases Nat.lt_or_ge m lo with h | h
    · exact .inl h
    · rcases Nat.lt_or_ge m hi with h2 | h2
      · have hx : X m = false := by
          cases hx : X m with
          | false => rfl
          | true => have := hC.xl m hx; omega
        exact absurd (sNone m h h2 hx) hm
      · exact .inr h2
  have oldl : ∀ m, s (.l m) ≠ none → live (upd s ws) m → live s m := fun m hm hl => by
    by_cases hin : m < hi ∧ X m = false
    · unfold live at *
      rw [(inside m hin.1 hin.2).1] at hl
      have hmlo : m < lo := by
        rcases old m hm with h | h
        · exact h
        · omega
      rw [(hag m hin.1 hin.2).1]; exact hC.rev m hmlo hl
    · unfold live at *; rw [(outside m hin).1] at hl; exact hl
  have mo : ∀ m, s (.l m) ≠ none → Mo s e (upd s ws) e' m := fun m hm => ⟨oldl m hm, same m (old m hm)⟩
  have aliveS : ∀ m, s (.l m) = some (.l true) → s (.l m) ≠ none := fun m hm => by rw [hm]; simp
  -- a block outside stands as it stood
  have stood : ∀ n b, ¬ (n < hi ∧ X n = false) → s (.l n) = some (.l true) → s (.b n) = some (.b b) → e.rm n ≠ 0 → w'.heap[e.id n]? = w.heap[e.id n]? := fun n b hn h1 h2 h0 => by
    refine hW'.old (e.id n) ((hW.blk n b h1 h2).lt h0) ?_
    rintro ⟨n2, b2, g1, g2, g3, g4, g5, g6, g7⟩
    have hne : n2 ≠ n := fun e => by subst e; exact hn ⟨g6, g7⟩
    rcases hW.sep n2 n b2 b g1 g2 h1 h2 hne g3 with h | h | h
    · exact g4 h
    · exact h0 h
    · exact h g5
  -- an own block inside lies apart from what is outside
  have apart : ∀ n b n' b', n < hi → X n = false → h' (.l n) = some (.l true) → h' (.b n) = some (.b b) → b.own = true → ¬ (n' < hi ∧ X n' = false) → s (.l n') = some (.l true) → s (.b n') = some (.b b') → e'.rm n = 0 ∨ e.rm n' = 0 ∨ e'.id n ≠ e.id n' := fun n b n' b' h1 h2 h3 h4 h5 hn' h6 h7 => by
    rcases hW'.own n b h3 h4 h5 with h | h | ⟨n2, b2, g1, g2, g3, g4, g5, g6, g7⟩
    · exact .inl h
    · by_cases h0 : e.rm n' = 0
      · exact .inr (.inl h0)
      · have := (hW.blk n' b' h6 h7).lt h0
        have h9 : w.heap.size ≤ e'.id n := h
        exact .inr (.inr (by omega))
    · have hne : n2 ≠ n' := fun e => by subst e; exact hn' ⟨g6, g7⟩
      rcases hW.sep n2 n' b2 b' g1 g2 h6 h7 hne g3 with h | h | h
      · exact absurd h g4
      · exact .inr (.inl h)
      · exact .inr (.inr (by rw [← g5]; exact h))
  -- names of what a block inside holds are inside
  have innames : ∀ n b, n < hi → X n = false → h' (.b n) = some (.b b) → ∀ m ∈ b.names, m < hi ∧ X m = false := fun n b h1 h2 h3 m hm => by
    have hne : h' (.l m) ≠ none := hW'.cl.1 (.b n) (.b b) h3 m hm
    refine ⟨hlt m hne, ?_⟩
    cases hl : lookW ws (.b n) with
    | some x =>
      obtain ⟨g1, _, g3⟩ := hC.wk _ _ hl
      rw [h3] at g1; cases g1
      exact g3 m hm
    | none =>
      have := hC.nb n hl
      rw [h3] at this
      exact hC.xn n b h2 this.symm m hm
  have hRW : RealW c (upd s ws) e' w' := by
    refine ⟨fun n b h1 h2 => ?_, fun n n' b b' h1 h2 h3 h4 hnn ho => ?_, fun n b h1 h2 ho => ?_, ⟨fun q x hx m hm => ?_, fun n hn => ?_⟩, fun n hn => ?_, hW'.os.trans hW.os, hW'.tape.trans hW.tape, hW'.output.trans hW.output, Nat.le_trans hW.size hW'.size, fun k hk ht => ?_⟩
    · by_cases hin : n < hi ∧ X n = false
      · rw [(inside n hin.1 hin.2).1] at h1
        rw [(inside n hin.1 hin.2).2] at h2
        exact (hW'.blk n b h1 h2).mono (fun m hm => by
          obtain ⟨g1, g2⟩ := innames n b hin.1 hin.2 h2 m hm
          exact ⟨fun hl => by unfold live at *; rw [(inside m g1 g2).1] at hl; exact hl, .rfl⟩) .rfl (fun _ => rfl)
      · rw [(outside n hin).1] at h1
        rw [(outside n hin).2] at h2
        exact (hW.blk n b h1 h2).mono (fun m hm => mo m (hW.cl.1 (.b n) (.b b) h2 m hm)) (same n (old n (aliveS n h1))) (stood n b hin h1 h2)
    · by_cases hin : n < hi ∧ X n = false
      · rw [(inside n hin.1 hin.2).1] at h1
        rw [(inside n hin.1 hin.2).2] at h2
        by_cases hin' : n' < hi ∧ X n' = false
        · rw [(inside n' hin'.1 hin'.2).1] at h3
          rw [(inside n' hin'.1 hin'.2).2] at h4
          exact hW'.sep n n' b b' h1 h2 h3 h4 hnn ho
        · rw [(outside n' hin').1] at h3
          rw [(outside n' hin').2] at h4
          have hs := same n' (old n' (aliveS n' h3))
          rw [← hs.rm, ← hs.id]
          exact apart n b n' b' hin.1 hin.2 h1 h2 ho hin' h3 h4
      · rw [(outside n hin).1] at h1
        rw [(outside n hin).2] at h2
        have hs := same n (old n (aliveS n h1))
        by_cases hin' : n' < hi ∧ X n' = false
        · rw [(inside n' hin'.1 hin'.2).1] at h3
          rw [(inside n' hin'.1 hin'.2).2] at h4
          rw [← hs.rm, ← hs.id]
          by_cases hlo : n' < lo
          · -- it was there
            have a1 : σ (.l n') = some (.l true) := hC.rev n' hlo h3
            obtain ⟨b2, hb2⟩ := hC.bl n' (by rw [a1]; simp)
            have hs' := same n' (.inl hlo)
            rw [← hs'.rm, ← hs'.id]
            exact hW.sep n n' b b2 h1 h2 ((hag n' hin'.1 hin'.2).1.trans a1) ((hag n' hin'.1 hin'.2).2.trans hb2) hnn ho
          · rcases apart n' b' n b hin'.1 hin'.2 h3 h4 (hC.fo n' b' (by omega) h4) hin h1 h2 with h | h | h
            · exact .inr (.inl h)
            · exact .inl h
            · exact .inr (.inr (fun e => h e.symm))
        · rw [(outside n' hin').1] at h3
          rw [(outside n' hin').2] at h4
          have hs' := same n' (old n' (aliveS n' h3))
          rw [← hs.rm, ← hs.id, ← hs'.rm, ← hs'.id]
          exact hW.sep n n' b b' h1 h2 h3 h4 hnn ho
    · by_cases hin : n < hi ∧ X n = false
      · rw [(inside n hin.1 hin.2).1] at h1
        rw [(inside n hin.1 hin.2).2] at h2
        rcases hW'.own n b h1 h2 ho with h | h | ⟨n2, b2, g1, g2, g3, g4, g5, g6, g7⟩
        · exact .inl h
        · have h9 : w.heap.size ≤ e'.id n := h
          exact .inr (.inl (Nat.le_trans hW.size h9))
        · rcases hW.own n2 b2 g1 g2 g3 with h | h | h
          · exact absurd h g4
          · exact .inr (.inl (by rw [← g5]; exact h))
          · exact .inr (.inr (by rw [← g5]; exact h))
      · rw [(outside n hin).1] at h1
        rw [(outside n hin).2] at h2
        have hs := same n (old n (aliveS n h1))
        rw [← hs.rm, ← hs.id]
        exact hW.own n b h1 h2 ho
    · have hin_ne : ∀ m, s (.l m) ≠ none → upd s ws (.l m) ≠ none := fun m hm => by
        simp only [upd]
        cases lookW ws (.l m) with
        | some y => simp
        | none => simpa using hm
      cases hl : lookW ws q with
      | some y =>
        have hy : y = x := by simpa [upd, hl] using hx
        subst hy
        obtain ⟨g1, _, g3⟩ := hC.wk _ _ hl
        have hne := hW'.cl.1 q y g1 m hm
        rw [(inside m (hlt m hne) (g3 m hm)).1]; exact hne
      | none =>
        have hy : s q = some x := by simpa [upd, hl] using hx
        exact hin_ne m (hW.cl.1 q x hy m hm)
    · by_cases hin : n < hi ∧ X n = false
      · rw [(inside n hin.1 hin.2).2] at hn
        rw [(inside n hin.1 hin.2).1]; exact hW'.cl.2 n hn
      · rw [(outside n hin).2] at hn
        rw [(outside n hin).1]; exact hW.cl.2 n hn
    · have hlh : n < lo ∨ hi ≤ n := by
        rcases Nat.lt_or_ge n lo with h | h
        · exact .inl h
        · rcases Nat.lt_or_ge n hi with h2 | h2
          · exact absurd hn (hC.gv n h h2)
          · exact .inr h2
      exact (same n hlh).symm.trans (hW.given n hn)
    · rw [← hW.old k hk ht]
      refine hW'.old k (Nat.lt_of_lt_of_le hk hW.size) ?_
      rintro ⟨n2, b2, g1, g2, g3, g4, g5, g6, g7⟩
      rcases hW.own n2 b2 g1 g2 g3 with h | h | h
      · exact g4 h
      · have : k < c.B := hk
        omega
      · exact ht (g5 ▸ h)
  refine ⟨⟨hRW, ?_, fun n hn => ?_, hR.slots, fun i v hx => ?_⟩, OkV.mono (s := h') (s' := upd s ws) (fun m hm => ⟨fun hl => ?_, .rfl⟩) hu, fun m hm => ?_⟩
  · rw [hR.defers]
    exact List.map_congr_left fun n hn => by rw [(same n (old n (aliveS n (hR.fml n hn).1))).id]
  · obtain ⟨g1, g2⟩ := hC.fm n hn
    simp only [upd, g1, g2, Option.none_or]
    exact hR.fml n hn
  · rw [slot] at hx
    obtain ⟨u', h1, h2⟩ := hR.tmp i v hx
    exact ⟨u', h1, h2.mono fun m hm => mo m (hW.cl.1 _ _ hx m hm)⟩
  · have := hvn m hm
    unfold live at *
    rwa [(inside m (hlt m this) (hC.vx m hm)).1] at hl
  · have := hvn m hm
    rw [(inside m (hlt m this) (hC.vx m hm)).1]; exact this
end
end Go.Proofs.Ytbjogekhedglgaa.EV
