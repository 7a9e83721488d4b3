/- States by names: copy. No program in sight. -/
import Derived.Test.YtbjogekhedglgaaEvA
namespace Go.Proofs.Ytbjogekhedglgaa.EV
open Go.RowKit

section
variable {c : Ctx} {F : Fence} {nn : Nat} {σ s : Sf} {e : Env} {a : Act} {w : World}
/-- A block told another way. -/
theorem RealW.swap (h : RealW c s e w) {n : Nat} {b b' : B} {own : Bool} {l : List C} (ha : s (.l n) = some (.l true)) (hb : s (.b n) = some (.b b)) (hl : b.cellsC = some (own, l)) (hl' : b'.cellsC = some (own, l)) : RealW c (upd s [(.b n, .b b')]) e w := by
  have hll : ∀ k, upd s [(.b n, .b b')] (.l k) = s (.l k) := fun k => by rw [upd_cons_ne _ _ _ (by simp), upd_nil]
  have hbk : ∀ k, upd s [(.b n, .b b')] (.b k) = if n = k then some (.b b') else s (.b k) := fun k => by rw [upd_cons, upd_nil]; simp
  have hv : ∀ k, live (upd s [(.b n, .b b')]) k → live s k := fun k hk => by unfold live at *; rw [← hll]; exact hk
  have back : ∀ k b2, upd s [(.b n, .b b')] (.b k) = some (.b b2) → ∃ b3, s (.b k) = some (.b b3) ∧ b3.own = b2.own := fun k b2 hk => by
    rw [hbk] at hk
    by_cases h1 : n = k
    · subst h1; rw [if_pos rfl] at hk; cases hk; exact ⟨b, hb, by rw [(cellsC_own hl).1, (cellsC_own hl').1]⟩
    · rw [if_neg h1] at hk; exact ⟨b2, hk, rfl⟩
  refine ⟨fun k b2 h1 h2 => ?_, fun k k' b1 b2 h1 h2 h3 h4 hkk ho => ?_, fun k b2 h1 h2 ho => ?_, ⟨fun q x hx k hm => ?_, fun k hk => ?_⟩, h.given, h.os, h.tape, h.output, h.size, h.old⟩
  · rw [hll] at h1
    rw [hbk] at h2
    by_cases hk : n = k
    · subst hk; rw [if_pos rfl] at h2; cases h2
      exact cellsC_ok hl' ((h.cells ha hb hl).mono (fun m _ => ⟨hv m, .rfl⟩) .rfl (fun _ => rfl))
    · rw [if_neg hk] at h2
      exact (h.blk k b2 h1 h2).mono (fun m _ => ⟨hv m, .rfl⟩) .rfl (fun _ => rfl)
  · rw [hll] at h1 h3
    obtain ⟨b3, g1, g2⟩ := back k b1 h2
    obtain ⟨b4, g3, g4⟩ := back k' b2 h4
    exact h.sep k k' b3 b4 h1 g1 h3 g3 hkk (g2.trans ho)
  · rw [hll] at h1
    obtain ⟨b3, g1, g2⟩ := back k b2 h2
    exact h.own k b3 h1 g1 (g2.trans ho)
  · rw [hll]
    rw [upd_cons] at hx
    split at hx
    · cases hx
      refine h.cl.1 (.b n) (.b b) hb k ?_
      show k ∈ b.names
      rw [← B.cellsC_names hl, B.cellsC_names hl']; exact hm
    · rw [upd_nil] at hx; exact h.cl.1 q x hx k hm
  · rw [hll]
    rw [hbk] at hk
    split at hk
    · rename_i e; subst e; rw [ha]; simp
    · exact h.cl.2 k hk
theorem Real.swap (h : Real c s e a w) {n : Nat} {b b' : B} {own : Bool} {l : List C} (ha : s (.l n) = some (.l true)) (hb : s (.b n) = some (.b b)) (hl : b.cellsC = some (own, l)) (hl' : b'.cellsC = some (own, l)) : Real c (upd s [(.b n, .b b')]) e a w :=
  h.withW (h.W.swap ha hb hl hl') (fun i => by rw [upd_cons_ne _ _ _ (by simp), upd_nil]) (fun k hk => ⟨fun hv => by unfold live at *; rwa [upd_cons_ne _ _ _ (by simp), upd_nil] at hv, .rfl⟩) (fun k hk => by
    have hne : n ≠ k := fun e => by subst e; have := (h.fml n hk).2; rw [hb] at this; cases this; exact (cellsC_own hl).2 rfl
    rw [upd_cons_ne _ _ _ (by simp), upd_nil, upd_cons_ne _ _ _ (by simpa using hne), upd_nil]; exact ⟨rfl, rfl⟩)
/-- What is copied: n of k places. -/
def SrcN (c : Ctx) (σ : Sf) (x : Operand) (k n z : Nat) (vs : List C) (ks : List Key) : Prop :=
  ∀ s e a w, (∀ q ∈ ks, s q = σ q) → Real c s e a w → ∃ us : List Value, us.length = n * z ∧ OkL s e vs us ∧ (∀ n ∈ vs.flatMap C.names, s (.l n) ≠ none) ∧
    (Builtin.lenOf (a.eval x)).run c.P w = .ok k w ∧ (Builtin.firstCells z n (a.eval x)).run c.P w = .ok us.toArray w
theorem first_part {P : Program} {z k n : Nat} {b o cap : Nat} {us : List Value} (hl : us.length = n * z) (h : w.rangeAt b o us) : (Builtin.firstCells z n (.slice (some ⟨b, o, none⟩) k cap)).run P w = .ok us.toArray w :=
  run_firstCells_some (P := P) w z n ⟨b, o, none⟩ k cap us hl (fun j v hv => by rw [Addr.add_mid]; exact h j v hv)
theorem srcN_named {x : Operand} {m o k n z : Nat} {b : B} {own : Bool} {l : List C} {y : C} (hx : opv σ x = some (.c y)) (hy : (∃ cap, y = .s m o k cap) ∨ ∃ lb z, y = .g m o k lb z) (ha : σ (.l m) = some (.l true)) (hb : σ (.b m) = some (.b b)) (hl : b.cellsC = some (own, l)) (hn : n ≤ k) (hle : o + n * z ≤ l.length) :
    SrcN c σ x k n z ((l.drop o).take (n * z)) (.l m :: .b m :: opk x) := by
  intro s e a w hag hR
  have ex := ev1r hx hag (fun q h => by simp [h]) hR (by rcases hy with ⟨_, rfl⟩ | ⟨_, _, rfl⟩ <;> rfl) ha (by simp)
  have hb' : s (.b m) = some (.b b) := by rw [hag _ (by simp)]; exact hb
  have hM := hR.W.cells (n := m) (by rw [hag _ (by simp)]; exact ha) hb' hl
  obtain ⟨us, h1, h2, h3⟩ := hM.range o (n * z) hle
  refine ⟨us, h1, h2, fun j hj => hR.W.cl.1 (.b m) (.b b) hb' j ?_, ?_⟩
  · show j ∈ b.names
    rw [← B.cellsC_names hl]
    simp only [List.mem_flatMap] at hj ⊢
    obtain ⟨y, hy, hj⟩ := hj
    exact ⟨y, List.mem_of_mem_drop (List.mem_of_mem_take hy), hj⟩
  · have zero : k = 0 → ∀ p cap, (Builtin.firstCells z n (.slice p 0 cap)).run c.P w = .ok us.toArray w := fun h p cap => by
      have hn0 : n = 0 := by omega
      subst hn0
      have : us = [] := List.eq_nil_of_length_eq_zero (by rw [h1]; simp)
      rw [this]; exact first_zero
    rcases hy with ⟨cap, rfl⟩ | ⟨lb, z', rfl⟩
    · rcases ex with ex | ⟨h0, _, p, ex⟩
      · exact ⟨by rw [ex]; rfl, by rw [ex]; exact first_part h1 h3⟩
      · exact ⟨by rw [ex, h0]; rfl, by rw [ex]; exact zero h0 p 0⟩
    · rcases ex with ⟨cap, ex, _⟩ | ⟨h0, _, p, ex⟩
      · exact ⟨by rw [ex]; rfl, by rw [ex]; exact first_part h1 h3⟩
      · exact ⟨by rw [ex, h0]; rfl, by rw [ex]; exact zero h0 p 0⟩
theorem srcN_nil {x : Operand} {z cap : Nat} (hx : opv σ x = some (.c (.v (.slice none 0 cap)))) : SrcN c σ x 0 0 z [] (opk x) := by
  intro s e a w hag hR
  have ex := ev1v hx hag (fun q h => h) hR
  exact ⟨[], by simp, rfl, fun n hn => by simp at hn, by rw [ex]; rfl, by rw [ex]; exact first_zero⟩
theorem LocalO.copy (hF : WideLike F) {m o len k n z : Nat} {x y : Operand} {X : C} {t t2 el rt : TypeId} {b b' : B} {l vs : List C} {ks : List Key} {d : Option Tmp} {pos : String} {af : Array Edge} {g : Option (Nat × Bool)} (hN : dOk c.N d = true)
    (hx : opv σ x = some (.c X)) (hX : (∃ cap, X = .s m o len cap) ∨ ∃ lb z, X = .g m o len lb z) (ha : σ (.l m) = some (.l true)) (hb : σ (.b m) = some (.b b)) (hl : b.cellsC = some (true, l)) (hn : Nat.min k len = n) (hs : SrcN c σ y k n z vs ks) (hvl : vs.length = n * z) (hle : o + n * z ≤ l.length)
    (ht : c.P.underlying t = some (.slice el)) (hz : tS c.P el = some z) (hb' : b'.cellsC = some (true, putL o vs l)) :
    LocalO c F nn ⟨d, .call ⟨.builtin .copy, #[x, y], #[t, t2]⟩, rt, pos, af, g⟩ σ ⟨kr (.l m :: .b m :: (ks ++ opk x)), putW d (.c (.v (.int .i64 n))) ++ [(.b m, .b b')]⟩ := by
  refine LocalO.act hF hN (noDefer rfl) fun s e a w hag hR => ?_
  have hag' : ∀ q ∈ Key.l m :: .b m :: (ks ++ opk x), s q = σ q := fun q hq => hag q (kr_iff.2 hq)
  have ex := ev1r hx hag' (fun q h => by simp [h]) hR (by rcases hX with ⟨_, rfl⟩ | ⟨_, _, rfl⟩ <;> rfl) ha (by simp)
  obtain ⟨us, h1, h2, h3, h4, h5⟩ := hs s e a w (fun q hq => hag' q (by simp [hq])) hR
  have ha' : s (.l m) = some (.l true) := by rw [hag' _ (by simp)]; exact ha
  have hbs : s (.b m) = some (.b b) := by rw [hag' _ (by simp)]; exact hb
  have hrun : ∀ {p cap w'}, a.eval x = .slice p len cap → (∀ q, p = some q → (storeCells q us).run c.P w = .ok () w') → (p = none → w' = w) →
      (execOp a.eval ⟨d, .call ⟨.builtin .copy, #[x, y], #[t, t2]⟩, rt, pos, af, g⟩).run c.P w = .ok (.value (.int .i64 n)) w' := fun {p cap w'} hp hst hno => by
    have : (Builtin.copy_ #[t, t2] rt #[a.eval x, a.eval y]).run c.P w = .ok (.int .i64 n) w' := by
      rw [hp]
      simp only [Builtin.copy_, List.getElem?_toArray, List.getElem?_cons_zero, List.getElem?_cons_succ, Sem.run_bind, run_underlying ht w, Result.andThen_ok, h4, hn, run_sz hz, h5]
      cases p with
      | none => rw [hno rfl]; rfl
      | some q => simp only [Sem.run_bind, hst q rfl, Result.andThen_ok]; rfl
    simp only [execOp, resolve, Sem.run_bind, Sem.run_pure, Result.andThen_ok, invoke, builtin, List.map_toArray, List.map_cons, List.map_nil, this]
  have dst : ∃ p cap, a.eval x = .slice p len cap ∧ (p = some ⟨e.id m, e.bs m + o, none⟩ ∨ len = 0) := by
    rcases hX with ⟨cap, rfl⟩ | ⟨lb, z', rfl⟩
    · rcases ex with ex | ⟨h0, _, p, ex⟩
      · exact ⟨_, _, ex, .inl rfl⟩
      · exact ⟨p, 0, by rw [h0]; exact ex, .inr h0⟩
    · rcases ex with ⟨cap, ex, _⟩ | ⟨h0, _, p, ex⟩
      · exact ⟨_, _, ex, .inl rfl⟩
      · exact ⟨p, 0, by rw [h0]; exact ex, .inr h0⟩
  obtain ⟨p, cap, hp, hpl⟩ := dst
  by_cases hv0 : vs = []
  · have hus : us = [] := List.eq_nil_of_length_eq_zero (by rw [h2.length, hv0]; rfl)
    have hput : putL o vs l = l := by
      apply List.ext_getElem?
      intro i
      rw [putL_get o vs l i (by omega), hv0, if_neg (by simp)]
    refine ⟨_, w, e, hrun (w' := w) hp (fun q _ => by rw [hus]; rfl) (fun _ => rfl), hR.swap ha' hbs hl (by rw [hb', hput]), Ok.of, fun n hn => by cases hn⟩
  · have hlen0 : len ≠ 0 := fun h => by
      have : n = 0 := by rw [← hn, h]; exact Nat.min_zero k
      rw [this, Nat.zero_mul] at hvl
      exact hv0 (List.eq_nil_of_length_eq_zero hvl)
    have hps : p = some ⟨e.id m, e.bs m + o, none⟩ := hpl.resolve_right hlen0
    obtain ⟨g1, g2⟩ := hR.store (o := o) ha' hbs hl h2 (by omega) hv0 h3 hb'
    have hst := run_storeCells_cells (P := c.P) (e.id m) (e.bs m + o) us 0 w (fun j hj => by simpa using (g1 j hj).1) (fun j hj => by simpa using (g1 j hj).2) (fun v hv => h2.all_one v hv)
    refine ⟨_, _, e, hrun (w' := w.setCells (e.id m) (e.bs m + o) us) hp (fun q hq => by rw [hps] at hq; cases hq; simpa using hst) (fun h => by rw [hps] at h; cases h), g2, Ok.of, fun n hn => by cases hn⟩
end
end Go.Proofs.Ytbjogekhedglgaa.EV
