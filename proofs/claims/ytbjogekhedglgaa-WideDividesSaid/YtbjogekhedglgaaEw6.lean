/- Walking over named blocks: an empty slice told as one with a block of its own; loops whose rounds give names anew. No program in sight. -/
import Derived.Test.YtbjogekhedglgaaEw5
namespace Go.Proofs.Ytbjogekhedglgaa.EW
set_option linter.unusedSimpArgs false
set_option linter.unusedVariables false
open Go.RowKit EV
open SX (Is)
section
variable {c : Ctx} {F : Fence} {nn : Nat} {Q : Exit → Act → World → Prop} {σ σ' τ s : Sf} {e : Env} {a : Act} {w : World} {sup : List Nat}
/-- A block that is none. -/
theorem RealW.ghost (h : RealW c s e w) {n : Nat} (hm : ¬ c.gv n) (hn : s (.l n) = none) : RealW c (upd s (wsNew n (.w true []))) (e.set n 0 0 0) w := by
  have hne : ∀ {k}, s (.l k) ≠ none → k ≠ n := fun hk => not_live hn hk
  have hmo : ∀ k, k ≠ n → Mo s e (upd s (wsNew n (.w true []))) (e.set n 0 0 0) k := fun k hk => ⟨(wsNew_live hk).1, (Env.set_ne e hk).symm⟩
  have other : ∀ {j : Nat} {b' : B}, j ≠ n → upd s (wsNew n (.w true [])) (.l j) = some (.l true) → upd s (wsNew n (.w true [])) (.b j) = some (.b b') → s (.l j) = some (.l true) ∧ s (.b j) = some (.b b') := fun hj h1 h2 => by
    rw [wsNew_l, if_neg (fun e => hj e.symm)] at h1
    rw [wsNew_b, if_neg (fun e => hj e.symm)] at h2
    exact ⟨h1, h2⟩
  refine ⟨fun k b' h1 h2 => ?_, fun k k' b1 b2 h1 h2 h3 h4 hkk ho => ?_, fun k b' h1 h2 ho => ?_, h.cl.new (fun k hk => by cases hk), fun k hk => (Env.set_ne e (fun he => hm (by rw [← he]; exact hk))).trans (h.given k hk), h.os, h.tape, h.output, h.size, h.old⟩
  · by_cases hk : k = n
    · subst hk; rw [wsNew_b, if_pos rfl] at h2; cases h2
      exact ⟨by simp, .inl (by rw [Env.set_rm])⟩
    · obtain ⟨h1', h2'⟩ := other hk h1 h2
      exact (h.blk k b' h1' h2').mono (fun m hm => hmo m (hne (h.cl.1 _ _ h2' m hm))) (Env.set_ne e hk).symm (fun _ => rfl)
  · by_cases hk : k = n
    · subst hk; exact .inl (by rw [Env.set_rm])
    · by_cases hk' : k' = n
      · subst hk'; exact .inr (.inl (by rw [Env.set_rm]))
      · obtain ⟨h1', h2'⟩ := other hk h1 h2
        obtain ⟨h3', h4'⟩ := other hk' h3 h4
        rw [(Env.set_ne e hk).rm, (Env.set_ne e hk).id, (Env.set_ne e hk').rm, (Env.set_ne e hk').id]
        exact h.sep k k' b1 b2 h1' h2' h3' h4' hkk ho
  · by_cases hk : k = n
    · subst hk; exact .inl (by rw [Env.set_rm])
    · obtain ⟨h1', h2'⟩ := other hk h1 h2
      rw [(Env.set_ne e hk).rm, (Env.set_ne e hk).id]
      exact h.own k b' h1' h2' ho
theorem Real.ghost (h : Real c s e a w) {n : Nat} (hm : ¬ c.gv n) (hn : s (.l n) = none) : Real c (upd s (wsNew n (.w true []))) (e.set n 0 0 0) a w :=
  h.withW (RealW.ghost h.W hm hn) (fun i => wsNew_t) (fun k hk => ⟨(wsNew_live (not_live hn hk)).1, (Env.set_ne e (not_live hn hk)).symm⟩) (fun k hk => by
    have : k ≠ n := not_live hn (by rw [(h.fml k hk).1]; simp)
    rw [wsNew_l, wsNew_b, if_neg (fun e => this e.symm), if_neg (fun e => this e.symm)]; exact ⟨rfl, rfl⟩)
/-- A slot told in other words. -/
theorem Real.retell (h : Real c s e a w) {t : Nat} {v v' : V} (ht : s (.t t) = some (.v v)) (hv : ∀ u, OkV s e v u → OkV s e v' u) (hn : ∀ n ∈ v'.names, s (.l n) ≠ none) : Real c (upd s [(.t t, .v v')]) e a w := by
  have hb : ∀ n, upd s [(.t t, .v v')] (.b n) = s (.b n) := fun n => by rw [upd_cons_ne _ _ _ (by simp), upd_nil]
  have hl : ∀ n, upd s [(.t t, .v v')] (.l n) = s (.l n) := fun n => by rw [upd_cons_ne _ _ _ (by simp), upd_nil]
  have hmo : ∀ n, Mo s e (upd s [(.t t, .v v')]) e n := fun n => ⟨fun hx => by unfold live at *; rwa [hl] at hx, .rfl⟩
  refine ⟨h.W.slots hb hl ⟨fun q x hq n hnn => ?_, fun n hx => ?_⟩, h.defers, fun n hn => by rw [hl, hb]; exact h.fml n hn, h.slots, fun i x hx => ?_⟩
  · rw [hl]
    rw [upd_cons, upd_nil] at hq
    split at hq
    · cases hq; exact hn n hnn
    · exact h.W.cl.1 q x hq n hnn
  · rw [hl]; rw [hb] at hx; exact h.W.cl.2 n hx
  · rw [upd_cons, upd_nil] at hx
    split at hx
    · next he =>
      cases he; cases hx
      obtain ⟨u, h1, h2⟩ := h.tmp t v ht
      exact ⟨u, h1, OkV.mono (fun n _ => hmo n) (hv u h2)⟩
    · obtain ⟨u, h1, h2⟩ := h.tmp i x hx
      exact ⟨u, h1, OkV.mono (fun n _ => hmo n) h2⟩
/-- No slice, told as a short one with a block of its own. -/
theorem eNilG {code : Code} (t n z : Nat) {p : Option Addr} (hr : CX c F nn code Q (upd (upd σ (wsNew n (.w true []))) [(.t t, .v (.c (.g n 0 0 0 z)))]) sup) (ht : σ (.t t) = some (.v (.c (.v (.slice p 0 0)))) := by rfl) (hn : σ (.l n) = none := by rfl) (hg : autoParam (¬ c.gv n) aGVN._auto_1) : CX c F nn code Q σ sup :=
  ⟨⟨fun e a w hR => hr.go.go _ a w (Real.retell (Real.ghost hR hg hn) (by rw [wsNew_t]; exact ht) (fun u hu _ => by
    have : u = .slice p 0 0 := Ok.plain hu
    exact .inr ⟨rfl, rfl, p, this⟩) (fun k hk => by
    simp only [V.names, C.names, List.mem_singleton] at hk
    subst hk; rw [wsNew_l, if_pos rfl]; simp))⟩⟩

/-- Cells of plain values, told as such. -/
theorem eToW {code : Code} (n : Nat) (o : Bool) (L : List Value) (hr : CX c F nn code Q (upd σ [(.b n, .b (.w o L))]) sup) (hb : σ (.b n) = some (.b (.m o (L.map C.v))) := by rfl) : CX c F nn code Q σ sup :=
  ⟨⟨fun e a w hR => hr.go.go e a w (by
    have hbk : ∀ k, upd σ [(.b n, .b (.w o L))] (.b k) = if n = k then some (.b (.w o L)) else σ (.b k) := fun k => by rw [upd_cons, upd_nil]; simp
    have hl : ∀ k, upd σ [(.b n, .b (.w o L))] (.l k) = σ (.l k) := fun k => by rw [upd_cons_ne _ _ _ (by simp), upd_nil]
    have ht : ∀ k, upd σ [(.b n, .b (.w o L))] (.t k) = σ (.t k) := fun k => by rw [upd_cons_ne _ _ _ (by simp), upd_nil]
    have hmo : ∀ m, Mo σ e (upd σ [(.b n, .b (.w o L))]) e m := fun m => ⟨fun hx => by unfold live at *; rwa [hl] at hx, .rfl⟩
    have old : ∀ k b, upd σ [(.b n, .b (.w o L))] (.b k) = some (.b b) → ∃ b', σ (.b k) = some (.b b') ∧ b'.own = b.own ∧ (∀ w, BOk σ e w k b' → BOk σ e w k b) ∧ ∀ m ∈ b.names, m ∈ b'.names := fun k b h => by
      rw [hbk] at h
      by_cases hk : n = k
      · subst hk; rw [if_pos rfl] at h; cases h
        exact ⟨_, hb, rfl, fun _ h => h, fun m hm => by cases hm⟩
      · rw [if_neg hk] at h; exact ⟨b, h, rfl, fun _ h => h, fun m hm => hm⟩
    have h := hR.W
    refine ⟨⟨fun k b h1 h2 => ?_, fun k k' b b' h1 h2 h3 h4 hne ho => ?_, fun k b h1 h2 ho => ?_, ⟨fun q x hq m hm => ?_, fun k hx => ?_⟩, h.given, h.os, h.tape, h.output, h.size, h.old⟩, hR.defers, fun k hk => ?_, hR.slots, fun i v hx => ?_⟩
    · rw [hl] at h1
      obtain ⟨b', g1, g2, g3, g4⟩ := old k b h2
      exact (g3 w (h.blk k b' h1 g1)).mono (fun m _ => hmo m) .rfl (fun _ => rfl)
    · rw [hl] at h1 h3
      obtain ⟨b1, g1, g2, _⟩ := old k b h2
      obtain ⟨b2, g3, _⟩ := old k' b' h4
      exact h.sep k k' b1 b2 h1 g1 h3 g3 hne (g2.trans ho)
    · rw [hl] at h1
      obtain ⟨b1, g1, g2, _⟩ := old k b h2
      exact h.own k b1 h1 g1 (g2.trans ho)
    · rw [hl]
      cases q with
      | t i => rw [ht] at hq; exact h.cl.1 _ x hq m hm
      | l i => rw [hl] at hq; exact h.cl.1 _ x hq m hm
      | b i =>
        rw [hbk] at hq
        split at hq
        · cases hq; cases hm
        · exact h.cl.1 _ x hq m hm
    · rw [hl]
      rw [hbk] at hx
      split at hx
      · next hk => subst hk; exact h.cl.2 n (by rw [hb]; simp)
      · exact h.cl.2 k hx
    · rw [hl, hbk]
      obtain ⟨g1, g2⟩ := hR.fml k hk
      refine ⟨g1, ?_⟩
      split
      · next he => subst he; rw [hb] at g2; cases g2
      · exact g2
    · rw [ht] at hx
      obtain ⟨u, g1, g2⟩ := hR.tmp i v hx
      exact ⟨u, g1, OkV.mono (fun m _ => hmo m) g2⟩)⟩⟩

/-! ### Names given anew -/
theorem Cren_fix {ρ : Nat → Nat} {x : C} (h : ∀ n ∈ x.names, ρ n = n) : Cren ρ x = x := by
  cases x with
  | v x => rfl
  | p n o => simp [Cren, h n (by simp [C.names])]
  | s n o l k => simp [Cren, h n (by simp [C.names])]
  | g n o l b z => simp [Cren, h n (by simp [C.names])]
  | f g caps =>
    simp only [Cren]
    congr 1
    have : caps.map (fun q => (ρ q.1, q.2)) = caps.map id := List.map_congr_left fun q hq => by
      rw [h q.1 (by simp only [C.names]; exact List.mem_map.2 ⟨q, hq, rfl⟩)]; rfl
    rw [this, List.map_id]
  | y n => simp [Cren, h n (by simp [C.names])]
theorem Crens_fix {ρ : Nat → Nat} {l : List C} (h : ∀ n ∈ l.flatMap C.names, ρ n = n) : l.map (Cren ρ) = l := by
  have : l.map (Cren ρ) = l.map id := List.map_congr_left fun x hx => Cren_fix fun n hn => h n (List.mem_flatMap.2 ⟨x, hx, hn⟩)
  rw [this, List.map_id]
theorem Vren_fix {ρ : Nat → Nat} {v : V} (h : ∀ n ∈ v.names, ρ n = n) : Vren ρ v = v := by
  cases v with
  | c x => simp only [Vren]; rw [Cren_fix h]
  | a l => simp only [Vren]; rw [Crens_fix h]
  | t l =>
    simp only [Vren]
    have : l.map (Pren ρ) = l.map id := List.map_congr_left fun x hx => by
      have hx' : ∀ n ∈ namesP x, ρ n = n := fun n hn => h n (List.mem_flatMap.2 ⟨x, hx, hn⟩)
      cases x with
      | inl x => simp only [Pren, id]; rw [Cren_fix hx']
      | inr l => simp only [Pren, id]; rw [Crens_fix hx']
    rw [this, List.map_id]
theorem Bren_fix {ρ : Nat → Nat} {b : B} (h : ∀ n ∈ b.names, ρ n = n) : Bren ρ b = b := by
  cases b with
  | m o l => simp only [Bren]; rw [Crens_fix h]
  | w o l => rfl
  | lp r =>
    simp only [Bren]
    have h1 : ρ r.D = r.D := h _ (by simp [B.names])
    have h2 : r.ts.map (fun x => (x.1, Vren ρ x.2)) = r.ts.map id := List.map_congr_left fun x hx => by
      rw [Vren_fix fun n hn => h n (by simp only [B.names]; exact List.mem_cons_of_mem _ (List.mem_flatMap.2 ⟨x, hx, hn⟩))]; rfl
    rw [h1, h2, List.map_id]
  | df => rfl
theorem Real.ren {ρ : Nat → Nat} (h : Real c σ e a w) (hcl : Cl τ)
    (hb : ∀ n b, τ (.l n) = some (.l true) → τ (.b n) = some (.b b) → ∃ b', σ (.b (ρ n)) = some (.b b') ∧ SameB b' (Bren ρ b))
    (hl : ∀ n, τ (.l n) = some (.l true) → σ (.l (ρ n)) = some (.l true))
    (ht : ∀ i v, τ (.t i) = some (.v v) → σ (.t i) = some (.v (Vren ρ v)))
    (inj : ∀ n n', τ (.l n) ≠ none → τ (.l n') ≠ none → ρ n = ρ n' → n = n')
    (hg : ∀ n, c.gv n → ρ n = n) (hf : ∀ n ∈ c.fm, ρ n = n ∧ τ (.l n) = some (.l true) ∧ τ (.b n) = some (.b .df)) : Real c τ (eAt e ρ) a w := by
  have al : ∀ {n}, τ (.l n) = some (.l true) → τ (.l n) ≠ none := fun h => by rw [h]; simp
  have tr3 : ∀ n, Tr2 σ e ρ τ (eAt e ρ) (fun n => n) n := fun n => ⟨fun h => hl n h, rfl, rfl, rfl⟩
  refine ⟨⟨fun n b h1 h2 => ?_, fun n n' b b' h1 h2 h3 h4 hne ho => ?_, fun n b h1 h2 h3 => ?_, hcl, fun n hn => ?_, h.W.os, h.W.tape, h.W.output, h.W.size, h.W.old⟩, ?_, fun n hn => (hf n hn).2, h.slots, fun i v hx => ?_⟩
  · obtain ⟨b', g1, g2⟩ := hb n b h1 h2
    have := BOk.tr (w2 := w) (tr3 n) (fun m _ => tr3 m) (fun _ => rfl) (BOk.sameB g2 (h.W.blk _ _ (hl n h1) g1))
    rwa [Bren_id] at this
  · obtain ⟨b1, g1, g2⟩ := hb n b h1 h2
    obtain ⟨b2, g3, g4⟩ := hb n' b' h3 h4
    exact h.W.sep _ _ b1 b2 (hl n h1) g1 (hl n' h3) g3 (fun h => hne (inj n n' (al h1) (al h3) h)) (by rw [g2.own, Bren_own]; exact ho)
  · obtain ⟨b1, g1, g2⟩ := hb n b h1 h2
    exact h.W.own _ b1 (hl n h1) g1 (by rw [g2.own, Bren_own]; exact h3)
  · have := h.W.given n hn
    have e1 := hg n hn
    exact ⟨by show e.id (ρ n) = _; rw [e1]; exact this.id, by show e.bs (ρ n) = _; rw [e1]; exact this.bs, by show e.rm (ρ n) = _; rw [e1]; exact this.rm⟩
  · rw [h.defers]
    exact List.map_congr_left fun n hm => by show mark1 (e.id n) = mark1 (e.id (ρ n)); rw [(hf n hm).1]
  · obtain ⟨u, h1, h2⟩ := h.tmp i _ (ht i v hx)
    have := OkV.tr (ρ2 := fun n => n) (fun n _ => tr3 n) h2
    rw [Vren_id] at this
    exact ⟨u, h1, this⟩
/-- Names that go by other ones. -/
def rp : List (Nat × Nat) → Nat → Nat
  | [], n => n
  | (x, y) :: r, n => bif Nat.beq x n then y else rp r n
def inF : List (Nat × Nat) → Nat → Bool
  | [], _ => false
  | (x, _) :: r, n => Nat.beq x n || inF r n
theorem rp_fix : ∀ {ps : List (Nat × Nat)} {n : Nat}, inF ps n = false → rp ps n = n
  | [], _, _ => rfl
  | (x, y) :: r, n, h => by
    simp only [inF, Bool.or_eq_false_iff] at h
    simp only [rp, h.1, cond_false]; exact rp_fix h.2
theorem rp_mem : ∀ {ps : List (Nat × Nat)} {n : Nat}, inF ps n = true → (n, rp ps n) ∈ ps
  | (x, y) :: r, n, h => by
    simp only [rp]
    cases hb : Nat.beq x n with
    | true => rw [Nat.eq_of_beq_eq_true hb]; simp
    | false =>
      simp only [inF, hb, Bool.false_or] at h
      exact List.mem_cons_of_mem _ (rp_mem h)
theorem rp_inj : ∀ {ps : List (Nat × Nat)} {p p' : Nat × Nat}, (ps.map (·.2)).Nodup → p ∈ ps → p' ∈ ps → p.2 = p'.2 → p = p'
  | q :: r, p, p', hn, h, h', he => by
    simp only [List.map_cons, List.nodup_cons] at hn
    rcases List.mem_cons.1 h with h1 | h1 <;> rcases List.mem_cons.1 h' with h2 | h2
    · rw [h1, h2]
    · exact absurd (List.mem_map.2 ⟨p', h2, by rw [← he, h1]⟩) hn.1
    · exact absurd (List.mem_map.2 ⟨p, h1, by rw [he, h2]⟩) hn.1
    · exact rp_inj hn.2 h1 h2 he
def subR (σ : Sf) (ρ : Nat → Nat) : Ws → Prop
  | [] => True
  | (.l n, .l true) :: r => σ (.l (ρ n)) = some (.l true) ∧ subR σ ρ r
  | (.b n, .b b) :: r => (∃ b', σ (.b (ρ n)) = some (.b b') ∧ SameB b' (Bren ρ b)) ∧ subR σ ρ r
  | (.t i, .v v) :: r => σ (.t i) = some (.v (Vren ρ v)) ∧ subR σ ρ r
  | _ => False
theorem subR.nil {ρ : Nat → Nat} : subR σ ρ [] := trivial
theorem subR.l {ρ : Nat → Nat} {n : Nat} {r : Ws} (h : σ (.l (ρ n)) = some (.l true)) (hr : subR σ ρ r) : subR σ ρ ((.l n, .l true) :: r) := ⟨h, hr⟩
theorem subR.b {ρ : Nat → Nat} {n : Nat} {b b' : B} {r : Ws} (h : σ (.b (ρ n)) = some (.b b')) (he : KV.b b' = KV.b (Bren ρ b)) (hr : subR σ ρ r) : subR σ ρ ((.b n, .b b) :: r) := ⟨⟨b', h, .inl (by injection he)⟩, hr⟩
theorem subR.t {ρ : Nat → Nat} {i : Nat} {v v' : V} {r : Ws} (h : σ (.t i) = some (.v v')) (he : KV.v v' = KV.v (Vren ρ v)) (hr : subR σ ρ r) : subR σ ρ ((.t i, .v v) :: r) := ⟨by rw [h, he], hr⟩
theorem subR_of {ρ : Nat → Nat} : ∀ {ws : Ws}, subR σ ρ ws → ∀ q x, (q, x) ∈ ws → (∃ n, q = .l n ∧ x = .l true ∧ σ (.l (ρ n)) = some (.l true)) ∨ (∃ n b b', q = .b n ∧ x = .b b ∧ σ (.b (ρ n)) = some (.b b') ∧ SameB b' (Bren ρ b)) ∨ ∃ i v, q = .t i ∧ x = .v v ∧ σ (.t i) = some (.v (Vren ρ v))
  | (.l n, .l true) :: r, h, q, x, hm => by
    rcases List.mem_cons.1 hm with e | hm
    · cases e; exact .inl ⟨n, rfl, rfl, h.1⟩
    · exact subR_of h.2 q x hm
  | (.b n, .b b) :: r, h, q, x, hm => by
    rcases List.mem_cons.1 hm with e | hm
    · cases e; obtain ⟨b', h1, h2⟩ := h.1; exact .inr (.inl ⟨n, b, b', rfl, rfl, h1, h2⟩)
    · exact subR_of h.2 q x hm
  | (.t i, .v v) :: r, h, q, x, hm => by
    rcases List.mem_cons.1 hm with e | hm
    · cases e; exact .inr (.inr ⟨i, v, rfl, rfl, h.1⟩)
    · exact subR_of h.2 q x hm
  | (.l _, .l false) :: _, h, _, _, _ => h.elim
  | (.l _, .v _) :: _, h, _, _, _ => h.elim
  | (.l _, .b _) :: _, h, _, _, _ => h.elim
  | (.b _, .v _) :: _, h, _, _, _ => h.elim
  | (.b _, .l _) :: _, h, _, _, _ => h.elim
  | (.t _, .b _) :: _, h, _, _, _ => h.elim
  | (.t _, .l _) :: _, h, _, _, _ => h.elim
def psOk (n0 : Nat) (ps : List (Nat × Nat)) (W : Ws) : Bool :=
  ps.all (fun p => Nat.ble n0 p.1 && Nat.ble n0 p.2) && (decide (ps.map (·.2)).Nodup && W.all fun x => match x.1 with | .l n => Nat.blt n n0 || inF ps n | _ => true)
def noGv (c : Ctx) : List (Nat × Nat) → Prop
  | [] => True
  | p :: r => ¬ c.gv p.1 ∧ noGv c r
theorem noGv_of : ∀ {ps : List (Nat × Nat)}, noGv c ps → ∀ {n}, c.gv n → inF ps n = false
  | [], _, _, _ => rfl
  | (x, y) :: r, h, n, hn => by
    simp only [inF, noGv_of h.2 hn, Bool.or_false]
    cases hb : Nat.beq x n with
    | false => rfl
    | true => exact absurd (by rw [Nat.eq_of_beq_eq_true hb]; exact hn) h.1
theorem eLaterN {ι : Type} {ts : List Nat} {n0 : Nat} {W : ι → Ws} {μ : ι → Nat} {j : ι} (k : ι) (ps : List (Nat × Nat)) (hlt : μ k < μ j) (hW : subR σ' (rp ps) (W k)) (hF : Frm (drp (TT ts n0) σ) (W k) σ') (hps : psOk n0 ps (W k) = true) (hgv : noGv c ps) (hcl : Cl (drp (TT ts n0) σ) → clB (drp (TT ts n0) σ) (W k) = true) (hb : Cl (drp (TT ts n0) σ)) (hfm : c.fm.all (fun n => Nat.blt n n0) = true) (hf : ∀ n ∈ c.fm, EV.upd (drp (TT ts n0) σ) (W k) (.l n) = some (.l true) ∧ EV.upd (drp (TT ts n0) σ) (W k) (.b n) = some (.b .df)) :
    KX c (Exit.then (Later c (RS σ ts n0 W) μ j) Q .normal) σ' sup := by
  simp only [psOk, Bool.and_eq_true, List.all_eq_true, decide_eq_true_eq] at hps
  obtain ⟨p1, p2, p3⟩ := hps
  have lo : ∀ n, n < n0 → rp ps n = n := fun n hn => rp_fix (by
    cases hi : inF ps n with
    | false => rfl
    | true =>
      have := (p1 _ (rp_mem hi)).1
      have := Nat.le_of_ble_eq_true this
      simp only at this; omega)
  have bN : ∀ n, n0 ≤ n → drp (TT ts n0) σ (.l n) = none := fun n hn => by
    have : Nat.ble n0 n = true := by rw [Nat.ble_eq]; exact hn
    simp [drp, TT, this]
  generalize hbs : drp (TT ts n0) σ = b at *
  have known : ∀ n, b (.l n) ≠ none → n < n0 := fun n hn => by
    rcases Nat.lt_or_ge n n0 with h | h
    · exact h
    · exact absurd (bN n h) hn
  have fst : ∀ n, EV.upd b (W k) (.l n) ≠ none → n < n0 ∨ inF ps n = true := fun n hn => by
    simp only [EV.upd] at hn
    cases hl : lookW (W k) (.l n) with
    | none => rw [hl, Option.none_or] at hn; exact .inl (known n hn)
    | some x =>
      have := p3 _ (look_mem hl)
      simp only [Bool.or_eq_true] at this
      rcases this with h | h
      · exact .inl (by simpa [Nat.blt_eq] using h)
      · exact .inr h
  have hup : ∀ q x, EV.upd b (W k) q = some x → (lookW (W k) q = some x ∧ (q, x) ∈ W k) ∨ (lookW (W k) q = none ∧ b q = some x ∧ σ' q = some x) := fun q x hx => by
    simp only [EV.upd] at hx
    cases hl : lookW (W k) q with
    | some y => rw [hl] at hx; cases hx; exact .inl ⟨rfl, look_mem hl⟩
    | none =>
      rw [hl, Option.none_or] at hx
      exact .inr ⟨rfl, hx, by rw [hF.ok q hl (by rw [hx]; simp)]; exact hx⟩
  refine ⟨⟨fun e a w hR => ⟨k, hlt, eAt e (rp ps), ?_⟩⟩⟩
  have : RS σ ts n0 W k = EV.upd b (W k) := by simp only [RS, hbs]
  rw [this]
  refine Real.ren hR (Cl.updB hb (hcl hb)) (fun n x h1 h2 => ?_) (fun n h1 => ?_) (fun i v h1 => ?_) (fun n n' h1 h2 he => ?_) (fun n hn => rp_fix (noGv_of hgv hn)) (fun n hn => ⟨lo n (by have := List.all_eq_true.1 hfm n hn; simpa [Nat.blt_eq] using this), hf n hn⟩)
  · rcases hup _ _ h2 with ⟨_, hm⟩ | ⟨_, h3, h4⟩
    · rcases subR_of hW _ _ hm with ⟨m, e1, _, _⟩ | ⟨m, b1, b', e1, e2, h5, h6⟩ | ⟨m, v, e1, _, _⟩
      · cases e1
      · cases e1; cases e2; exact ⟨b', h5, h6⟩
      · cases e1
    · have hn0 := known n (hb.2 n (by rw [h3]; simp))
      refine ⟨x, by rw [lo n hn0]; exact h4, .inl (Bren_fix fun m hm => lo m (known m (hb.1 _ _ h3 m hm))).symm⟩
  · rcases hup _ _ h1 with ⟨_, hm⟩ | ⟨_, h3, h4⟩
    · rcases subR_of hW _ _ hm with ⟨m, e1, _, h5⟩ | ⟨m, b1, b', e1, _, _, _⟩ | ⟨m, v, e1, _, _⟩
      · cases e1; exact h5
      · cases e1
      · cases e1
    · rw [lo n (known n (by rw [h3]; simp))]; exact h4
  · rcases hup _ _ h1 with ⟨_, hm⟩ | ⟨_, h3, h4⟩
    · rcases subR_of hW _ _ hm with ⟨m, e1, _, _⟩ | ⟨m, b1, b', e1, _, _, _⟩ | ⟨m, v, e1, e2, h5⟩
      · cases e1
      · cases e1
      · cases e1; cases e2; exact h5
    · rw [Vren_fix fun m hm => lo m (known m (hb.1 _ _ h3 m hm))]; exact h4
  · have big : ∀ m, inF ps m = true → n0 ≤ rp ps m := fun m hm => Nat.le_of_ble_eq_true (p1 _ (rp_mem hm)).2
    rcases fst n h1 with g1 | g1 <;> rcases fst n' h2 with g2 | g2
    · rw [lo n g1, lo n' g2] at he; exact he
    · have := big n' g2; rw [lo n g1] at he; omega
    · have := big n g1; rw [lo n' g2] at he; omega
    · have := rp_inj p2 (rp_mem g1) (rp_mem g2) he
      exact congrArg Prod.fst this
end
end Go.Proofs.Ytbjogekhedglgaa.EW
