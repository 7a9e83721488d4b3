/- States by names: new blocks, stores, names given up. No program in sight. -/
import Derived.Test.YtbjogekhedglgaaEv1
namespace Go.Proofs.Ytbjogekhedglgaa.EV
open Go.RowKit

/-! ### Carried on -/
section
variable {s s' : Sf} {e e' : Env}
theorem Rep.congr {x : C} {u : Value} (h : ∀ n ∈ x.names, e.same e' n) (hr : Rep e x u) : Rep e' x u := by
  cases x with
  | v x => exact hr
  | p n o => obtain ⟨h1, h2, h3⟩ := h n (by simp [C.names]); simp only [Rep, ← h1, ← h2] at hr ⊢; exact hr
  | s n o l k => obtain ⟨h1, h2, h3⟩ := h n (by simp [C.names]); simp only [Rep, ← h1, ← h2] at hr ⊢; exact hr
  | g n o l b k => obtain ⟨h1, h2, h3⟩ := h n (by simp [C.names]); simp only [Rep, ← h1, ← h2, ← h3] at hr ⊢; exact hr
  | f g caps =>
    simp only [Rep] at hr ⊢
    rw [hr]
    congr 2
    exact List.map_congr_left fun q hq => by
      obtain ⟨h1, h2, h3⟩ := h q.1 (by simp only [C.names]; exact List.mem_map.2 ⟨q, hq, rfl⟩)
      rw [h1, h2]
  | y n => obtain ⟨h1, h2, h3⟩ := h n (by simp [C.names]); simp only [Rep, ← h1] at hr ⊢; exact hr
/-- A name that means the same, and may be used no more than before. -/
def Mo (s : Sf) (e : Env) (s' : Sf) (e' : Env) (n : Nat) : Prop := (live s' n → live s n) ∧ e.same e' n
theorem Ok.mono {x : C} {u : Value} (h : ∀ n ∈ x.names, Mo s e s' e' n) (hr : Ok s e x u) : Ok s' e' x u :=
  fun hn => (hr fun n hm => (h n hm).1 (hn n hm)).congr fun n hm => (h n hm).2
theorem Okc.mono {x : C} {u : Value} (h : ∀ n ∈ x.names, Mo s e s' e' n) (hr : Okc s e x u) : Okc s' e' x u := ⟨hr.one, hr.ok.mono h⟩
theorem OkL.mono : ∀ {l : List C} {us : List Value}, (∀ n ∈ l.flatMap C.names, Mo s e s' e' n) → OkL s e l us → OkL s' e' l us
  | [], _, _, h => h
  | x :: l, _, hn, ⟨u, r, hu, h1, h2⟩ => ⟨u, r, hu, h1.mono fun n hm => hn n (by simp [List.flatMap_cons, hm]), h2.mono fun n hm => hn n (by rw [List.flatMap_cons]; exact List.mem_append_right _ hm)⟩
theorem OkP.mono {x : C ⊕ List C} {u : Value} (hn : ∀ n ∈ namesP x, Mo s e s' e' n) (h : OkP s e x u) : OkP s' e' x u := by
  cases x with
  | inl x => exact Ok.mono hn h
  | inr l => obtain ⟨us, hu, hl⟩ := h; exact ⟨us, hu, hl.mono hn⟩
theorem OkT.mono : ∀ {l : List (C ⊕ List C)} {us : List Value}, (∀ n ∈ l.flatMap namesP, Mo s e s' e' n) → OkT s e l us → OkT s' e' l us
  | [], _, _, h => h
  | x :: l, _, hn, ⟨u, r, hu, h1, h2⟩ => ⟨u, r, hu, h1.mono fun n hm => hn n (by simp [List.flatMap_cons, hm]), h2.mono fun n hm => hn n (by rw [List.flatMap_cons]; exact List.mem_append_right _ hm)⟩
theorem OkV.mono {v : V} {u : Value} (hn : ∀ n ∈ v.names, Mo s e s' e' n) (h : OkV s e v u) : OkV s' e' v u := by
  cases v with
  | c x => exact Ok.mono hn h
  | a l => obtain ⟨us, hu, hl⟩ := h; exact ⟨us, hu, hl.mono hn⟩
  | t l => obtain ⟨us, hu, hl⟩ := h; exact ⟨us, hu, hl.mono hn⟩
theorem OkL.length : ∀ {l : List C} {us : List Value}, OkL s e l us → us.length = l.length
  | [], _, h => by rw [h]; rfl
  | x :: l, _, ⟨u, r, hu, _, h2⟩ => by rw [hu]; simp [h2.length]
theorem OkL.get : ∀ {l : List C} {us : List Value} {i : Nat} {x : C}, OkL s e l us → l[i]? = some x → ∃ u, us[i]? = some u ∧ Okc s e x u
  | [], _, _, _, _, hx => by simp at hx
  | y :: l, _, 0, x, ⟨u, r, hu, h1, _⟩, hx => by
    simp only [List.getElem?_cons_zero, Option.some.injEq] at hx
    subst hx; rw [hu]; exact ⟨u, rfl, h1⟩
  | y :: l, _, i + 1, x, ⟨u, r, hu, _, h2⟩, hx => by
    rw [hu]; simpa using h2.get (i := i) (by simpa using hx)
theorem OkL.mk : ∀ {l : List C} {us : List Value}, us.length = l.length → (∀ (i : Nat) (x : C), l[i]? = some x → ∃ u, us[i]? = some u ∧ Okc s e x u) → OkL s e l us
  | [], us, h, _ => List.eq_nil_of_length_eq_zero h
  | x :: l, [], h, _ => by simp at h
  | x :: l, u :: us, h, hx => by
    refine ⟨u, us, rfl, ?_, OkL.mk (by simpa using h) fun i y hy => by simpa using hx (i + 1) y (by simpa using hy)⟩
    obtain ⟨u', h1, h2⟩ := hx 0 x rfl
    simp at h1; subst h1; exact h2
theorem OkL.plain : ∀ (l : List Value), l.all (·.oneCell') = true → OkL s e (l.map C.v) l
  | [], _ => rfl
  | x :: l, h => by
    simp only [List.all_cons, Bool.and_eq_true] at h
    exact ⟨x, l, rfl, ⟨h.1, fun _ => rfl⟩, OkL.plain l h.2⟩
theorem OkL.eq : ∀ {l : List Value} {us : List Value}, OkL s e (l.map C.v) us → us = l
  | [], _, h => h
  | x :: l, _, ⟨u, r, hu, h1, h2⟩ => by
    have : u = x := h1.ok (fun n hn => by simp [C.names] at hn)
    rw [hu, this, h2.eq]
theorem plain_names (l : List Value) : (l.map C.v).flatMap C.names = [] := by induction l with
  | nil => rfl
  | cons x l ih => simp [List.flatMap_cons, C.names, ih]
theorem Ok.plain {x u : Value} (h : Ok s e (.v x) u) : u = x := h (fun n hn => by simp [C.names] at hn)
theorem Ok.of {x : Value} : Ok s e (.v x) x := fun _ => rfl
theorem MOk.mono {w w' : World} {n : Nat} {own : Bool} {l : List C} (hl : ∀ m ∈ l.flatMap C.names, Mo s e s' e' m) (hn : e.same e' n) (hw : e.rm n ≠ 0 → w'.heap[e.id n]? = w.heap[e.id n]?) (h : MOk s e w n own l) : MOk s' e' w' n own l := by
  obtain ⟨h1, h2⟩ := h
  refine ⟨by rw [← hn.rm]; exact h1, ?_⟩
  rw [← hn.rm, ← hn.id, ← hn.bs]
  rcases h2 with h2 | ⟨cs, ty, fz, a, b, c, d⟩
  · exact .inl h2
  · by_cases h0 : e.rm n = 0
    · exact .inl h0
    · refine .inr ⟨cs, ty, fz, (hw h0).trans a, b, c, fun i x hx => ?_⟩
      obtain ⟨u, hu, hk⟩ := d i x hx
      exact ⟨u, hu, hk.mono fun m hm => hl m (List.mem_flatMap.2 ⟨x, List.mem_of_getElem? hx, hm⟩)⟩
theorem BOk.mono {w w' : World} {n : Nat} {b : B} (hl : ∀ m ∈ b.names, Mo s e s' e' m) (hn : e.same e' n) (hw : e.rm n ≠ 0 → w'.heap[e.id n]? = w.heap[e.id n]?) (h : BOk s e w n b) : BOk s' e' w' n b := by
  cases b with
  | m o l => exact MOk.mono hl hn hw h
  | w o l => exact MOk.mono (fun m hm => by rw [plain_names] at hm; cases hm) hn hw h
  | lp r =>
    obtain ⟨h1, fn, tm, h2, h3, h4⟩ := h
    refine ⟨by rw [← hn.rm]; exact h1, fn, tm, ?_, h3, fun i v hv => ?_⟩
    · rw [← hn.id, hw (by omega), h2, ((hl r.D (by simp [B.names])).2).id]
    · obtain ⟨u, hu, hk⟩ := h4 i v hv
      exact ⟨u, hu, hk.mono fun m hm => hl m (by simp only [B.names, List.mem_cons]; exact .inr (List.mem_flatMap.2 ⟨_, hv, hm⟩))⟩
  | df =>
    obtain ⟨h1, h2⟩ := h
    exact ⟨by rw [← hn.rm]; exact h1, by rw [← hn.id, hw (by omega)]; exact h2⟩
end

section
variable {c : Ctx} {s s' : Sf} {e e' : Env} {a : Act} {w w' : World}
theorem BOk.lt {n : Nat} {b : B} (h : BOk s e w n b) (h0 : e.rm n ≠ 0) : e.id n < w.heap.size := by
  have key : ∀ {x : Obj}, w.heap[e.id n]? = some x → e.id n < w.heap.size := fun h => (Array.getElem?_eq_some_iff.1 h).1
  cases b with
  | m o l => obtain ⟨_, h1 | ⟨cs, ty, fz, h1, _⟩⟩ := h; exact absurd h1 h0; exact key h1
  | w o l => obtain ⟨_, h1 | ⟨cs, ty, fz, h1, _⟩⟩ := h; exact absurd h1 h0; exact key h1
  | lp r => obtain ⟨_, _, tm, h1, _⟩ := h; exact key h1
  | df => exact key h.2
theorem upd_append (s : Sf) : ∀ (x y : Ws), upd s (x ++ y) = upd (upd s y) x
  | [], y => by funext q; simp [upd, lookW]
  | (k, v) :: x, y => by
    funext q
    rw [List.cons_append, upd_cons, upd_cons, upd_append s x y]
theorem Cl.upd_t (h : Cl s) {d : Tmp} {v : V} (hn : ∀ n ∈ v.names, s (.l n) ≠ none) : Cl (upd s [(.t d, .v v)]) := by
  refine ⟨fun q x hx n hm => ?_, fun n hx => ?_⟩
  · rw [upd_cons_ne _ _ _ (by simp), upd_nil]
    rw [upd_cons] at hx
    split at hx
    · cases hx; exact hn n hm
    · rw [upd_nil] at hx; exact h.1 q x hx n hm
  · rw [upd_cons_ne _ _ _ (by simp), upd_nil] at hx ⊢
    exact h.2 n hx
/-- Slots do not matter to the world. -/
theorem RealW.slots (h : RealW c s e w) (hb : ∀ n, s' (.b n) = s (.b n)) (hl : ∀ n, s' (.l n) = s (.l n)) (hc : Cl s') : RealW c s' e w := by
  have hv : ∀ n, live s' n → live s n := fun n hn => by unfold live at *; rw [← hl]; exact hn
  refine ⟨fun n b h1 h2 => ?_, fun n n' b b' h1 h2 h3 h4 => ?_, fun n b h1 h2 => ?_, hc, h.given, h.os, h.tape, h.output, h.size, h.old⟩
  · rw [hl] at h1; rw [hb] at h2
    exact (h.blk n b h1 h2).mono (fun m _ => ⟨hv m, .rfl⟩) .rfl (fun _ => rfl)
  · rw [hl] at h1 h3; rw [hb] at h2 h4; exact h.sep n n' b b' h1 h2 h3 h4
  · rw [hl] at h1; rw [hb] at h2; exact h.own n b h1 h2
theorem Real.put (h : Real c s e a w) {d : Tmp} {v : V} {u : Value} (hd : d < c.N) (hk : OkV s e v u) (hn : ∀ n ∈ v.names, s (.l n) ≠ none) : Real c (upd s [(.t d, .v v)]) e (a.put (some d) u) w := by
  have hb : ∀ n, upd s [(.t d, .v v)] (.b n) = s (.b n) := fun n => by rw [upd_cons_ne _ _ _ (by simp), upd_nil]
  have hl : ∀ n, upd s [(.t d, .v v)] (.l n) = s (.l n) := fun n => by rw [upd_cons_ne _ _ _ (by simp), upd_nil]
  have hv : ∀ n, live (upd s [(.t d, .v v)]) n → live s n := fun n hn => by unfold live at *; rw [← hl]; exact hn
  refine ⟨h.W.slots hb hl (h.W.cl.upd_t hn), h.defers, fun n hn => by rw [hb, hl]; exact h.fml n hn, by simpa [Act.put] using h.slots, fun i x hx => ?_⟩
  simp only [Act.put, Array.getElem?_setIfInBounds]
  rw [upd_cons] at hx
  by_cases hi : d = i
  · subst hi
    rw [if_pos rfl] at hx; cases hx
    rw [if_pos rfl, if_pos (by rw [h.slots]; exact hd)]
    exact ⟨u, rfl, hk.mono fun m _ => ⟨hv m, .rfl⟩⟩
  · rw [if_neg (by simpa using hi), upd_nil] at hx
    rw [if_neg hi]
    obtain ⟨u', h1, h2⟩ := h.tmp i x hx
    exact ⟨u', h1, h2.mono fun m _ => ⟨hv m, .rfl⟩⟩
theorem Real.same (h : Real c s e a w) : Real c (upd s []) e a w := by rw [upd_nil]; exact h
/-- The frame goes on in another world. -/
theorem Real.withW (h : Real c s e a w) (hw : RealW c s' e' w') (ht : ∀ i, s' (.t i) = s (.t i)) (hn : ∀ n, s (.l n) ≠ none → Mo s e s' e' n) (hf : ∀ n ∈ c.fm, s' (.l n) = s (.l n) ∧ s' (.b n) = s (.b n)) : Real c s' e' a w' := by
  have hal : ∀ n ∈ c.fm, s (.l n) ≠ none := fun n hn => by rw [(h.fml n hn).1]; simp
  refine ⟨hw, ?_, fun n hn => by rw [(hf n hn).1, (hf n hn).2]; exact h.fml n hn, h.slots, fun i v hx => ?_⟩
  · rw [h.defers]
    exact List.map_congr_left fun n hm => by rw [(hn n (hal n hm)).2.id]
  · rw [ht] at hx
    obtain ⟨u, h1, h2⟩ := h.tmp i v hx
    exact ⟨u, h1, h2.mono fun m hm => hn m (h.W.cl.1 _ _ hx m hm)⟩
/-- The world moved on, what is named stayed. -/
theorem RealW.on (h : RealW c s e w) (hb : Below w.heap.size w w') : RealW c s e w' := by
  have hB := h.size
  refine ⟨fun n b h1 h2 => ?_, h.sep, h.own, h.cl, h.given, hb.os.trans h.os, hb.tape.trans h.tape, hb.output.trans h.output, Nat.le_trans h.size hb.size, fun k hk ht => (hb.block k (by omega)).trans (h.old k hk ht)⟩
  exact (h.blk n b h1 h2).mono (fun m _ => ⟨id, .rfl⟩) .rfl (fun h0 => hb.block _ ((h.blk n b h1 h2).lt h0))
theorem Real.on (h : Real c s e a w) (hb : Below w.heap.size w w') : Real c s e a w' := ⟨h.W.on hb, h.defers, h.fml, h.slots, h.tmp⟩

/-- The keys of a new block. -/
def wsNew (n : Nat) (b : B) : Ws := [(.l n, .l true), (.b n, .b b)]
theorem wsNew_l {n k : Nat} {b : B} : upd s (wsNew n b) (.l k) = if n = k then some (.l true) else s (.l k) := by
  unfold wsNew; rw [upd_cons, upd_cons_ne _ _ _ (by simp), upd_nil]; simp
theorem wsNew_b {n k : Nat} {b : B} : upd s (wsNew n b) (.b k) = if n = k then some (.b b) else s (.b k) := by
  unfold wsNew; rw [upd_cons_ne _ _ _ (by simp), upd_cons, upd_nil]; simp
theorem wsNew_t {n i : Nat} {b : B} : upd s (wsNew n b) (.t i) = s (.t i) := by
  unfold wsNew; rw [upd_cons_ne _ _ _ (by simp), upd_cons_ne _ _ _ (by simp), upd_nil]
theorem wsNew_live {n k : Nat} {b : B} (h : k ≠ n) : live (upd s (wsNew n b)) k ↔ live s k := by
  unfold live; rw [wsNew_l, if_neg (fun e => h e.symm)]
theorem Cl.new (h : Cl s) {n : Nat} {b : B} (hn : ∀ k ∈ b.names, k = n ∨ s (.l k) ≠ none) : Cl (upd s (wsNew n b)) := by
  have hl : ∀ k, s (.l k) ≠ none → upd s (wsNew n b) (.l k) ≠ none := fun k hk => by
    rw [wsNew_l]; split
    · simp
    · exact hk
  refine ⟨fun q x hx k hm => ?_, fun k hx => ?_⟩
  · unfold wsNew at hx
    rw [upd_cons] at hx
    split at hx
    · cases hx; cases hm
    · rw [upd_cons] at hx
      split at hx
      · cases hx
        rcases hn k hm with rfl | h
        · rw [wsNew_l, if_pos rfl]; simp
        · exact hl k h
      · rw [upd_nil] at hx; exact hl k (h.1 q x hx k hm)
  · rw [wsNew_b] at hx
    split at hx
    · rename_i h; subst h; rw [wsNew_l, if_pos rfl]; simp
    · exact hl k (h.2 k hx)
theorem not_live {n k : Nat} (h : s (.l n) = none) (hk : s (.l k) ≠ none) : k ≠ n := fun e => hk (e ▸ h)
/-- A new block. -/
theorem RealW.new (h : RealW c s e w) {n : Nat} (hm : ¬ c.gv n) (hn : s (.l n) = none) (o : Obj) (r : Nat) {b : B} (hb : BOk (upd s (wsNew n b)) (e.set n w.heap.size 0 r) (w.alloc o) n b) (hnm : ∀ k ∈ b.names, k = n ∨ s (.l k) ≠ none) :
    RealW c (upd s (wsNew n b)) (e.set n w.heap.size 0 r) (w.alloc o) := by
  have hne : ∀ {k}, s (.l k) ≠ none → k ≠ n := fun hk => not_live hn hk
  have hal : ∀ {k x}, s (.l k) = some x → s (.l k) ≠ none := fun h => by rw [h]; simp
  have hmo : ∀ k, k ≠ n → Mo s e (upd s (wsNew n b)) (e.set n w.heap.size 0 r) k := fun k hk => ⟨(wsNew_live hk).1, (Env.set_ne e hk).symm⟩
  refine ⟨?_, ?_, ?_, h.cl.new hnm, ?_, h.os, h.tape, h.output, ?_, ?_⟩
  · intro k b' h1 h2
    by_cases hk : k = n
    · subst hk; rw [wsNew_b, if_pos rfl] at h2; cases h2; exact hb
    · rw [wsNew_l, if_neg (fun e => hk e.symm)] at h1
      rw [wsNew_b, if_neg (fun e => hk e.symm)] at h2
      have hbk := h.blk k b' h1 h2
      exact hbk.mono (fun m hm => hmo m (hne (h.cl.1 _ _ h2 m hm))) (Env.set_ne e hk).symm (fun h0 => by rw [Below.heap_alloc w _ _ (hbk.lt h0)])
  · intro k k' b1 b2 h1 h2 h3 h4 hkk ho
    have other : ∀ {j : Nat} {b' : B}, j ≠ n → upd s (wsNew n b) (.l j) = some (.l true) → upd s (wsNew n b) (.b j) = some (.b b') → s (.l j) = some (.l true) ∧ s (.b j) = some (.b b') := fun hj h1 h2 => by
      rw [wsNew_l, if_neg (fun e => hj e.symm)] at h1
      rw [wsNew_b, if_neg (fun e => hj e.symm)] at h2
      exact ⟨h1, h2⟩
    by_cases hk : k = n
    · subst hk
      obtain ⟨h3', h4'⟩ := other (fun e => hkk e.symm) h3 h4
      have hb2 := h.blk k' b2 h3' h4'
      rw [(Env.set_ne e (fun e => hkk e.symm)).rm, (Env.set_ne e (fun e => hkk e.symm)).id, Env.set_id]
      by_cases h0 : e.rm k' = 0
      · exact .inr (.inl h0)
      · have := hb2.lt h0; exact .inr (.inr (by omega))
    · obtain ⟨h1', h2'⟩ := other hk h1 h2
      by_cases hk' : k' = n
      · subst hk'
        have hb1 := h.blk k b1 h1' h2'
        rw [(Env.set_ne e hk).rm, (Env.set_ne e hk).id, Env.set_id]
        by_cases h0 : e.rm k = 0
        · exact .inl h0
        · have := hb1.lt h0; exact .inr (.inr (by omega))
      · obtain ⟨h3', h4'⟩ := other hk' h3 h4
        rw [(Env.set_ne e hk).rm, (Env.set_ne e hk).id, (Env.set_ne e hk').rm, (Env.set_ne e hk').id]
        exact h.sep k k' b1 b2 h1' h2' h3' h4' hkk ho
  · intro k b' h1 h2 ho
    by_cases hk : k = n
    · subst hk; rw [Env.set_id]; exact .inr (.inl h.size)
    · rw [wsNew_l, if_neg (fun e => hk e.symm)] at h1
      rw [wsNew_b, if_neg (fun e => hk e.symm)] at h2
      rw [(Env.set_ne e hk).rm, (Env.set_ne e hk).id]
      exact h.own k b' h1 h2 ho
  · intro k hk
    exact (Env.set_ne e (fun he => hm (by rw [← he]; exact hk))).trans (h.given k hk)
  · rw [World.size_alloc]; exact Nat.le_succ_of_le h.size
  · intro k hk ht
    rw [Below.heap_alloc w _ k (Nat.lt_of_lt_of_le hk h.size)]
    exact h.old k hk ht
theorem Real.new (h : Real c s e a w) {n : Nat} (hm : ¬ c.gv n) (hn : s (.l n) = none) (o : Obj) (r : Nat) {b : B} (hb : BOk (upd s (wsNew n b)) (e.set n w.heap.size 0 r) (w.alloc o) n b) (hnm : ∀ k ∈ b.names, k = n ∨ s (.l k) ≠ none) :
    Real c (upd s (wsNew n b)) (e.set n w.heap.size 0 r) a (w.alloc o) :=
  h.withW (h.W.new hm hn o r hb hnm) (fun i => wsNew_t) (fun k hk => ⟨(wsNew_live (not_live hn hk)).1, (Env.set_ne e (not_live hn hk)).symm⟩) (fun k hk => by
    have : k ≠ n := not_live hn (by rw [(h.fml k hk).1]; simp)
    rw [wsNew_l, wsNew_b, if_neg (fun e => this e.symm), if_neg (fun e => this e.symm)]; exact ⟨rfl, rfl⟩)

/-- What an own block holds becomes another thing. -/
theorem RealW.chg (h : RealW c s e w) {n : Nat} {b b' : B} (ha : s (.l n) = some (.l true)) (hb : s (.b n) = some (.b b)) (ho : b.own = true) (hr : e.rm n ≠ 0) (hw : ∀ k, k ≠ e.id n → w'.heap[k]? = w.heap[k]?) (hsz : w.heap.size ≤ w'.heap.size)
    (hos : w'.os = w.os) (htape : w'.tape = w.tape) (hout : w'.output = w.output) (hb' : BOk (upd s [(.b n, .b b')]) e w' n b') (hnm : ∀ k ∈ b'.names, s (.l k) ≠ none) : RealW c (upd s [(.b n, .b b')]) e w' := by
  have hl : ∀ k, upd s [(.b n, .b b')] (.l k) = s (.l k) := fun k => by rw [upd_cons_ne _ _ _ (by simp), upd_nil]
  have hbk : ∀ k, upd s [(.b n, .b b')] (.b k) = if n = k then some (.b b') else s (.b k) := fun k => by rw [upd_cons, upd_nil]; simp
  have hv : ∀ k, live (upd s [(.b n, .b b')]) k → live s k := fun k hk => by unfold live at *; rw [← hl]; exact hk
  have hown := h.own n b ha hb ho
  refine ⟨?_, ?_, ?_, ⟨?_, ?_⟩, h.given, hos.trans h.os, htape.trans h.tape, hout.trans h.output, Nat.le_trans h.size hsz, ?_⟩
  · intro k b2 h1 h2
    rw [hl] at h1
    rw [hbk] at h2
    by_cases hk : n = k
    · subst hk; rw [if_pos rfl] at h2; cases h2; exact hb'
    · rw [if_neg hk] at h2
      refine (h.blk k b2 h1 h2).mono (fun m _ => ⟨hv m, .rfl⟩) .rfl (fun h0 => hw _ ?_)
      rcases h.sep n k b b2 ha hb h1 h2 hk ho with h3 | h3 | h3
      · exact absurd h3 hr
      · exact absurd h3 h0
      · exact fun e => h3 e.symm
  · intro k k' b1 b2 h1 h2 h3 h4 hkk ho1
    rw [hl] at h1 h3
    rw [hbk] at h2 h4
    by_cases hk : n = k
    · subst hk
      rw [if_neg hkk] at h4
      exact h.sep n k' b b2 ha hb h3 h4 hkk ho
    · rw [if_neg hk] at h2
      by_cases hk' : n = k'
      · subst hk'
        exact h.sep k n b1 b h1 h2 ha hb hkk ho1
      · rw [if_neg hk'] at h4
        exact h.sep k k' b1 b2 h1 h2 h3 h4 hkk ho1
  · intro k b1 h1 h2 ho1
    rw [hl] at h1
    rw [hbk] at h2
    by_cases hk : n = k
    · subst hk; exact hown
    · rw [if_neg hk] at h2; exact h.own k b1 h1 h2 ho1
  · intro q x hx k hm
    rw [hl]
    rw [upd_cons] at hx
    split at hx
    · cases hx; exact hnm k hm
    · rw [upd_nil] at hx; exact h.cl.1 q x hx k hm
  · intro k hk
    rw [hl]
    rw [hbk] at hk
    split at hk
    · rename_i e; subst e; rw [ha]; simp
    · exact h.cl.2 k hk
  · intro k hk ht
    rw [hw k (fun e => by
      rcases hown with h1 | h1 | h1
      · exact hr h1
      · omega
      · exact ht (e ▸ h1))]
    exact h.old k hk ht
theorem Real.chg (h : Real c s e a w) {n : Nat} {b b' : B} (ha : s (.l n) = some (.l true)) (hb : s (.b n) = some (.b b)) (hdf : b ≠ .df) (ho : b.own = true) (hr : e.rm n ≠ 0) (hw : ∀ k, k ≠ e.id n → w'.heap[k]? = w.heap[k]?) (hsz : w.heap.size ≤ w'.heap.size)
    (hos : w'.os = w.os) (htape : w'.tape = w.tape) (hout : w'.output = w.output) (hb' : BOk (upd s [(.b n, .b b')]) e w' n b') (hnm : ∀ k ∈ b'.names, s (.l k) ≠ none) : Real c (upd s [(.b n, .b b')]) e a w' :=
  h.withW (h.W.chg ha hb ho hr hw hsz hos htape hout hb' hnm) (fun i => by rw [upd_cons_ne _ _ _ (by simp), upd_nil]) (fun k hk => ⟨fun hv => by unfold live at *; rwa [upd_cons_ne _ _ _ (by simp), upd_nil] at hv, .rfl⟩) (fun k hk => by
    have hne : n ≠ k := fun e => by subst e; have := (h.fml n hk).2; rw [hb] at this; cases this; exact hdf rfl
    rw [upd_cons_ne _ _ _ (by simp), upd_nil, upd_cons_ne _ _ _ (by simpa using hne), upd_nil]; exact ⟨rfl, rfl⟩)

/-- A name is given up. -/
theorem RealW.kill (h : RealW c s e w) {n : Nat} : RealW c (upd s [(.l n, .l false)]) e w := by
  have hl : ∀ k, upd s [(.l n, .l false)] (.l k) = if n = k then some (.l false) else s (.l k) := fun k => by rw [upd_cons, upd_nil]; simp
  have hb : ∀ k, upd s [(.l n, .l false)] (.b k) = s (.b k) := fun k => by rw [upd_cons_ne _ _ _ (by simp), upd_nil]
  have hlv : ∀ k, upd s [(.l n, .l false)] (.l k) = some (.l true) → s (.l k) = some (.l true) := fun k hk => by
    rw [hl] at hk; split at hk
    · cases hk
    · exact hk
  have hal : ∀ k, s (.l k) ≠ none → upd s [(.l n, .l false)] (.l k) ≠ none := fun k hk => by
    rw [hl]; split
    · simp
    · exact hk
  refine ⟨fun k b h1 h2 => ?_, fun k k' b b' h1 h2 h3 h4 => ?_, fun k b h1 h2 => ?_, ⟨fun q x hx k hm => ?_, fun k hk => hal k (h.cl.2 k (by rw [← hb]; exact hk))⟩, h.given, h.os, h.tape, h.output, h.size, h.old⟩
  · rw [hb] at h2
    exact (h.blk k b (hlv k h1) h2).mono (fun m _ => ⟨hlv m, .rfl⟩) .rfl (fun _ => rfl)
  · rw [hb] at h2 h4; exact h.sep k k' b b' (hlv _ h1) h2 (hlv _ h3) h4
  · rw [hb] at h2; exact h.own k b (hlv _ h1) h2
  · rw [upd_cons] at hx
    split at hx
    · cases hx; cases hm
    · rw [upd_nil] at hx; exact hal k (h.cl.1 q x hx k hm)
theorem Real.kill (h : Real c s e a w) {n : Nat} {b : B} (hb : s (.b n) = some (.b b)) (hdf : b ≠ .df) : Real c (upd s [(.l n, .l false)]) e a w :=
  h.withW h.W.kill (fun i => by rw [upd_cons_ne _ _ _ (by simp), upd_nil]) (fun k hk => ⟨fun hv => by
    unfold live at *; rw [upd_cons, upd_nil] at hv; split at hv
    · cases hv
    · exact hv, .rfl⟩) (fun k hk => by
    have hne : n ≠ k := fun e => by subst e; have := (h.fml n hk).2; rw [hb] at this; cases this; exact hdf rfl
    rw [upd_cons_ne _ _ _ (by simpa using hne), upd_nil, upd_cons_ne _ _ _ (by simp), upd_nil]; exact ⟨rfl, rfl⟩)

/-- A name takes another one's place, from a cell on. -/
def wsSteal (n m : Nat) (b : B) : Ws := (.l n, .l false) :: wsNew m b
theorem RealW.steal (h : RealW c s e w) {n m o : Nat} {b b' : B} (hm : ¬ c.gv m) (hnm : s (.l m) = none) (ha : s (.l n) = some (.l true)) (hb : s (.b n) = some (.b b)) (ho : b.own = true) (hw : ∀ k, k ≠ e.id n → w'.heap[k]? = w.heap[k]?) (h0 : e.rm n = 0 → w' = w) (hsz : w.heap.size ≤ w'.heap.size)
    (hos : w'.os = w.os) (htape : w'.tape = w.tape) (hout : w'.output = w.output) (hb' : BOk (upd s (wsSteal n m b')) (e.set m (e.id n) (e.bs n + o) (e.rm n - o)) w' m b') (hns : ∀ k ∈ b'.names, s (.l k) ≠ none) :
    RealW c (upd s (wsSteal n m b')) (e.set m (e.id n) (e.bs n + o) (e.rm n - o)) w' := by
  have hne : n ≠ m := fun e => by rw [← e, ha] at hnm; cases hnm
  have hl : ∀ k, upd s (wsSteal n m b') (.l k) = if n = k then some (.l false) else if m = k then some (.l true) else s (.l k) := fun k => by
    unfold wsSteal; rw [upd_cons, wsNew_l]; simp
  have hbk : ∀ k, upd s (wsSteal n m b') (.b k) = if m = k then some (.b b') else s (.b k) := fun k => by
    unfold wsSteal; rw [upd_cons_ne _ _ _ (by simp), wsNew_b]
  have hlv : ∀ k, k ≠ m → upd s (wsSteal n m b') (.l k) = some (.l true) → s (.l k) = some (.l true) ∧ k ≠ n := fun k hk hx => by
    rw [hl] at hx
    by_cases h1 : n = k
    · rw [if_pos h1] at hx; cases hx
    · rw [if_neg h1, if_neg (fun e => hk e.symm)] at hx; exact ⟨hx, fun e => h1 e.symm⟩
  have hal : ∀ k, s (.l k) ≠ none → upd s (wsSteal n m b') (.l k) ≠ none := fun k hk => by
    rw [hl]; split
    · simp
    · split
      · simp
      · exact hk
  have hown := h.own n b ha hb ho
  have hmo : ∀ k, s (.l k) ≠ none → Mo s e (upd s (wsSteal n m b')) (e.set m (e.id n) (e.bs n + o) (e.rm n - o)) k := fun k hk =>
    ⟨fun hx => (hlv k (not_live hnm hk) hx).1, (Env.set_ne e (not_live hnm hk)).symm⟩
  have hsame : ∀ k b2, k ≠ n → s (.l k) = some (.l true) → s (.b k) = some (.b b2) → e.rm k ≠ 0 → w'.heap[e.id k]? = w.heap[e.id k]? := fun k b2 hk h1 h2 hr => by
    rcases h.sep n k b b2 ha hb h1 h2 (fun e => hk e.symm) ho with h3 | h3 | h3
    · rw [h0 h3]
    · exact absurd h3 hr
    · exact hw _ (fun e => h3 e.symm)
  refine ⟨?_, ?_, ?_, ⟨?_, ?_⟩, ?_, hos.trans h.os, htape.trans h.tape, hout.trans h.output, Nat.le_trans h.size hsz, ?_⟩
  · intro k b2 h1 h2
    rw [hbk] at h2
    by_cases hk : m = k
    · subst hk; rw [if_pos rfl] at h2; cases h2; exact hb'
    · rw [if_neg hk] at h2
      obtain ⟨h1, hkn⟩ := hlv k (fun e => hk e.symm) h1
      exact (h.blk k b2 h1 h2).mono (fun j hj => hmo j (h.cl.1 _ _ h2 j hj)) (Env.set_ne e (fun e => hk e.symm)).symm (hsame k b2 hkn h1 h2)
  · intro k k' b1 b2 h1 h2 h3 h4 hkk ho1
    rw [hbk] at h2 h4
    by_cases hk : m = k
    · subst hk
      rw [if_neg hkk] at h4
      obtain ⟨h3, hkn⟩ := hlv k' (fun e => hkk e.symm) h3
      rw [Env.set_rm, Env.set_id, (Env.set_ne e (fun e => hkk e.symm)).rm, (Env.set_ne e (fun e => hkk e.symm)).id]
      rcases h.sep n k' b b2 ha hb h3 h4 (fun e => hkn e.symm) ho with h5 | h5 | h5
      · exact .inl (by omega)
      · exact .inr (.inl h5)
      · exact .inr (.inr h5)
    · rw [if_neg hk] at h2
      obtain ⟨h1, hkn⟩ := hlv k (fun e => hk e.symm) h1
      by_cases hk' : m = k'
      · subst hk'
        rw [Env.set_rm, Env.set_id, (Env.set_ne e hkk).rm, (Env.set_ne e hkk).id]
        rcases h.sep k n b1 b h1 h2 ha hb hkn ho1 with h5 | h5 | h5
        · exact .inl h5
        · exact .inr (.inl (by omega))
        · exact .inr (.inr h5)
      · rw [if_neg hk'] at h4
        obtain ⟨h3, hkn'⟩ := hlv k' (fun e => hk' e.symm) h3
        rw [(Env.set_ne e (fun e => hk e.symm)).rm, (Env.set_ne e (fun e => hk e.symm)).id, (Env.set_ne e (fun e => hk' e.symm)).rm, (Env.set_ne e (fun e => hk' e.symm)).id]
        exact h.sep k k' b1 b2 h1 h2 h3 h4 hkk ho1
  · intro k b2 h1 h2 ho2
    rw [hbk] at h2
    by_cases hk : m = k
    · subst hk
      rw [Env.set_rm, Env.set_id]
      rcases hown with h3 | h3 | h3
      · exact .inl (by omega)
      · exact .inr (.inl h3)
      · exact .inr (.inr h3)
    · rw [if_neg hk] at h2
      rw [(Env.set_ne e (fun e => hk e.symm)).rm, (Env.set_ne e (fun e => hk e.symm)).id]
      exact h.own k b2 (hlv k (fun e => hk e.symm) h1).1 h2 ho2
  · intro q x hx k hj
    unfold wsSteal at hx
    rw [upd_cons] at hx
    split at hx
    · cases hx; cases hj
    · unfold wsNew at hx
      rw [upd_cons] at hx
      split at hx
      · cases hx; cases hj
      · rw [upd_cons] at hx
        split at hx
        · cases hx; exact hal k (hns k hj)
        · rw [upd_nil] at hx; exact hal k (h.cl.1 q x hx k hj)
  · intro k hk
    rw [hbk] at hk
    split at hk
    · rename_i e; subst e; rw [hl, if_neg hne, if_pos rfl]; simp
    · exact hal k (h.cl.2 k hk)
  · intro k hk
    exact (Env.set_ne e (fun he => hm (by rw [← he]; exact hk))).trans (h.given k hk)
  · intro k hk ht
    by_cases hr : e.rm n = 0
    · rw [h0 hr]; exact h.old k hk ht
    · rw [hw k (fun e => by
        rcases hown with h1 | h1 | h1
        · exact hr h1
        · omega
        · exact ht (e ▸ h1))]
      exact h.old k hk ht
theorem Real.steal (h : Real c s e a w) {n m o : Nat} {b b' : B} (hm : ¬ c.gv m) (hnm : s (.l m) = none) (ha : s (.l n) = some (.l true)) (hb : s (.b n) = some (.b b)) (hdf : b ≠ .df) (ho : b.own = true) (hw : ∀ k, k ≠ e.id n → w'.heap[k]? = w.heap[k]?) (h0 : e.rm n = 0 → w' = w) (hsz : w.heap.size ≤ w'.heap.size)
    (hos : w'.os = w.os) (htape : w'.tape = w.tape) (hout : w'.output = w.output) (hb' : BOk (upd s (wsSteal n m b')) (e.set m (e.id n) (e.bs n + o) (e.rm n - o)) w' m b') (hns : ∀ k ∈ b'.names, s (.l k) ≠ none) :
    Real c (upd s (wsSteal n m b')) (e.set m (e.id n) (e.bs n + o) (e.rm n - o)) a w' :=
  h.withW (h.W.steal hm hnm ha hb ho hw h0 hsz hos htape hout hb' hns) (fun i => by unfold wsSteal; rw [upd_cons_ne _ _ _ (by simp), wsNew_t])
    (fun k hk => ⟨fun hv => by
      unfold live wsSteal at *
      rw [upd_cons, wsNew_l] at hv
      split at hv
      · cases hv
      · rw [if_neg (fun e => not_live hnm hk e.symm)] at hv; exact hv, (Env.set_ne e (not_live hnm hk)).symm⟩)
    (fun k hk => by
      have hne : n ≠ k := fun e => by subst e; have := (h.fml n hk).2; rw [hb] at this; cases this; exact hdf rfl
      have hkm : m ≠ k := fun e => not_live hnm (show s (.l k) ≠ none by rw [(h.fml k hk).1]; simp) e.symm
      unfold wsSteal
      rw [upd_cons_ne _ _ _ (by simpa using hne), wsNew_l, upd_cons_ne _ _ _ (by simp), wsNew_b, if_neg hkm, if_neg hkm]; exact ⟨rfl, rfl⟩)
end
end Go.Proofs.Ytbjogekhedglgaa.EV
