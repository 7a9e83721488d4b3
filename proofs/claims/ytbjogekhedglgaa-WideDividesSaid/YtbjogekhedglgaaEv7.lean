/- States by names: append. No program in sight. -/
import Derived.Test.YtbjogekhedglgaaEv6
namespace Go.Proofs.Ytbjogekhedglgaa.EV
open Go.RowKit

section
variable {c : Ctx} {F : Fence} {nn : Nat} {σ s : Sf} {e : Env} {a : Act} {w : World}
/-- A name for nothing. -/
theorem RealW.phantom (h : RealW c s e w) {n : Nat} (hm : ¬ c.gv n) (hn : s (.l n) = none) : RealW c (upd s (wsNew n (.m true []))) (e.set n 0 0 0) w := by
  have hne : ∀ {k}, s (.l k) ≠ none → k ≠ n := fun hk => not_live hn hk
  have hmo : ∀ k, k ≠ n → Mo s e (upd s (wsNew n (.m true []))) (e.set n 0 0 0) k := fun k hk => ⟨(wsNew_live hk).1, (Env.set_ne e hk).symm⟩
  have other : ∀ {j : Nat} {b' : B}, j ≠ n → upd s (wsNew n (.m true [])) (.l j) = some (.l true) → upd s (wsNew n (.m true [])) (.b j) = some (.b b') → s (.l j) = some (.l true) ∧ s (.b j) = some (.b b') := fun hj h1 h2 => by
    rw [wsNew_l, if_neg (fun e => hj e.symm)] at h1
    rw [wsNew_b, if_neg (fun e => hj e.symm)] at h2
    exact ⟨h1, h2⟩
  refine ⟨?_, ?_, ?_, h.cl.new (fun k hk => by cases hk), fun k hk => (Env.set_ne e (fun he => hm (by rw [← he]; exact hk))).trans (h.given k hk), h.os, h.tape, h.output, h.size, h.old⟩
  · intro k b' h1 h2
    by_cases hk : k = n
    · subst hk; rw [wsNew_b, if_pos rfl] at h2; cases h2
      exact ⟨Nat.zero_le _, .inl (Env.set_rm ..)⟩
    · obtain ⟨h1, h2⟩ := other hk h1 h2
      exact (h.blk k b' h1 h2).mono (fun m hm => hmo m (hne (h.cl.1 _ _ h2 m hm))) (Env.set_ne e hk).symm (fun _ => rfl)
  · intro k k' b1 b2 h1 h2 h3 h4 hkk ho
    by_cases hk : k = n
    · subst hk; exact .inl (Env.set_rm ..)
    · by_cases hk' : k' = n
      · subst hk'; exact .inr (.inl (Env.set_rm ..))
      · obtain ⟨h1', h2'⟩ := other hk h1 h2
        obtain ⟨h3', h4'⟩ := other hk' h3 h4
        rw [(Env.set_ne e hk).rm, (Env.set_ne e hk).id, (Env.set_ne e hk').rm, (Env.set_ne e hk').id]
        exact h.sep k k' b1 b2 h1' h2' h3' h4' hkk ho
  · intro k b' h1 h2 ho
    by_cases hk : k = n
    · subst hk; exact .inl (Env.set_rm ..)
    · obtain ⟨h1, h2⟩ := other hk h1 h2
      rw [(Env.set_ne e hk).rm, (Env.set_ne e hk).id]
      exact h.own k b' h1 h2 ho
theorem Real.phantom (h : Real c s e a w) {n : Nat} (hm : ¬ c.gv n) (hn : s (.l n) = none) : Real c (upd s (wsNew n (.m true []))) (e.set n 0 0 0) a w :=
  h.withW (h.W.phantom hm hn) (fun i => wsNew_t) (fun k hk => ⟨(wsNew_live (not_live hn hk)).1, (Env.set_ne e (not_live hn hk)).symm⟩) (fun k hk => by
    have : k ≠ n := not_live hn (by rw [(h.fml k hk).1]; simp)
    rw [wsNew_l, wsNew_b, if_neg (fun e => this e.symm), if_neg (fun e => this e.symm)]; exact ⟨rfl, rfl⟩)
theorem steal_eq {n m : Nat} {b : B} (h : n ≠ m) : upd s (wsSteal n m b) = upd (upd s [(.l n, .l false)]) (wsNew m b) := by
  funext q
  cases q with
  | t i => rw [wsNew_t]; unfold wsSteal; rw [upd_cons_ne _ _ _ (by simp), wsNew_t, upd_cons_ne _ _ _ (by simp), upd_nil]
  | b k => rw [wsNew_b]; unfold wsSteal; rw [upd_cons_ne _ _ _ (by simp), wsNew_b, upd_cons_ne _ _ _ (by simp), upd_nil]
  | l k =>
    rw [wsNew_l]; unfold wsSteal; rw [upd_cons, wsNew_l, upd_cons, upd_nil]
    by_cases hk : n = k
    · subst hk; rw [if_pos rfl, if_neg (fun e => h e.symm), if_pos rfl]
    · simp [hk]

/-- What is appended: k places, of z cells each. -/
def SrcOk (c : Ctx) (σ : Sf) (x : Operand) (k z : Nat) (vs : List C) (ks : List Key) : Prop :=
  ∀ s e a w, (∀ q ∈ ks, s q = σ q) → Real c s e a w → ∃ us : List Value, us.length = k * z ∧ OkL s e vs us ∧ (∀ n ∈ vs.flatMap C.names, s (.l n) ≠ none) ∧
    ∀ w', w'.heap = w.heap → (Builtin.lenOf (a.eval x)).run c.P w' = .ok k w' ∧ (Builtin.firstCells z k (a.eval x)).run c.P w' = .ok us.toArray w'
theorem SrcOk.mono {x : Operand} {k z : Nat} {vs : List C} {ks ks' : List Key} (h : SrcOk c σ x k z vs ks) (hs : ∀ q ∈ ks, q ∈ ks') : SrcOk c σ x k z vs ks' :=
  fun s e a w hag hR => h s e a w (fun q hq => hag q (hs q hq)) hR
theorem src_nil {x : Operand} {z : Nat} {cap : Nat} (hx : opv σ x = some (.c (.v (.slice none 0 cap)))) : SrcOk c σ x 0 z [] (opk x) := by
  intro s e a w hag hR
  have ex := ev1v hx hag (fun q h => h) hR
  exact ⟨[], by simp, rfl, fun n hn => by simp at hn, fun w' _ => ⟨by rw [ex]; rfl, by rw [ex]; simp [Builtin.firstCells]⟩⟩
theorem first_zero {P : Program} {z : Nat} {p : Option Addr} {cap : Nat} {w : World} : (Builtin.firstCells z 0 (.slice p 0 cap)).run P w = .ok #[] w := by
  cases p with
  | none => simp [Builtin.firstCells]
  | some p => simp [Builtin.firstCells, loadCells, loadCellsFrom]
theorem first_some {P : Program} {z k : Nat} {b o cap : Nat} {us : List Value} {w w' : World} (hw : w'.heap = w.heap) (hl : us.length = k * z) (h : w.rangeAt b o us) : (Builtin.firstCells z k (.slice (some ⟨b, o, none⟩) k cap)).run P w' = .ok us.toArray w' :=
  run_firstCells_some (P := P) w' z k ⟨b, o, none⟩ k cap us hl (fun j v hv => by
    rw [Addr.add_mid]
    have := h j v hv
    simpa [World.cell?, hw] using this)
theorem src_s {x : Operand} {n o k cap z : Nat} {b : B} {own : Bool} {l : List C} (hx : opv σ x = some (.c (.s n o k cap))) (ha : σ (.l n) = some (.l true)) (hb : σ (.b n) = some (.b b)) (hl : b.cellsC = some (own, l)) (hle : o + k * z ≤ l.length) : SrcOk c σ x k z ((l.drop o).take (k * z)) (.l n :: .b n :: opk x) := by
  intro s e a w hag hR
  have ex := ev1r hx hag (fun q h => by simp [h]) hR rfl ha (by simp)
  have hb' : s (.b n) = some (.b b) := by rw [hag _ (by simp)]; exact hb
  have hM := hR.W.cells (n := n) (by rw [hag _ (by simp)]; exact ha) hb' hl
  obtain ⟨us, h1, h2, h3⟩ := hM.range o (k * z) hle
  refine ⟨us, h1, h2, fun m hm => hR.W.cl.1 (.b n) (.b b) hb' m ?_, fun w' hw => ?_⟩
  · show m ∈ b.names
    rw [← B.cellsC_names hl]
    simp only [List.mem_flatMap] at hm ⊢
    obtain ⟨y, hy, hm⟩ := hm
    exact ⟨y, List.mem_of_mem_drop (List.mem_of_mem_take hy), hm⟩
  · rcases ex with ex | ⟨rfl, rfl, p, ex⟩
    · exact ⟨by rw [ex]; rfl, by rw [ex]; exact first_some hw h1 h3⟩
    · have : us = [] := List.eq_nil_of_length_eq_zero (by rw [h1]; simp)
      exact ⟨by rw [ex]; rfl, by rw [ex, this]; exact first_zero⟩
theorem src_g {x : Operand} {n o k lb z z' : Nat} {b : B} {own : Bool} {l : List C} (hx : opv σ x = some (.c (.g n o k lb z'))) (ha : σ (.l n) = some (.l true)) (hb : σ (.b n) = some (.b b)) (hl : b.cellsC = some (own, l)) (hle : o + k * z ≤ l.length) : SrcOk c σ x k z ((l.drop o).take (k * z)) (.l n :: .b n :: opk x) := by
  intro s e a w hag hR
  have ex := ev1r hx hag (fun q h => by simp [h]) hR rfl ha (by simp)
  have hb' : s (.b n) = some (.b b) := by rw [hag _ (by simp)]; exact hb
  have hM := hR.W.cells (n := n) (by rw [hag _ (by simp)]; exact ha) hb' hl
  obtain ⟨us, h1, h2, h3⟩ := hM.range o (k * z) hle
  refine ⟨us, h1, h2, fun m hm => hR.W.cl.1 (.b n) (.b b) hb' m ?_, fun w' hw => ?_⟩
  · show m ∈ b.names
    rw [← B.cellsC_names hl]
    simp only [List.mem_flatMap] at hm ⊢
    obtain ⟨y, hy, hm⟩ := hm
    exact ⟨y, List.mem_of_mem_drop (List.mem_of_mem_take hy), hm⟩
  · rcases ex with ⟨cap, ex, _⟩ | ⟨rfl, rfl, p, ex⟩
    · exact ⟨by rw [ex]; rfl, by rw [ex]; exact first_some hw h1 h3⟩
    · have : us = [] := List.eq_nil_of_length_eq_zero (by rw [h1]; simp)
      exact ⟨by rw [ex]; rfl, by rw [ex, this]; exact first_zero⟩
def u8V (b : UInt8) : Value := .int .u8 b.toNat
theorem u8V_one (l : List UInt8) : (l.map u8V).all (·.oneCell') = true := by
  rw [List.all_map]; exact List.all_eq_true.2 fun x _ => rfl
theorem src_str {x : Operand} {b : ByteArray} (hx : opv σ x = some (.c (.v (.string b)))) : SrcOk c σ x b.data.toList.length 1 ((b.data.toList.map u8V).map C.v) (opk x) := by
  intro s e a w hag hR
  have ex := ev1v hx hag (fun q h => h) hR
  refine ⟨b.data.toList.map u8V, by simp, OkL.plain _ (u8V_one _), ?_, fun w' _ => ?_⟩
  · intro n hn; rw [plain_names] at hn; cases hn
  have e1 : b.data.toList.length = b.size := by simp
  refine ⟨by rw [ex, e1]; rfl, ?_⟩
  rw [ex]
  simp only [Builtin.firstCells, Sem.run_pure]
  have e2 : b.extract 0 b.data.toList.length = b := by
    rw [e1]; exact ByteArray.extract_zero_size
  rw [e2]
  congr 1
  apply Array.ext'
  simp [u8V, Function.comp_def]
/-- Cells that were there and stay as they are. -/
theorem src_old {x : Operand} {b o k cap z : Nat} {L : List Value} (hx : opv σ x = some (.c (.v (.slice (some ⟨b, o, none⟩) k cap)))) (hz : ∀ j v, L[j]? = some v → c.w0.cell? ⟨b, o + j, none⟩ = some v) (hti : ¬ c.tch b) (hl : L.length = k * z) (h1 : L.all (·.oneCell') = true) : SrcOk c σ x k z (L.map C.v) (opk x) := by
  intro s e a w hag hR
  have ex := ev1v hx hag (fun q h => h) hR
  refine ⟨L, hl, OkL.plain _ h1, ?_, fun w' hw => ⟨by rw [ex]; rfl, ?_⟩⟩
  · intro n hn; rw [plain_names] at hn; cases hn
  rw [ex]
  exact first_some hw hl (fun j v hv => hR.W.old_cell (hz j v hv) hti)

/-! ### The builtin -/
/-- What is asked of the types. -/
structure AppT (P : Program) (t t2 el : TypeId) (z : Nat) (i : TypeInfo) (zv : Value) (need : Nat) : Prop where
  ht : P.underlying t = some (.slice el)
  h2 : P.underlying t2 = some .string ∨ ∃ x, P.underlying t2 = some (.slice x)
  hi : P.info? el = some i
  hs : i.size = z
  hz : i.zero = some zv
  zl : zv.cells.size = z
  fit : need * i.bytes ≤ 140737488355328 ∧ need ≤ 140737488355328
theorem run_app_fit {P : Program} {t t2 el ty : TypeId} {z : Nat} {i : TypeInfo} {zv : Value} {len cap k : Nat} {p : Option Addr} {X : Value} {us : List Value} (hT : AppT P t t2 el z i zv (len + k)) (hk : (Builtin.lenOf X).run P w = .ok k w) (hf : (Builtin.firstCells z k X).run P w = .ok us.toArray w) (hfit : len + k ≤ cap) {w' : World}
    (hst : ∀ q, p = some q → (storeCells (q.add (len * z)) us).run P w = .ok () w') (hno : p = none → w' = w) : (Builtin.append_ #[t, t2] ty #[.slice p len cap, X]).run P w = .ok (.slice p (len + k) cap) w' := by
  have hz := hT.hs
  subst hz
  rcases hT.h2 with hd | ⟨x, hd⟩
  all_goals
    simp [Builtin.append_, run_underlying hT.ht, run_underlying hd, sizeOf, typeInfo, hT.hi, hk, hfit, hf]
    cases p with
    | none => rw [hno rfl]; simp
    | some q => simp [hst q rfl]
theorem run_app_new {P : Program} {t t2 el ty : TypeId} {z : Nat} {i : TypeInfo} {zv : Value} {len cap k : Nat} {p : Option Addr} {X : Value} {us olds : List Value} (hT : AppT P t t2 el z i zv (len + k)) (hk : (Builtin.lenOf X).run P w = .ok k w) (hf : (Builtin.firstCells z k X).run P w.drew = .ok us.toArray w.drew) (hfit : ¬ len + k ≤ cap)
    (ho : (Builtin.firstCells z len (.slice p len cap)).run P w.drew = .ok olds.toArray w.drew) :
    ∃ zr : List Value, zr.length = (grownCap w (len + k) cap el - (len + k)) * z ∧ (Builtin.append_ #[t, t2] ty #[.slice p len cap, X]).run P w = .ok (.slice (some ⟨w.heap.size, 0, none⟩) (len + k) (grownCap w (len + k) cap el)) (w.drew.alloc (.cells (olds ++ us ++ zr).toArray el)) := by
  have hz := hT.hs
  subst hz
  have h1 := hT.fit.1
  have h2 := hT.fit.2
  have h63 : ¬ (9223372036854775807 < ((len : Int) + (k : Int))) := by omega
  have h48 := growslice_fits (need := len + k) (old := cap) (bytes := i.bytes) (by omega) h1
  have h48' : ¬ (281474976710656 < Builtin.nextslicecap (len + k) cap * i.bytes) := by omega
  refine ⟨(Builtin.zeroCells zv.cells (grownCap w (len + k) cap el - (len + k))).toList, by simp [size_zeroCells, hT.zl], ?_⟩
  rcases hT.h2 with hd | ⟨x, hd⟩
  all_goals
    simp [Builtin.append_, run_underlying hT.ht, run_underlying hd, sizeOf, typeInfo, zeroValue, hT.hi, hT.hz, hk, hfit, h63, h48', Question.forced, hf, ho, newRow, grownCap]
    try (congr 2; apply Array.ext'; simp [List.append_assoc])
end
end Go.Proofs.Ytbjogekhedglgaa.EV
