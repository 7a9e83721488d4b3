/- States by names: append. No program in sight. States by names: append, second part. No program in sight. States by names: append, copy, make, literals, texts as operations. No program in sight. States by names: literals, make, copy. No program in sight. States by names: copy. No program in sight. States by names: code, results, what a function comes to. No program in sight. States by names: calls. No program in sight. States by names: calls in the order of the text, rounds, ranges over functions. No program in sight. States by names: rounds, ranges over functions. No program in sight. A reckoner of operations over named blocks. No program in sight. States by names: a call as an operation among others. No program in sight. The reckoner is sound: what it says an operation yields, it yields. No program in sight. A reckoner of operations that lay or change blocks, and that it is sound. No program in sight. -/
import Derived.Test.YtnmkpekfkfckoaaHZA
import Derived.Lib.ConvBytes
import Derived.Laws.BytesString
import Derived.IntWalk
import Derived.LoopNIn
import Derived.RangeFuncLeaves
import Derived.RangeFuncRecord
import Derived.RangeFuncNested
namespace Go.Proofs.Ytnmkpekfkfckoaa.EV
set_option linter.unusedSectionVars false
open Go.RowKit
section
variable {c : Ctx} {F : Fence} {nn : Nat} {σ s : Sf} {e : Env} {a : Act} {w : World}
/-- A name for nothing. -/
theorem RealW.phantom (h : RealW c s e w) {n : Nat} (hm : ¬ c.gv n) (hn : s (.l n) = none) : RealW c (upd s (wsNew n (.m true []))) (e.set n 0 0 0) w := by
  have hne : ∀ {k}, s (.l k) ≠ none → k ≠ n := fun hk => not_live hn hk
  have hmo : ∀ k, k ≠ n → Mo s e (upd s (wsNew n (.m true []))) (e.set n 0 0 0) k := fun k hk => ⟨(wsNew_live hk).1, (Env.set_ne e hk).symm⟩
  have other : ∀ {j : Nat} {b' : B}, j ≠ n → upd s (wsNew n (.m true [])) (.l j) = some (.l true) → upd s (wsNew n (.m true [])) (.b j) = some (.b b') → s (.l j) = some (.l true) ∧ s (.b j) = some (.b b') := fun hj h1 h2 => by
    rw [wsNew_l, if_neg (fun e => hj e.symm)] at h1
    rw [wsNew_b, if_neg (fun e => hj e.symm)] at h2
    exact ⟨h1, h2⟩
  refine ⟨?_, ?_, ?_, h.cl.new (fun k hk => by cases hk), fun k hk => (Env.set_ne e (fun he => hm (by rw [← he]; exact hk))).trans (h.given k hk), h.os, h.tape, h.output, h.size, h.old⟩
  · intro k b' h1 h2
    by_cases hk : k = n
    · subst hk; rw [wsNew_b, if_pos rfl] at h2; cases h2
      exact ⟨Nat.zero_le _, .inl (Env.set_rm ..)⟩
    · obtain ⟨h1, h2⟩ := other hk h1 h2
      exact (h.blk k b' h1 h2).mono (fun m hm => hmo m (hne (h.cl.1 _ _ h2 m hm))) (Env.set_ne e hk).symm (fun _ => rfl)
  · intro k k' b1 b2 h1 h2 h3 h4 hkk ho
    by_cases hk : k = n
    · subst hk; exact .inl (Env.set_rm ..)
    · by_cases hk' : k' = n
      · subst hk'; exact .inr (.inl (Env.set_rm ..))
      · obtain ⟨h1', h2'⟩ := other hk h1 h2
        obtain ⟨h3', h4'⟩ := other hk' h3 h4
        rw [(Env.set_ne e hk).rm, (Env.set_ne e hk).id, (Env.set_ne e hk').rm, (Env.set_ne e hk').id]
        exact h.sep k k' b1 b2 h1' h2' h3' h4' hkk ho
  · intro k b' h1 h2 ho
    by_cases hk : k = n
    · subst hk; exact .inl (Env.set_rm ..)
    · obtain ⟨h1, h2⟩ := other hk h1 h2
      rw [(Env.set_ne e hk).rm, (Env.set_ne e hk).id]
      exact h.own k b' h1 h2 ho
theorem Real.phantom (h : Real c s e a w) {n : Nat} (hm : ¬ c.gv n) (hn : s (.l n) = none) : Real c (upd s (wsNew n (.m true []))) (e.set n 0 0 0) a w :=
  h.withW (h.W.phantom hm hn) (fun i => wsNew_t) (fun k hk => ⟨(wsNew_live (not_live hn hk)).1, (Env.set_ne e (not_live hn hk)).symm⟩) (fun k hk => by
    have : k ≠ n := not_live hn (by rw [(h.fml k hk).1]; simp)
    rw [wsNew_l, wsNew_b, if_neg (fun e => this e.symm), if_neg (fun e => this e.symm)]; exact ⟨rfl, rfl⟩)
theorem steal_eq {n m : Nat} {b : B} (h : n ≠ m) : upd s (wsSteal n m b) = upd (upd s [(.l n, .l false)]) (wsNew m b) := by
  funext q
  cases q with
  | t i => rw [wsNew_t]; unfold wsSteal; rw [upd_cons_ne _ _ _ (by simp), wsNew_t, upd_cons_ne _ _ _ (by simp), upd_nil]
  | b k => rw [wsNew_b]; unfold wsSteal; rw [upd_cons_ne _ _ _ (by simp), wsNew_b, upd_cons_ne _ _ _ (by simp), upd_nil]
  | l k =>
    rw [wsNew_l]; unfold wsSteal; rw [upd_cons, wsNew_l, upd_cons, upd_nil]
    by_cases hk : n = k
    · subst hk; rw [if_pos rfl, if_neg (fun e => h e.symm), if_pos rfl]
    · simp [hk]
/-- What is appended: k places, of z cells each. -/
def SrcOk (c : Ctx) (σ : Sf) (x : Operand) (k z : Nat) (vs : List C) (ks : List Key) : Prop :=
  ∀ s e a w, (∀ q ∈ ks, s q = σ q) → Real c s e a w → ∃ us : List Value, us.length = k * z ∧ OkL s e vs us ∧ (∀ n ∈ vs.flatMap C.names, s (.l n) ≠ none) ∧
    ∀ w', w'.heap = w.heap → (Builtin.lenOf (a.eval x)).run c.P w' = .ok k w' ∧ (Builtin.firstCells z k (a.eval x)).run c.P w' = .ok us.toArray w'
theorem first_zero {P : Program} {z : Nat} {p : Option Addr} {cap : Nat} {w : World} : (Builtin.firstCells z 0 (.slice p 0 cap)).run P w = .ok #[] w := by
  cases p with
  | none => simp [Builtin.firstCells]
  | some p => simp [Builtin.firstCells, loadCells, loadCellsFrom]
theorem src_nil {x : Operand} {z : Nat} {cap : Nat} {p : Option Addr} (hx : opv σ x = some (.c (.v (.slice p 0 cap)))) : SrcOk c σ x 0 z [] (opk x) := by
  intro s e a w hag hR
  have ex := ev1v hx hag (fun q h => h) hR
  exact ⟨[], by simp, rfl, fun n hn => by simp at hn, fun w' _ => ⟨by rw [ex]; rfl, by rw [ex]; exact first_zero⟩⟩
theorem first_some {P : Program} {z k : Nat} {b o cap : Nat} {us : List Value} {w w' : World} (hw : w'.heap = w.heap) (hl : us.length = k * z) (h : w.rangeAt b o us) : (Builtin.firstCells z k (.slice (some ⟨b, o, none⟩) k cap)).run P w' = .ok us.toArray w' :=
  run_firstCells_some (P := P) w' z k ⟨b, o, none⟩ k cap us hl (fun j v hv => by
    rw [Addr.add_mid]
    have := h j v hv
    simpa [World.cell?, hw] using this)
theorem src_s {x : Operand} {n o k cap z : Nat} {b : B} {own : Bool} {l : List C} (hx : opv σ x = some (.c (.s n o k cap))) (ha : σ (.l n) = some (.l true)) (hb : σ (.b n) = some (.b b)) (hl : b.cellsC = some (own, l)) (hle : o + k * z ≤ l.length) : SrcOk c σ x k z ((l.drop o).take (k * z)) (.l n :: .b n :: opk x) := by
  intro s e a w hag hR
  have ex := ev1r hx hag (fun q h => by simp [h]) hR rfl ha (by simp)
  have hb' : s (.b n) = some (.b b) := by rw [hag _ (by simp)]; exact hb
  have hM := hR.W.cells (n := n) (by rw [hag _ (by simp)]; exact ha) hb' hl
  obtain ⟨us, h1, h2, h3⟩ := hM.range o (k * z) hle
  refine ⟨us, h1, h2, fun m hm => hR.W.cl.1 (.b n) (.b b) hb' m ?_, fun w' hw => ?_⟩
  · show m ∈ b.names
    rw [← B.cellsC_names hl]
    simp only [List.mem_flatMap] at hm ⊢
    obtain ⟨y, hy, hm⟩ := hm
    exact ⟨y, List.mem_of_mem_drop (List.mem_of_mem_take hy), hm⟩
  · rcases ex with ex | ⟨rfl, rfl, p, ex⟩
    · exact ⟨by rw [ex]; rfl, by rw [ex]; exact first_some hw h1 h3⟩
    · have : us = [] := List.eq_nil_of_length_eq_zero (by rw [h1]; simp)
      exact ⟨by rw [ex]; rfl, by rw [ex, this]; exact first_zero⟩
theorem src_g {x : Operand} {n o k lb z z' : Nat} {b : B} {own : Bool} {l : List C} (hx : opv σ x = some (.c (.g n o k lb z'))) (ha : σ (.l n) = some (.l true)) (hb : σ (.b n) = some (.b b)) (hl : b.cellsC = some (own, l)) (hle : o + k * z ≤ l.length) : SrcOk c σ x k z ((l.drop o).take (k * z)) (.l n :: .b n :: opk x) := by
  intro s e a w hag hR
  have ex := ev1r hx hag (fun q h => by simp [h]) hR rfl ha (by simp)
  have hb' : s (.b n) = some (.b b) := by rw [hag _ (by simp)]; exact hb
  have hM := hR.W.cells (n := n) (by rw [hag _ (by simp)]; exact ha) hb' hl
  obtain ⟨us, h1, h2, h3⟩ := hM.range o (k * z) hle
  refine ⟨us, h1, h2, fun m hm => hR.W.cl.1 (.b n) (.b b) hb' m ?_, fun w' hw => ?_⟩
  · show m ∈ b.names
    rw [← B.cellsC_names hl]
    simp only [List.mem_flatMap] at hm ⊢
    obtain ⟨y, hy, hm⟩ := hm
    exact ⟨y, List.mem_of_mem_drop (List.mem_of_mem_take hy), hm⟩
  · rcases ex with ⟨cap, ex, _⟩ | ⟨rfl, rfl, p, ex⟩
    · exact ⟨by rw [ex]; rfl, by rw [ex]; exact first_some hw h1 h3⟩
    · have : us = [] := List.eq_nil_of_length_eq_zero (by rw [h1]; simp)
      exact ⟨by rw [ex]; rfl, by rw [ex, this]; exact first_zero⟩
def u8V (b : UInt8) : Value := .int .u8 b.toNat
/-- What is asked of the types. -/
structure AppT (P : Program) (t t2 el : TypeId) (z : Nat) (i : TypeInfo) (zv : Value) (need : Nat) : Prop where
  ht : P.underlying t = some (.slice el)
  h2 : P.underlying t2 = some .string ∨ ∃ x, P.underlying t2 = some (.slice x)
  hi : P.info? el = some i
  hs : i.size = z
  hz : i.zero = some zv
  zl : zv.cells.size = z
  fit : need * i.bytes ≤ 140737488355328 ∧ need ≤ 140737488355328
theorem run_app_fit {P : Program} {t t2 el ty : TypeId} {z : Nat} {i : TypeInfo} {zv : Value} {len cap k : Nat} {p : Option Addr} {X : Value} {us : List Value} (hT : AppT P t t2 el z i zv (len + k)) (hk : (Builtin.lenOf X).run P w = .ok k w) (hf : (Builtin.firstCells z k X).run P w = .ok us.toArray w) (hfit : len + k ≤ cap) {w' : World}
    (hst : ∀ q, p = some q → (storeCells (q.add (len * z)) us).run P w = .ok () w') (hno : p = none → w' = w) : (Builtin.append_ #[t, t2] ty #[.slice p len cap, X]).run P w = .ok (.slice p (len + k) cap) w' := by
  have hz := hT.hs
  subst hz
  rcases hT.h2 with hd | ⟨x, hd⟩
  all_goals
    simp [Builtin.append_, run_underlying hT.ht, run_underlying hd, sizeOf, typeInfo, hT.hi, hk, hfit, hf]
    cases p with
    | none => rw [hno rfl]; simp
    | some q => simp [hst q rfl]
theorem run_app_new {P : Program} {t t2 el ty : TypeId} {z : Nat} {i : TypeInfo} {zv : Value} {len cap k : Nat} {p : Option Addr} {X : Value} {us olds : List Value} (hT : AppT P t t2 el z i zv (len + k)) (hk : (Builtin.lenOf X).run P w = .ok k w) (hf : (Builtin.firstCells z k X).run P w.drew = .ok us.toArray w.drew) (hfit : ¬ len + k ≤ cap)
    (ho : (Builtin.firstCells z len (.slice p len cap)).run P w.drew = .ok olds.toArray w.drew) :
    ∃ zr : List Value, zr.length = (grownCap w (len + k) cap el - (len + k)) * z ∧ (Builtin.append_ #[t, t2] ty #[.slice p len cap, X]).run P w = .ok (.slice (some ⟨w.heap.size, 0, none⟩) (len + k) (grownCap w (len + k) cap el)) (w.drew.alloc (.cells (olds ++ us ++ zr).toArray el)) := by
  have hz := hT.hs
  subst hz
  have h1 := hT.fit.1
  have h2 := hT.fit.2
  have h63 : ¬ (9223372036854775807 < ((len : Int) + (k : Int))) := by omega
  have h48 := growslice_fits (need := len + k) (old := cap) (bytes := i.bytes) (by omega) h1
  have h48' : ¬ (281474976710656 < Builtin.nextslicecap (len + k) cap * i.bytes) := by omega
  refine ⟨(Builtin.zeroCells zv.cells (grownCap w (len + k) cap el - (len + k))).toList, by simp [size_zeroCells, hT.zl], ?_⟩
  rcases hT.h2 with hd | ⟨x, hd⟩
  all_goals
    simp [Builtin.append_, run_underlying hT.ht, run_underlying hd, sizeOf, typeInfo, zeroValue, hT.hi, hT.hz, hk, hfit, h63, h48', Question.forced, hf, ho, newRow, grownCap]
    try (congr 2; apply Array.ext'; simp [List.append_assoc])
end
end Go.Proofs.Ytnmkpekfkfckoaa.EV
namespace Go.Proofs.Ytnmkpekfkfckoaa.EV
open Go.RowKit
section
variable {c : Ctx} {F : Fence} {nn : Nat} {σ s : Sf} {e : Env} {a : Act} {w : World}
theorem OkL.append : ∀ {l m : List C} {us vs : List Value}, OkL s e l us → OkL s e m vs → OkL s e (l ++ m) (us ++ vs)
  | [], _, _, _, h, k => by rw [show _ = [] from h]; exact k
  | x :: l, m, _, vs, ⟨u, r, hu, h1, h2⟩, k => by subst hu; exact ⟨u, r ++ vs, rfl, h1, h2.append k⟩
theorem cellsC_ok {n : Nat} {b : B} {own : Bool} {l : List C} (hl : b.cellsC = some (own, l)) (h : MOk s e w n own l) : BOk s e w n b := by
  cases b with
  | m o l' => cases hl; exact h
  | w o l' => simp only [B.cellsC, Option.some.injEq, Prod.mk.injEq] at hl; obtain ⟨rfl, rfl⟩ := hl; exact h
  | _ => cases hl
theorem cellsC_own {b : B} {own : Bool} {l : List C} (hl : b.cellsC = some (own, l)) : b.own = own ∧ b ≠ .df := by
  cases b with
  | m o l' => cases hl; exact ⟨rfl, by simp⟩
  | w o l' => cases hl; exact ⟨rfl, by simp⟩
  | _ => cases hl
/-- The name m takes what is new. -/
theorem Real.grown (h : Real c s e a w) {m k z cap : Nat} {vs : List C} {all : List Value} {el : TypeId} {b' : B} (hm : ¬ c.gv m) (hn : s (.l m) = none) (hcap : k ≤ cap) (hml : cap ≤ maxLen) (hv : OkL s e vs (all.take (k * z))) (hlen : all.length = cap * z) (hnm : ∀ j ∈ vs.flatMap C.names, s (.l j) ≠ none) (hb' : b'.cellsC = some (true, vs)) :
    Real c (upd s (wsNew m b')) (e.set m w.heap.size 0 all.length) a (w.alloc (.cells all.toArray el)) ∧ Rep (e.set m w.heap.size 0 all.length) (.g m 0 k k z) (.slice (some ⟨w.heap.size, 0, none⟩) k cap) := by
  refine ⟨h.new hm hn _ _ (cellsC_ok hb' ?_) (fun j hj => .inr (hnm j (by rw [B.cellsC_names hb']; exact hj))), .inl ⟨cap, by simp [Env.set_id, Env.set_bs], hcap, hcap, hml, by rw [Env.set_rm, hlen]; omega⟩⟩
  have hlv := hv.length
  rw [List.length_take] at hlv
  have hle : k * z ≤ cap * z := Nat.mul_le_mul_right z hcap
  refine ⟨by rw [Env.set_rm]; omega, .inr ⟨all.toArray, el, (0, 0), by rw [Env.set_id]; exact World.alloc_heap_new w _, fun _ => .inl rfl, by rw [Env.set_bs, Env.set_rm]; simp, fun i x hx => ?_⟩⟩
  obtain ⟨u, h1, h2⟩ := hv.get hx
  rw [List.getElem?_take] at h1
  split at h1
  · exact ⟨u, by rw [Env.set_bs]; simpa using h1, h2.mono fun j hj => by
      have hj' : s (.l j) ≠ none := hnm j (List.mem_flatMap.2 ⟨x, List.mem_of_getElem? hx, hj⟩)
      exact ⟨(wsNew_live (not_live hn hj')).1, (Env.set_ne e (not_live hn hj')).symm⟩⟩
  · cases h1
theorem Real.void (h : Real c s e a w) {m z : Nat} {p : Option Addr} {b' : B} (hm : ¬ c.gv m) (hn : s (.l m) = none) (hb' : b'.cellsC = some (true, [])) :
    Real c (upd s (wsNew m b')) (e.set m 0 0 0) a w ∧ Rep (e.set m 0 0 0) (.g m 0 0 0 z) (.slice p 0 0) := by
  refine ⟨?_, .inr ⟨rfl, rfl, p, rfl⟩⟩
  have h1 := h.phantom hm hn
  refine h1.withW ?_ (fun i => by rw [wsNew_t, wsNew_t]) (fun k hk => ⟨fun hx => by unfold live at *; rw [wsNew_l] at hx ⊢; exact hx, .rfl⟩) (fun k hk => by
    have hne : m ≠ k := fun e => by
      have := (h1.fml k hk).2
      rw [wsNew_b, if_pos e] at this; cases this
    rw [wsNew_l, wsNew_l, wsNew_b, wsNew_b, if_neg hne, if_neg hne, if_neg hne]; exact ⟨rfl, rfl⟩)
  have hw := h1.W
  have hbm : ∀ k, upd s (wsNew m b') (.l k) = upd s (wsNew m (.m true [])) (.l k) := fun k => by rw [wsNew_l, wsNew_l]
  have hlv : ∀ k, live (upd s (wsNew m b')) k → live (upd s (wsNew m (.m true []))) k := fun k hk => by unfold live at *; rw [← hbm]; exact hk
  have hbb : ∀ k, k ≠ m → upd s (wsNew m b') (.b k) = upd s (wsNew m (.m true [])) (.b k) := fun k hk => by rw [wsNew_b, wsNew_b, if_neg (fun e => hk e.symm), if_neg (fun e => hk e.symm)]
  have hbo : ∀ k b2, upd s (wsNew m b') (.b k) = some (.b b2) → ∃ b3, upd s (wsNew m (.m true [])) (.b k) = some (.b b3) ∧ b3.own = b2.own := fun k b2 hk => by
    by_cases hkm : k = m
    · subst hkm
      rw [wsNew_b, if_pos rfl] at hk; cases hk
      exact ⟨.m true [], by rw [wsNew_b, if_pos rfl], (cellsC_own hb').1.symm⟩
    · rw [hbb k hkm] at hk; exact ⟨b2, hk, rfl⟩
  refine ⟨fun k b2 h1 h2 => ?_, fun k k' b1 b2 h1 h2 h3 h4 hkk ho => ?_, fun k b2 h1 h2 ho => ?_, h.W.cl.new (fun k hk => by rw [← B.cellsC_names hb'] at hk; cases hk), hw.given, hw.os, hw.tape, hw.output, hw.size, hw.old⟩
  · rw [hbm] at h1
    by_cases hkm : k = m
    · subst hkm
      rw [wsNew_b, if_pos rfl] at h2; cases h2
      exact cellsC_ok hb' ⟨Nat.zero_le _, .inl (Env.set_rm ..)⟩
    · rw [hbb k hkm] at h2
      exact (hw.blk k b2 h1 h2).mono (fun j _ => ⟨hlv j, .rfl⟩) .rfl (fun _ => rfl)
  · rw [hbm] at h1 h3
    obtain ⟨b3, h5, h6⟩ := hbo k b1 h2
    obtain ⟨b4, h7, h8⟩ := hbo k' b2 h4
    exact hw.sep k k' b3 b4 h1 h5 h3 h7 hkk (h6.trans ho)
  · rw [hbm] at h1
    obtain ⟨b3, h5, h6⟩ := hbo k b2 h2
    exact hw.own k b3 h1 h5 (h6.trans ho)
/-- Appending to what one owns: the name is given up. -/
theorem Real.append (hR : Real c s e a w) {n m o len k z : Nat} {b b' : B} {l vs : List C} {t t2 el ty : TypeId} {i : TypeInfo} {zv : Value} {u X : Value} {us : List Value} (hm : ¬ c.gv m) (hn : s (.l m) = none) (ha : s (.l n) = some (.l true)) (hb : s (.b n) = some (.b b)) (hl : b.cellsC = some (true, l)) (hle : o + len * z ≤ l.length)
    (hu : (∃ kk, u = .slice (some ⟨e.id n, e.bs n + o, none⟩) len kk ∧ len ≤ kk ∧ kk ≤ maxLen ∧ o + kk * z ≤ e.rm n) ∨ (len = 0 ∧ ∃ p, u = .slice p 0 0)) (hT : AppT c.P t t2 el z i zv (len + k)) (hlu : us.length = k * z) (hv : OkL s e vs us) (hnm : ∀ j ∈ vs.flatMap C.names, s (.l j) ≠ none)
    (hX : ∀ w', w'.heap = w.heap → (Builtin.lenOf X).run c.P w' = .ok k w' ∧ (Builtin.firstCells z k X).run c.P w' = .ok us.toArray w') (hb' : b'.cellsC = some (true, (l.drop o).take (len * z) ++ vs)) :
    ∃ r w' e', (Builtin.append_ #[t, t2] ty #[u, X]).run c.P w = .ok r w' ∧ Real c (upd s (wsSteal n m b')) e' a w' ∧ Rep e' (.g m 0 (len + k) (len + k) z) r := by
  have hnem : n ≠ m := fun e => by rw [← e, ha] at hn; cases hn
  have hM := hR.W.cells ha hb hl
  obtain ⟨olds, h1, h2, h3⟩ := hM.range o (len * z) hle
  have hfit := hT.fit
  have hmaxLen : len + k ≤ maxLen := by have : maxLen = 140737488351232 ∨ True := .inr trivial; simp only [maxLen]; omega
  -- the name given up
  have hk : Real c (upd s [(.l n, .l false)]) e a w := hR.kill hb (cellsC_own hl).2
  have hnk : upd s [(.l n, .l false)] (.l m) = none := by rw [upd_cons_ne _ _ _ (by simpa using hnem), upd_nil]; exact hn
  have hmo : ∀ j, Mo s e (upd s [(.l n, .l false)]) e j := fun j => ⟨fun hx => by
    unfold live at *; rw [upd_cons, upd_nil] at hx; split at hx
    · cases hx
    · exact hx, .rfl⟩
  have hnk2 : ∀ j, s (.l j) ≠ none → upd s [(.l n, .l false)] (.l j) ≠ none := fun j hj => by
    rw [upd_cons, upd_nil]; split
    · simp
    · exact hj
  have hold_nm : ∀ j ∈ ((l.drop o).take (len * z)).flatMap C.names, s (.l j) ≠ none := fun j hj => by
    refine hR.W.cl.1 (.b n) (.b b) hb j ?_
    show j ∈ b.names
    rw [← B.cellsC_names hl]
    simp only [List.mem_flatMap] at hj ⊢
    obtain ⟨y, hy, hj⟩ := hj
    exact ⟨y, List.mem_of_mem_drop (List.mem_of_mem_take hy), hj⟩
  have hall_nm : ∀ j ∈ ((l.drop o).take (len * z) ++ vs).flatMap C.names, s (.l j) ≠ none := fun j hj => by
    rw [List.flatMap_append] at hj
    rcases List.mem_append.1 hj with hj | hj
    · exact hold_nm j hj
    · exact hnm j hj
  have hboth := h2.append hv
  have hnew : ∀ {cap0 p}, u = .slice p len cap0 → ¬ len + k ≤ cap0 → (Builtin.firstCells z len (.slice p len cap0)).run c.P w.drew = .ok olds.toArray w.drew →
      ∃ r w' e', (Builtin.append_ #[t, t2] ty #[u, X]).run c.P w = .ok r w' ∧ Real c (upd s (wsSteal n m b')) e' a w' ∧ Rep e' (.g m 0 (len + k) (len + k) z) r := by
    intro cap0 p hu0 hnf hfo
    obtain ⟨zr, hz1, hrun⟩ := run_app_new (ty := ty) (w := w) hT (hX w rfl).1 (hX w.drew rfl).2 hnf hfo
    have hge := grownCap_ge w (len + k) cap0 el
    have hgl := grownCap_le_maxLen w (len + k) cap0 el hmaxLen
    have hlen : (olds ++ us ++ zr).length = grownCap w (len + k) cap0 el * z := by
      simp only [List.length_append, h1, hlu, hz1, ← Nat.add_mul]; congr 1; omega
    have htk : (olds ++ us ++ zr).take ((len + k) * z) = olds ++ us := by
      rw [List.take_append_of_le_length (by simp [h1, hlu, Nat.add_mul]), List.take_of_length_le (by simp [h1, hlu, Nat.add_mul])]
    obtain ⟨g1, g2⟩ := (hk.drawn (w.drawn + 1)).grown (z := z) (k := len + k) (el := el) (b' := b') (vs := (l.drop o).take (len * z) ++ vs) (all := olds ++ us ++ zr) hm hnk hge hgl (by rw [htk]; exact hboth.mono fun j _ => hmo j) hlen (fun j hj => hnk2 j (hall_nm j hj)) hb'
    refine ⟨_, _, _, by rw [hu0]; exact hrun, ?_, g2⟩
    rw [steal_eq hnem]; exact g1
  rcases hu with ⟨kk, hu, hk1, hk2, hk3⟩ | ⟨hlen0, p, hu⟩
  · by_cases hfitc : len + k ≤ kk
    · -- there is room
      have hroom : o + len * z + k * z ≤ e.rm n := by
        have : (len + k) * z ≤ kk * z := Nat.mul_le_mul_right z hfitc
        rw [Nat.add_mul] at this; omega
      have hst : (storeCells ((⟨e.id n, e.bs n + o, none⟩ : Addr).add (len * z)) us).run c.P w = .ok () (w.setCells (e.id n) (e.bs n + o + len * z) us) ∧ (e.rm n = 0 → w.setCells (e.id n) (e.bs n + o + len * z) us = w) ∧
          BOk (upd s (wsSteal n m b')) (e.set m (e.id n) (e.bs n + o) (e.rm n - o)) (w.setCells (e.id n) (e.bs n + o + len * z) us) m b' := by
        rcases hM.2 with h0 | ⟨cs, cty, fz, c1, c2, c3, c4⟩
        · have hus : us = [] := List.eq_nil_of_length_eq_zero (by omega)
          subst hus
          refine ⟨rfl, fun _ => rfl, cellsC_ok hb' ⟨?_, .inl (by rw [Env.set_rm, h0]; omega)⟩⟩
          have := hv.length; simp at this
          simp [this] at hle ⊢
          have : ((l.drop o).take (len * z)).length = len * z := by simp; omega
          rw [Env.set_rm]; simp at this; omega
        · obtain ⟨cs', g1, g2, g3⟩ := setCells_spec (e.id n) us (e.bs n + o + len * z) w cs cty fz c1
          refine ⟨?_, fun h0 => ?_, cellsC_ok hb' ⟨?_, .inr ⟨cs', cty, fz, by rw [Env.set_id]; exact g1, fun _ => ?_, ?_, fun i x hx => ?_⟩⟩⟩
          · rw [add_mid]
            have := run_storeCells_cells (P := c.P) (e.id n) (e.bs n + o + len * z) us 0 w (fun j hj => by simp [World.cell?, c1]; omega) (fun j hj => by
              have := unfroz (c2 rfl) (i := o + len * z + j) (by omega)
              simp only [World.frozen?, c1]
              rw [← Bool.not_eq_true]
              intro hb
              simp only [Bool.and_eq_true, decide_eq_true_eq] at hb
              exact this ⟨by omega, by omega⟩) (fun v hv' => hv.all_one v hv')
            simpa using this
          · have hus : us = [] := List.eq_nil_of_length_eq_zero (by omega)
            subst hus; rfl
          · have h5 : ((l.drop o).take (len * z)).length = len * z := by simp; omega
            rw [Env.set_rm, List.length_append, h5, ← hv.length, hlu]; omega
          · rw [Env.set_rm, Env.set_bs]
            have := c2 rfl
            omega
          · rw [Env.set_bs, Env.set_rm, g2]; omega
          · rw [Env.set_bs, g3]
            have h5 : ((l.drop o).take (len * z)).length = len * z := by simp; omega
            have hmo2 : ∀ j, s (.l j) ≠ none → Mo s e (upd s (wsSteal n m b')) (e.set m (e.id n) (e.bs n + o) (e.rm n - o)) j := fun j hj => ⟨fun hx => by
              unfold live at *
              rw [steal_eq hnem, wsNew_l, if_neg (fun e => not_live hn hj e.symm)] at hx
              exact (hmo j).1 hx, (Env.set_ne e (not_live hn hj)).symm⟩
            have hxm : ∀ j ∈ x.names, Mo s e (upd s (wsSteal n m b')) (e.set m (e.id n) (e.bs n + o) (e.rm n - o)) j := fun j hj => hmo2 j (hall_nm j (List.mem_flatMap.2 ⟨x, List.mem_of_getElem? hx, hj⟩))
            by_cases hi : i < len * z
            · rw [if_neg (by omega)]
              rw [List.getElem?_append_left (by omega), List.getElem?_take, if_pos hi, List.getElem?_drop] at hx
              obtain ⟨v, h6, h7⟩ := c4 (o + i) x hx
              exact ⟨v, by rw [← h6, Nat.add_assoc], h7.mono hxm⟩
            · rw [List.getElem?_append_right (by omega), h5] at hx
              obtain ⟨v, h6, h7⟩ := hv.get hx
              have hil : i - len * z < us.length := (List.getElem?_eq_some_iff.1 h6).1
              rw [if_pos (by omega), show e.bs n + o + i - (e.bs n + o + len * z) = i - len * z by omega]
              exact ⟨v, h6, h7.mono hxm⟩
      obtain ⟨s1, s2, s3⟩ := hst
      have hg := setCells_grown (e.id n) us (e.bs n + o + len * z) w
      refine ⟨.slice (some ⟨e.id n, e.bs n + o, none⟩) (len + k) kk, _, _, ?_, hR.steal (o := o) hm hn ha hb (cellsC_own hl).2 (cellsC_own hl).1 (fun k hk => setCells_other _ _ _ _ k hk) s2 hg.size hg.os hg.tape hg.output s3 (fun j hj => hall_nm j (by rw [B.cellsC_names hb']; exact hj)), .inl ⟨kk, ?_, hfitc, hfitc, hk2, ?_⟩⟩
      · rw [hu]
        exact run_app_fit (ty := ty) hT (hX w rfl).1 (hX w rfl).2 hfitc (fun q hq => by cases hq; exact s1) (fun hq => by cases hq)
      · rw [Env.set_id, Env.set_bs]; rfl
      · rw [Env.set_rm]; omega
    · exact hnew hu hfitc (first_some rfl h1 h3)
  · have hold : olds = [] := List.eq_nil_of_length_eq_zero (by rw [h1, hlen0]; simp)
    by_cases hk0 : k = 0
    · subst hk0; subst hlen0
      have hus : us = [] := List.eq_nil_of_length_eq_zero (by rw [hlu]; simp)
      have hvs : vs = [] := List.eq_nil_of_length_eq_zero (by rw [← hv.length, hus]; rfl)
      subst hvs
      have hb2 : b'.cellsC = some (true, []) := by rw [hb']; simp
      obtain ⟨g1, g2⟩ := hk.void (z := z) (p := p) hm hnk hb2
      refine ⟨.slice p 0 0, w, _, ?_, by rw [steal_eq hnem]; exact g1, g2⟩
      rw [hu]
      have := run_app_fit (ty := ty) (p := p) (cap := 0) (len := 0) (w := w) (w' := w) hT (hX w rfl).1 (hX w rfl).2 (by omega) (fun q hq => by rw [hus]; rfl) (fun _ => rfl)
      simpa using this
    · subst hlen0
      exact hnew (cap0 := 0) (p := p) hu (by omega) (by rw [hold]; exact first_zero)
end
end Go.Proofs.Ytnmkpekfkfckoaa.EV
namespace Go.Proofs.Ytnmkpekfkfckoaa.EV
open Go.RowKit
section
variable {c : Ctx} {F : Fence} {nn : Nat} {σ s : Sf} {e : Env} {a : Act} {w : World}
theorem Real.append0 (hR : Real c s e a w) {m k z : Nat} {b' : B} {vs : List C} {t t2 el ty : TypeId} {i : TypeInfo} {zv X : Value} {p : Option Addr} {us : List Value} (hm : ¬ c.gv m) (hn : s (.l m) = none)
    (hT : AppT c.P t t2 el z i zv (0 + k)) (hlu : us.length = k * z) (hv : OkL s e vs us) (hnm : ∀ j ∈ vs.flatMap C.names, s (.l j) ≠ none)
    (hX : ∀ w', w'.heap = w.heap → (Builtin.lenOf X).run c.P w' = .ok k w' ∧ (Builtin.firstCells z k X).run c.P w' = .ok us.toArray w') (hb' : b'.cellsC = some (true, vs)) :
    ∃ r w' e', (Builtin.append_ #[t, t2] ty #[.slice p 0 0, X]).run c.P w = .ok r w' ∧ Real c (upd s (wsNew m b')) e' a w' ∧ Rep e' (.g m 0 k k z) r := by
  by_cases hk0 : k = 0
  · subst hk0
    have hus : us = [] := List.eq_nil_of_length_eq_zero (by rw [hlu]; simp)
    have hvs : vs = [] := List.eq_nil_of_length_eq_zero (by rw [← hv.length, hus]; rfl)
    subst hvs
    obtain ⟨g1, g2⟩ := hR.void (z := z) (p := p) hm hn hb'
    refine ⟨.slice p 0 0, w, _, ?_, g1, g2⟩
    have := run_app_fit (ty := ty) (p := p) (cap := 0) (len := 0) (w := w) (w' := w) hT (hX w rfl).1 (hX w rfl).2 (by omega) (fun q hq => by rw [hus]; rfl) (fun _ => rfl)
    simpa using this
  · obtain ⟨zr, hz1, hrun⟩ := run_app_new (ty := ty) (w := w) (p := p) (cap := 0) (len := 0) (olds := []) hT (hX w rfl).1 (hX w.drew rfl).2 (by omega) first_zero
    have hge := grownCap_ge w (0 + k) 0 el
    have hgl := grownCap_le_maxLen w (0 + k) 0 el (by have := hT.fit.2; simp only [maxLen]; omega)
    have hlen : ([] ++ us ++ zr).length = grownCap w (0 + k) 0 el * z := by
      simp only [List.length_append, List.length_nil, Nat.zero_add, hlu, hz1, ← Nat.add_mul]; congr 1; simp only [Nat.zero_add] at hge; omega
    have htk : ([] ++ us ++ zr).take ((0 + k) * z) = us := by
      rw [List.nil_append, List.take_append_of_le_length (by simp [hlu]), List.take_of_length_le (by simp [hlu])]
    obtain ⟨g1, g2⟩ := (hR.drawn (w.drawn + 1)).grown (z := z) (k := 0 + k) (el := el) (b' := b') (vs := vs) (all := [] ++ us ++ zr) hm hn hge hgl (by rw [htk]; exact hv) hlen hnm hb'
    rw [Nat.zero_add] at g2 hrun
    exact ⟨_, _, _, hrun, g1, g2⟩
theorem new_names {m : Nat} {b : B} {x : C} (hx : x.names = [m]) : ∀ n ∈ (V.c x).names, upd s (wsNew m b) (.l n) ≠ none := fun n hn => by
  simp only [V.names, hx, List.mem_singleton] at hn; subst hn; exact new_alive
theorem steal_names {n m : Nat} {b : B} {x : C} (hx : x.names = [m]) (hne : n ≠ m) : ∀ j ∈ (V.c x).names, upd s (wsSteal n m b) (.l j) ≠ none := fun j hj => by
  simp only [V.names, hx, List.mem_singleton] at hj; subst hj; rw [steal_eq hne]; exact new_alive
theorem run_call_append {ρ : Operand → Value} {P : Program} {x y : Operand} {t t2 rt : TypeId} {d : Option Tmp} {pos : String} {af : Array Edge} {g : Option (Nat × Bool)} {r : Value} {w' : World} (h : (Builtin.append_ #[t, t2] rt #[ρ x, ρ y]).run P w = .ok r w') :
    (execOp ρ ⟨d, .call ⟨.builtin .append, #[x, y], #[t, t2]⟩, rt, pos, af, g⟩).run P w = .ok (.value r) w' := by
  simp only [execOp, resolve, Sem.run_bind, Sem.run_pure, Result.andThen_ok, invoke, builtin, List.map_toArray, List.map_cons, List.map_nil, h]
/-- An operation that does what append does. -/
structure AppOp (c : Ctx) (oo : Oper) (d : Option Tmp) (x y : Operand) (t t2 rt : TypeId) : Prop where
  dst : oo.dst = d
  nod : ∀ q, oo.op ≠ .defer q
  run : ∀ (a : Act) (w : World) (r : Value) (w' : World), (Builtin.append_ #[t, t2] rt #[a.eval x, a.eval y]).run c.P w = .ok r w' → (execOp a.eval oo).run c.P w = .ok (.value r) w'
theorem AppOp.self {x y : Operand} {t t2 rt : TypeId} {d : Option Tmp} {pos : String} {af : Array Edge} {g : Option (Nat × Bool)} : AppOp c ⟨d, .call ⟨.builtin .append, #[x, y], #[t, t2]⟩, rt, pos, af, g⟩ d x y t t2 rt :=
  ⟨rfl, noDefer rfl, fun _ _ _ _ h => run_call_append h⟩
theorem LocalO.appendG' (hF : WideLike F) {oo : Oper} {n m o len lb k z : Nat} {x y : Operand} {t t2 el rt : TypeId} {b b' : B} {l vs : List C} {ks : List Key} {i : TypeInfo} {zv : Value} {d : Option Tmp} (ho : AppOp c oo d x y t t2 rt) (hN : dOk c.N d = true)
    (hx : opv σ x = some (.c (.g n o len lb z))) (ha : σ (.l n) = some (.l true)) (hb : σ (.b n) = some (.b b)) (hl : b.cellsC = some (true, l)) (hle : o + len * z ≤ l.length) (hs : SrcOk c σ y k z vs ks) (hT : AppT c.P t t2 el z i zv (len + k)) (hm : ¬ c.gv m) (hn : σ (.l m) = none)
    (hb' : b'.cellsC = some (true, (l.drop o).take (len * z) ++ vs)) :
    LocalO c F nn oo σ ⟨kr (.l m :: .l n :: .b n :: (ks ++ opk x)), putW d (.c (.g m 0 (len + k) (len + k) z)) ++ wsSteal n m b'⟩ := by
  obtain ⟨rfl, hnod, hrun⟩ := ho
  refine LocalO.act hF hN hnod fun s e a w hag hR => ?_
  have hag' : ∀ q ∈ Key.l m :: .l n :: .b n :: (ks ++ opk x), s q = σ q := fun q hq => hag q (kr_iff.2 hq)
  have hn' : s (.l m) = none := by rw [hag' _ (by simp)]; exact hn
  have ex := ev1r hx hag' (fun q h => by simp [h]) hR rfl ha (by simp)
  obtain ⟨us, h1, h2, h3, h4⟩ := hs s e a w (fun q hq => hag' q (by simp [hq])) hR
  have ha' : s (.l n) = some (.l true) := by rw [hag' _ (by simp)]; exact ha
  obtain ⟨r, w', e', g1, g2, g3⟩ := hR.append (ty := rt) (o := o) (len := len) hm hn' ha' (by rw [hag' _ (by simp)]; exact hb) hl hle (u := a.eval x) (by
    rcases ex with ⟨kk, e1, e2, e3, e4, e5⟩ | ⟨e1, e2, p, e3⟩
    · exact .inl ⟨kk, e1, e2, e4, e5⟩
    · exact .inr ⟨e1, p, e3⟩) hT h1 h2 h3 h4 hb'
  exact ⟨r, w', e', hrun _ _ _ _ g1, g2, fun _ => g3, steal_names rfl (fun e => by rw [← e, ha'] at hn'; cases hn')⟩
theorem LocalO.appendG (hF : WideLike F) {n m o len lb k z : Nat} {x y : Operand} {t t2 el rt : TypeId} {b b' : B} {l vs : List C} {ks : List Key} {i : TypeInfo} {zv : Value} {d : Option Tmp} {pos : String} {af : Array Edge} {g : Option (Nat × Bool)} (hN : dOk c.N d = true)
    (hx : opv σ x = some (.c (.g n o len lb z))) (ha : σ (.l n) = some (.l true)) (hb : σ (.b n) = some (.b b)) (hl : b.cellsC = some (true, l)) (hle : o + len * z ≤ l.length) (hs : SrcOk c σ y k z vs ks) (hT : AppT c.P t t2 el z i zv (len + k)) (hm : ¬ c.gv m) (hn : σ (.l m) = none)
    (hb' : b'.cellsC = some (true, (l.drop o).take (len * z) ++ vs)) :
    LocalO c F nn ⟨d, .call ⟨.builtin .append, #[x, y], #[t, t2]⟩, rt, pos, af, g⟩ σ ⟨kr (.l m :: .l n :: .b n :: (ks ++ opk x)), putW d (.c (.g m 0 (len + k) (len + k) z)) ++ wsSteal n m b'⟩ :=
  LocalO.appendG' hF AppOp.self hN hx ha hb hl hle hs hT hm hn hb'
theorem LocalO.appendZ' (hF : WideLike F) {oo : Oper} {n m o k z : Nat} {x y : Operand} {t t2 el rt : TypeId} {b' : B} {vs : List C} {ks : List Key} {i : TypeInfo} {zv : Value} {d : Option Tmp} (ho : AppOp c oo d x y t t2 rt) (hN : dOk c.N d = true)
    (hx : opv σ x = some (.c (.s n o 0 0))) (ha : σ (.l n) = some (.l true)) (hs : SrcOk c σ y k z vs ks) (hT : AppT c.P t t2 el z i zv (0 + k)) (hm : ¬ c.gv m) (hn : σ (.l m) = none)
    (hb' : b'.cellsC = some (true, vs)) :
    LocalO c F nn oo σ ⟨kr (.l m :: .l n :: (ks ++ opk x)), putW d (.c (.g m 0 k k z)) ++ wsNew m b'⟩ := by
  obtain ⟨rfl, hnod, hrun⟩ := ho
  refine LocalO.act hF hN hnod fun s e a w hag hR => ?_
  have hag' : ∀ q ∈ Key.l m :: .l n :: (ks ++ opk x), s q = σ q := fun q hq => hag q (kr_iff.2 hq)
  have hn' : s (.l m) = none := by rw [hag' _ (by simp)]; exact hn
  have ex := ev1r hx hag' (fun q h => by simp [h]) hR rfl ha (by simp)
  obtain ⟨us, h1, h2, h3, h4⟩ := hs s e a w (fun q hq => hag' q (by simp [hq])) hR
  have hu : ∃ p, a.eval x = .slice p 0 0 := by
    rcases ex with e1 | ⟨_, _, p, e3⟩
    · exact ⟨_, e1⟩
    · exact ⟨p, e3⟩
  obtain ⟨p, hu⟩ := hu
  obtain ⟨r, w', e', g1, g2, g3⟩ := hR.append0 (ty := rt) (p := p) hm hn' hT h1 h2 h3 h4 hb'
  exact ⟨r, w', e', hrun _ _ _ _ (by rw [hu]; exact g1), g2, fun _ => g3, new_names rfl⟩
theorem LocalO.appendZ (hF : WideLike F) {n m o k z : Nat} {x y : Operand} {t t2 el rt : TypeId} {b' : B} {vs : List C} {ks : List Key} {i : TypeInfo} {zv : Value} {d : Option Tmp} {pos : String} {af : Array Edge} {g : Option (Nat × Bool)} (hN : dOk c.N d = true)
    (hx : opv σ x = some (.c (.s n o 0 0))) (ha : σ (.l n) = some (.l true)) (hs : SrcOk c σ y k z vs ks) (hT : AppT c.P t t2 el z i zv (0 + k)) (hm : ¬ c.gv m) (hn : σ (.l m) = none)
    (hb' : b'.cellsC = some (true, vs)) :
    LocalO c F nn ⟨d, .call ⟨.builtin .append, #[x, y], #[t, t2]⟩, rt, pos, af, g⟩ σ ⟨kr (.l m :: .l n :: (ks ++ opk x)), putW d (.c (.g m 0 k k z)) ++ wsNew m b'⟩ :=
  LocalO.appendZ' hF AppOp.self hN hx ha hs hT hm hn hb'
theorem LocalO.appendN' (hF : WideLike F) {oo : Oper} {m k z : Nat} {p : Option Addr} {x y : Operand} {t t2 el rt : TypeId} {b' : B} {vs : List C} {ks : List Key} {i : TypeInfo} {zv : Value} {d : Option Tmp} (ho : AppOp c oo d x y t t2 rt) (hN : dOk c.N d = true)
    (hx : opv σ x = some (.c (.v (.slice p 0 0)))) (hs : SrcOk c σ y k z vs ks) (hT : AppT c.P t t2 el z i zv (0 + k)) (hm : ¬ c.gv m) (hn : σ (.l m) = none)
    (hb' : b'.cellsC = some (true, vs)) :
    LocalO c F nn oo σ ⟨kr (.l m :: (ks ++ opk x)), putW d (.c (.g m 0 k k z)) ++ wsNew m b'⟩ := by
  obtain ⟨rfl, hnod, hrun⟩ := ho
  refine LocalO.act hF hN hnod fun s e a w hag hR => ?_
  have hag' : ∀ q ∈ Key.l m :: (ks ++ opk x), s q = σ q := fun q hq => hag q (kr_iff.2 hq)
  have hn' : s (.l m) = none := by rw [hag' _ (by simp)]; exact hn
  have hu := ev1v hx hag' (fun q h => by simp [h]) hR
  obtain ⟨us, h1, h2, h3, h4⟩ := hs s e a w (fun q hq => hag' q (by simp [hq])) hR
  obtain ⟨r, w', e', g1, g2, g3⟩ := hR.append0 (ty := rt) (p := p) hm hn' hT h1 h2 h3 h4 hb'
  exact ⟨r, w', e', hrun _ _ _ _ (by rw [hu]; exact g1), g2, fun _ => g3, new_names rfl⟩
theorem LocalO.appendN (hF : WideLike F) {m k z : Nat} {p : Option Addr} {x y : Operand} {t t2 el rt : TypeId} {b' : B} {vs : List C} {ks : List Key} {i : TypeInfo} {zv : Value} {d : Option Tmp} {pos : String} {af : Array Edge} {g : Option (Nat × Bool)} (hN : dOk c.N d = true)
    (hx : opv σ x = some (.c (.v (.slice p 0 0)))) (hs : SrcOk c σ y k z vs ks) (hT : AppT c.P t t2 el z i zv (0 + k)) (hm : ¬ c.gv m) (hn : σ (.l m) = none)
    (hb' : b'.cellsC = some (true, vs)) :
    LocalO c F nn ⟨d, .call ⟨.builtin .append, #[x, y], #[t, t2]⟩, rt, pos, af, g⟩ σ ⟨kr (.l m :: (ks ++ opk x)), putW d (.c (.g m 0 k k z)) ++ wsNew m b'⟩ :=
  LocalO.appendN' hF AppOp.self hN hx hs hT hm hn hb'
theorem foldl_push : ∀ (bs : List UInt8) (r : ByteArray), (bs.map fun b => ((b.toNat : Nat) : Int)).foldl (fun r n => r.push (UInt8.ofNat n.toNat)) r = ⟨(r.data.toList ++ bs).toArray⟩
  | [], r => by simp
  | b :: bs, r => by
    rw [List.map_cons, List.foldl_cons, foldl_push bs]
    simp [ByteArray.push]
theorem run_bytes {P : Program} {b o len cap : Nat} {bs : List UInt8} (hl : bs.length = len) (h : w.rangeAt b o (bs.map u8V)) : (Conv.bytesToString (.slice (some ⟨b, o, none⟩) len cap)).run P w = .ok (.string ⟨bs.toArray⟩) w := by
  have hl' : (loadCells ⟨b, o, none⟩ len).run P w = .ok (bs.map u8V).toArray w := by
    rw [← hl, show bs.length = (bs.map u8V).length by simp]
    exact run_loadCells_list (P := P) w ⟨b, o, none⟩ (bs.map u8V) (fun j v hv => by rw [Addr.add_mid]; exact h j v hv)
  rw [run_bytesToString w ⟨b, o, none⟩ len cap (bs.map fun b => ((b.toNat : Nat) : Int)) (by rw [hl', List.map_map]; rfl), foldl_push]
  simp [ByteArray.empty, ByteArray.emptyWithCapacity]
  try rfl
theorem run_bytes0 {P : Program} {p : Option Addr} {cap : Nat} : (Conv.bytesToString (.slice p 0 cap)).run P w = .ok (.string ⟨#[]⟩) w := by
  cases p with
  | none => rfl
  | some p =>
    obtain ⟨b, o, sp⟩ := p
    have hl' : (loadCells ⟨b, o, sp⟩ 0).run P w = .ok ([] : List Value).toArray w := rfl
    rw [run_bytesToString w ⟨b, o, sp⟩ 0 cap [] (by simpa using hl')]; rfl
theorem run_conv {P : Program} {src dst el : TypeId} {p : Option Addr} {l k : Nat} {Z : Value} (hs : P.underlying src = some (.slice el)) (he : P.underlying el = some (.int .u8)) (hd : P.underlying dst = some .string) (h : (Conv.bytesToString (.slice p l k)).run P w = .ok Z w) : (convert src dst (.slice p l k)).run P w = .ok Z w := by
  rw [run_convert_bytes_string w src dst el p l k hs he hd]; exact h
theorem bytes_src {x : Operand} {n o len : Nat} {b : B} {own : Bool} {l : List C} {bs : List UInt8} {y : C} (hx : opv σ x = some (.c y)) (hy : (∃ cap, y = .s n o len cap) ∨ ∃ lb z, y = .g n o len lb z) (ha : σ (.l n) = some (.l true)) (hb : σ (.b n) = some (.b b)) (hl : b.cellsC = some (own, l)) (hle : o + len ≤ l.length)
    (hbs : (l.drop o).take len = (bs.map u8V).map C.v) {ks : List Key} (hag : ∀ q ∈ ks, s q = σ q) (hk1 : Key.l n ∈ ks) (hk2 : Key.b n ∈ ks) (hsub : ∀ q ∈ opk x, q ∈ ks) (hR : Real c s e a w) :
    ∃ p k, a.eval x = .slice p len k ∧ (Conv.bytesToString (.slice p len k)).run c.P w = .ok (.string ⟨bs.toArray⟩) w := by
  have ex := ev1r hx hag hsub hR (by rcases hy with ⟨_, rfl⟩ | ⟨_, _, rfl⟩ <;> rfl) ha hk1
  have hM := hR.W.cells (n := n) (by rw [hag _ hk1]; exact ha) (by rw [hag _ hk2]; exact hb) hl
  obtain ⟨us, h1, h2, h3⟩ := hM.range o len hle
  rw [hbs] at h2
  have hus := h2.eq
  rw [hus] at h1 h3
  have hlen : bs.length = len := by simpa using h1
  have zero : len = 0 → bs = [] := fun h => List.eq_nil_of_length_eq_zero (by omega)
  rcases hy with ⟨cap, rfl⟩ | ⟨lb, z, rfl⟩
  · rcases ex with ex | ⟨h0, h0', p, ex⟩
    · exact ⟨_, _, ex, run_bytes hlen h3⟩
    · exact ⟨p, 0, by rw [h0]; exact ex, by rw [h0, zero h0]; exact run_bytes0⟩
  · rcases ex with ⟨k, ex, _⟩ | ⟨h0, h0', p, ex⟩
    · exact ⟨_, _, ex, run_bytes hlen h3⟩
    · exact ⟨p, 0, by rw [h0]; exact ex, by rw [h0, zero h0]; exact run_bytes0⟩
theorem LocalO.text (hF : WideLike F) {n o len : Nat} {x : Operand} {y : C} {src dst el rt : TypeId} {b : B} {own : Bool} {l : List C} {bs : List UInt8} {d : Option Tmp} {pos : String} {af : Array Edge} {g : Option (Nat × Bool)} (hN : dOk c.N d = true)
    (hx : opv σ x = some (.c y)) (hy : (∃ cap, y = .s n o len cap) ∨ ∃ lb z, y = .g n o len lb z) (ha : σ (.l n) = some (.l true)) (hb : σ (.b n) = some (.b b)) (hl : b.cellsC = some (own, l)) (hle : o + len ≤ l.length) (hbs : (l.drop o).take len = (bs.map u8V).map C.v)
    (h1 : c.P.underlying src = some (.slice el)) (h2 : c.P.underlying el = some (.int .u8)) (h3 : c.P.underlying dst = some .string) :
    LocalO c F nn ⟨d, .convert src dst x, rt, pos, af, g⟩ σ ⟨kr (.l n :: .b n :: opk x), putW d (.c (.v (.string ⟨bs.toArray⟩)))⟩ := by
  refine LocalO.val hF hN (noDefer rfl) fun s e a w hag hR => ?_
  obtain ⟨p, k, e1, e2⟩ := bytes_src hx hy ha hb hl hle hbs (fun q hq => hag q (kr_iff.2 hq)) (by simp) (by simp) (fun q h => by simp [h]) hR
  refine ⟨_, ?_, Ok.of, fun m hm => by cases hm⟩
  simp only [execOp, e1]
  rw [Sem.run_bind, run_conv h1 h2 h3 e2]; rfl
end
end Go.Proofs.Ytnmkpekfkfckoaa.EV
namespace Go.Proofs.Ytnmkpekfkfckoaa.EV
open Go.RowKit
/-- The cells of the parts of a literal. -/
def fillC {α : Type} (place : Nat → Option (Nat × Nat)) : List α → List (Nat × List α) → Option (List α)
  | cells, [] => some cells
  | cells, (i, v) :: rest => match place i with
    | none => none
    | some (off, size) => if v.length = size ∧ off + v.length ≤ cells.length then fillC place (putL off v cells) rest else none
theorem fold_set (off : Nat) : ∀ (vs : List Value) (j0 : Nat) (cells : Array Value), ((vs.zipIdx j0).foldl (fun cs x => cs.setIfInBounds (off + x.2) x.1) cells).size = cells.size ∧
    ∀ i, ((vs.zipIdx j0).foldl (fun cs x => cs.setIfInBounds (off + x.2) x.1) cells)[i]? = if off + j0 ≤ i ∧ i < off + j0 + vs.length ∧ i < cells.size then vs[i - off - j0]? else cells[i]?
  | [], j0, cells => ⟨rfl, fun i => by rw [if_neg (by simp; omega)]; rfl⟩
  | v :: vs, j0, cells => by
    obtain ⟨h1, h2⟩ := fold_set off vs (j0 + 1) (cells.setIfInBounds (off + j0) v)
    rw [List.zipIdx_cons, List.foldl_cons]
    refine ⟨by rw [h1]; simp, fun i => ?_⟩
    rw [h2]
    simp only [Array.size_setIfInBounds, List.length_cons]
    by_cases hi : off + (j0 + 1) ≤ i ∧ i < off + (j0 + 1) + vs.length ∧ i < cells.size
    · rw [if_pos hi, if_pos (by omega), show i - off - j0 = i - off - (j0 + 1) + 1 by omega]; simp
    · rw [if_neg hi, Array.getElem?_setIfInBounds]
      by_cases he : off + j0 = i
      · subst he
        rw [if_pos rfl]
        by_cases hl : off + j0 < cells.size
        · rw [if_pos hl, if_pos (by omega)]; simp
        · rw [if_neg hl, if_neg (by omega)]; simp [hl]
      · rw [if_neg he, if_neg (by omega)]
theorem fold_put (off : Nat) (vs cells : List Value) (h : off + vs.length ≤ cells.length) : (vs.toArray.zipIdx.foldl (fun cs x => cs.setIfInBounds (off + x.2) x.1) cells.toArray) = (putL off vs cells).toArray := by
  obtain ⟨h1, h2⟩ := fold_set off vs 0 cells.toArray
  have e : vs.toArray.zipIdx.foldl (fun cs x => cs.setIfInBounds (off + x.2) x.1) cells.toArray = (vs.zipIdx 0).foldl (fun cs x => cs.setIfInBounds (off + x.2) x.1) cells.toArray := by
    rw [← Array.foldl_toList]; simp
  rw [e]
  apply Array.ext'
  apply List.ext_getElem?
  intro i
  have := h2 i
  rw [← Array.getElem?_toList] at this
  rw [this, putL_get off vs cells i h]
  simp only [Nat.add_zero, Nat.sub_zero, List.size_toArray]
  by_cases hi : off ≤ i ∧ i < off + vs.length
  · rw [if_pos ⟨hi.1, hi.2, by omega⟩, if_pos hi]
  · rw [if_neg (by omega), if_neg hi]; simp
section
variable {c : Ctx} {F : Fence} {nn : Nat} {σ s : Sf} {e : Env} {a : Act} {w : World}
/-- The parts of a literal. -/
inductive Parts (s : Sf) : List (Nat × Operand) → List (Nat × List C) → List Key → Prop
  | nil : Parts s [] [] []
  | cons {i : Nat} {x : Operand} {v : V} {l : List C} {k1 ks : List Key} {ps : List (Nat × Operand)} {r : List (Nat × List C)} : opv s x = some v → CV s v l k1 → Parts s ps r ks → Parts s ((i, x) :: ps) ((i, l) :: r) (k1 ++ (opk x ++ ks))
theorem OkL.put {o : Nat} {l vs : List C} {us ws : List Value} (h : OkL s e l us) (k : OkL s e vs ws) (hle : o + vs.length ≤ l.length) : OkL s e (putL o vs l) (putL o ws us) := by
  have h1 := h.length
  have h2 := k.length
  refine OkL.mk (by rw [putL_length, putL_length, h1]) fun i x hx => ?_
  rw [putL_get o vs l i hle] at hx
  rw [putL_get o ws us i (by omega), h2]
  split at hx
  · rename_i hi; rw [if_pos hi]; exact k.get hx
  · rename_i hi; rw [if_neg hi]; exact h.get hx
theorem Parts.sound {ps : List (Nat × Operand)} {r : List (Nat × List C)} {ks : List Key} (h : Parts σ ps r ks) (hag : ∀ q ∈ ks, s q = σ q) (hR : Real c s e a w) {place : Nat → Option (Nat × Nat)} {cells out : List C} (hf : fillC place cells r = some out) {us : List Value} (hu : OkL s e cells us) (hnu : ∀ n ∈ cells.flatMap C.names, s (.l n) ≠ none) :
    ∃ ws, Instr.fill place us.toArray (ps.map fun p => (p.1, a.eval p.2)) = some ws.toArray ∧ OkL s e out ws ∧ ∀ n ∈ out.flatMap C.names, s (.l n) ≠ none := by
  induction h generalizing cells us with
  | nil => simp only [fillC, Option.some.injEq] at hf; subst hf; exact ⟨us, rfl, hu, hnu⟩
  | @cons i x v l k1 ks ps r hx hl h ih =>
    obtain ⟨h1, h2⟩ := ev1 hx hag (fun q hq => by simp [hq]) hR
    obtain ⟨ws, h3, h4⟩ := hl.sound (fun q hq => hag q (by simp [hq])) h1
    simp only [fillC] at hf
    cases hp : place i with
    | none => rw [hp] at hf; cases hf
    | some q =>
      obtain ⟨off, size⟩ := q
      rw [hp] at hf
      simp only at hf
      split at hf
      · rename_i hc
        obtain ⟨hc1, hc2⟩ := hc
        obtain ⟨zs, g1, g2, g3⟩ := ih (fun q hq => hag q (by simp [hq])) hf (hu.put h4 hc2) (fun n hn => by
          simp only [List.mem_flatMap] at hn
          obtain ⟨y, hy, hn⟩ := hn
          rcases putL_mem off l cells y hy with hy | hy
          · exact h2 n (hl.names (List.mem_flatMap.2 ⟨y, hy, hn⟩))
          · exact hnu n (List.mem_flatMap.2 ⟨y, hy, hn⟩))
        refine ⟨zs, ?_, g2, g3⟩
        have hlu := hu.length
        have hlw := h4.length
        have e2 : (a.eval x).cells = ws.toArray := by rw [← h3]
        simp only [List.map_cons, Instr.fill, hp, e2]
        rw [if_neg (by simp [hlw, hc1, hlu]; omega), fold_put off ws us (by omega)]
        exact g1
      · cases hf
def placesC (P : Program) : List Field → Option (List (Nat × Nat))
  | [] => some []
  | f :: fs => match tS P f.type, placesC P fs with
    | some k, some r => some ((f.offset, k) :: r)
    | _, _ => none
theorem run_places {P : Program} : ∀ {fs : List Field} {pl : List (Nat × Nat)}, placesC P fs = some pl → (fs.mapM (m := Sem) fun f => do pure (f.offset, ← sizeOf f.type)).run P w = .ok pl w
  | [], pl, h => by simp only [placesC, Option.some.injEq] at h; subst h; rfl
  | f :: fs, pl, h => by
    simp only [placesC] at h
    split at h
    · rename_i k r hk hr
      cases h
      rw [List.mapM_cons]
      simp only [Sem.run_bind, run_sz hk, Result.andThen_ok, Sem.run_pure, run_places hr]
    · cases h
def buildC (P : Program) (t : TypeId) : Option (List Value × (Nat → Option (Nat × Nat))) := match zeroC P t, P.underlying t with
  | some zs, some (.struct fs) => match placesC P fs.toList with
    | some pl => some (zs, fun i => pl[i]?)
    | none => none
  | some zs, some (.array _ el) => match tS P el with
    | some k => some (zs, fun i => some (i * k, k))
    | none => none
  | _, _ => none
theorem LocalO.build (hF : WideLike F) {t rt : TypeId} {zs : List Value} {place : Nat → Option (Nat × Nat)} {ps : List (Nat × Operand)} {r : List (Nat × List C)} {ks : List Key} {out : List C} {d : Option Tmp} {pos : String} {af : Array Edge} {g : Option (Nat × Bool)} (hN : dOk c.N d = true)
    (hb : buildC c.P t = some (zs, place)) (hp : Parts σ ps r ks) (hf : fillC place (zs.map C.v) r = some out) : LocalO c F nn ⟨d, .build t ps.toArray, rt, pos, af, g⟩ σ ⟨kr ks, putW d (.a out)⟩ := by
  refine LocalO.val hF hN (noDefer rfl) fun s e a w hag hR => ?_
  have hag' : ∀ q ∈ ks, s q = σ q := fun q hq => hag q (kr_iff.2 hq)
  unfold buildC at hb
  split at hb
  · rename_i zs' fs hz hu
    split at hb
    · rename_i pl hpl
      cases hb
      obtain ⟨z, z1, z2, z3⟩ := run_zero (w := w) hz
      obtain ⟨ws, g1, g2, g3⟩ := hp.sound hag' hR hf (OkL.plain zs z3) (fun n hn => by rw [plain_names] at hn; cases hn)
      refine ⟨.agg ws.toArray, ?_, ⟨ws, rfl, g2⟩, g3⟩
      have hpm : (fs.mapM (m := Sem) fun f => do pure (f.offset, ← sizeOf f.type)).run c.P w = .ok pl.toArray w := by
        rw [Array.mapM_eq_mapM_toList]
        have := run_places (w := w) hpl
        rw [show (List.toArray <$> List.mapM (m := Sem) (fun f : Field => do pure (f.offset, ← sizeOf f.type)) fs.toList : Sem (Array (Nat × Nat))) = (do let r ← List.mapM (m := Sem) (fun f : Field => do pure (f.offset, ← sizeOf f.type)) fs.toList; pure r.toArray) from rfl]
        rw [Sem.run_bind, this]; rfl
      simp only [execOp, Instr.build, Sem.run_bind, z1, Result.andThen_ok, run_underlying hu w, hpm, z2]
      have e3 : (fun x : Nat => pl.toArray[x]?) = fun i : Nat => pl[i]? := by funext x; simp
      rw [e3, List.map_toArray, g1]; rfl
    · cases hb
  · rename_i zs' len el hz hu
    split at hb
    · rename_i k hk
      cases hb
      obtain ⟨z, z1, z2, z3⟩ := run_zero (w := w) hz
      obtain ⟨ws, g1, g2, g3⟩ := hp.sound hag' hR hf (OkL.plain zs z3) (fun n hn => by rw [plain_names] at hn; cases hn)
      refine ⟨.agg ws.toArray, ?_, ⟨ws, rfl, g2⟩, g3⟩
      simp only [execOp, Instr.build, Sem.run_bind, z1, Result.andThen_ok, run_underlying hu w, run_sz hk, z2, List.map_toArray]
      rw [g1]; rfl
    · cases hb
  · cases hb
/-- n times. -/
def timesL (zs : List Value) : Nat → List Value
  | 0 => []
  | n + 1 => zs ++ timesL zs n
theorem timesL_length (zs : List Value) : ∀ n, (timesL zs n).length = n * zs.length
  | 0 => by simp [timesL]
  | n + 1 => by rw [timesL, List.length_append, timesL_length zs n, Nat.add_mul]; omega
theorem timesL_get (zs : List Value) (h : 0 < zs.length) : ∀ n i, i < n * zs.length → (timesL zs n)[i]? = zs[i % zs.length]?
  | 0, i, hi => by simp at hi
  | n + 1, i, hi => by
    rw [timesL]
    by_cases hl : i < zs.length
    · rw [List.getElem?_append_left hl, Nat.mod_eq_of_lt hl]
    · rw [List.getElem?_append_right (by omega), timesL_get zs h n (i - zs.length) (by rw [Nat.add_mul] at hi; omega), ← Nat.mod_eq_sub_mod (by omega)]
theorem timesL_one {zs : List Value} (h : zs.all (·.oneCell') = true) : ∀ n, (timesL zs n).all (·.oneCell') = true
  | 0 => rfl
  | n + 1 => by rw [timesL, List.all_append, h, timesL_one h n]; rfl
theorem zeros_eq {z : Array Value} {n k : Nat} (hk : n = k * z.size) (h0 : n ≠ 0 → z.size ≠ 0) : ((Array.range n).map (z[· % z.size]!)) = (timesL z.toList k).toArray := by
  by_cases hn : n = 0
  · subst hn
    have : (timesL z.toList k) = [] := List.eq_nil_of_length_eq_zero (by rw [timesL_length]; simpa using hk.symm)
    rw [this]; simp
  · have hz := h0 hn
    apply Array.ext
    · simp [timesL_length, hk]
    · intro i h1 h2
      simp at h1
      have hi : i < k * z.toList.length := by simpa [← hk] using h1
      have h3 := timesL_get z.toList (by simpa using Nat.pos_of_ne_zero hz) k i hi
      have hm : i % z.size < z.size := Nat.mod_lt _ (Nat.pos_of_ne_zero hz)
      have h4 : (timesL z.toList k)[i]? = some z[i % z.size] := by
        rw [h3]; simp [hm]
      have h5 : (timesL z.toList k)[i]'(by simpa using h2) = z[i % z.size] := by
        have := List.getElem?_eq_getElem (l := timesL z.toList k) (i := i) (by simpa using h2)
        rw [this] at h4; exact Option.some.inj h4
      simp [h5, getElem!_pos z (i % z.size) hm]
theorem map_range0 (f : Nat → Value) : (Array.range 0).map f = #[] := by simp
theorem LocalO.buildSlice (hF : WideLike F) {n len k : Nat} {t el rt : TypeId} {zs : List Value} {ps : List (Nat × Operand)} {r : List (Nat × List C)} {ks : List Key} {out : List C} {d : Option Tmp} {pos : String} {af : Array Edge} {g : Option (Nat × Bool)} (hN : dOk c.N d = true)
    (ht : c.P.underlying t = some (.slice el)) (hz : zeroC c.P el = some zs) (hk : tS c.P el = some k) (hzk : zs.length = k) (h0 : k ≠ 0) (hle : len * k ≤ 16777216) (hp : Parts σ ps r ks) (hf : fillC (fun i => some (i * k, k)) ((timesL zs len).map C.v) r = some out) (hm : ¬ c.gv n) (hn : σ (.l n) = none) :
    LocalO c F nn ⟨d, .buildSlice t len ps.toArray, rt, pos, af, g⟩ σ ⟨kr (.l n :: ks), putW d (.c (.s n 0 len len)) ++ wsNew n (.m true out)⟩ := by
  refine LocalO.act hF hN (noDefer rfl) fun s e a w hag hR => ?_
  have hag' : ∀ q ∈ Key.l n :: ks, s q = σ q := fun q hq => hag q (kr_iff.2 hq)
  have hn' : s (.l n) = none := by rw [hag' _ (by simp)]; exact hn
  obtain ⟨z, z1, z2, z3⟩ := run_zero (w := w) hz
  obtain ⟨ws, g1, g2, g3⟩ := hp.sound (fun q hq => hag' q (by simp [hq])) hR hf (OkL.plain _ (timesL_one z3 len)) (fun n hn => by rw [plain_names] at hn; cases hn)
  have hzs : z.cells.size = k := by rw [z2]; simpa using hzk
  refine ⟨.slice (some ⟨w.heap.size, 0, none⟩) len len, _, _, ?_, hR.row hm hn' g2 g3 el, fun _ => .inl ?_, new_names rfl⟩
  · have e1 : (Array.range (len * k)).map (z.cells[· % z.cells.size]!) = (timesL zs len).toArray := by
      rw [zeros_eq (k := len) (by rw [hzs]) (fun _ => by rw [hzs]; exact h0), z2]
    have hle' : ¬ (len * k > 2 ^ 24) := by omega
    simp only [execOp, Instr.buildSlice, Sem.run_bind, run_underlying ht w, Result.andThen_ok, run_sz hk, if_neg hle', Sem.run_pure]
    by_cases hl : len * k = 0
    · have h9 : (timesL zs len) = [] := List.eq_nil_of_length_eq_zero (by rw [timesL_length, hzk]; exact hl)
      rw [h9] at g1
      rw [if_pos hl, hl]
      simp only [Sem.run_bind, Sem.run_pure, Result.andThen_ok, map_range0, List.map_toArray]
      rw [show (#[] : Array Value) = [].toArray from rfl, g1]; rfl
    · rw [if_neg hl]
      simp only [Sem.run_bind, z1, Sem.run_pure, Result.andThen_ok, e1, List.map_toArray]
      rw [g1]; rfl
  · simp [Env.set_id, Env.set_bs]
theorem LocalO.makeSlice (hF : WideLike F) {n k by' : Nat} {li ci : Int} {ki kj : IntKind} {t el rt : TypeId} {zs : List Value} {x y : Operand} {d : Option Tmp} {pos : String} {af : Array Edge} {g : Option (Nat × Bool)} (hN : dOk c.N d = true) (hx : opv σ x = some (.c (.v (.int ki li)))) (hy : opv σ y = some (.c (.v (.int kj ci))))
    (ht : c.P.underlying t = some (.slice el)) (hz : zeroC c.P el = some zs) (hk : tS c.P el = some k) (hzk : zs.length = k) (h0 : k ≠ 0) (hby : (c.P.info? el).map (·.bytes) = some by') (h1 : 0 ≤ li ∧ li ≤ ci ∧ ci ≤ 281474976710656 ∧ by' * ci ≤ 281474976710656) (hm : ¬ c.gv n) (hn : σ (.l n) = none) :
    LocalO c F nn ⟨d, .makeSlice t x y, rt, pos, af, g⟩ σ ⟨kr (.l n :: (opk x ++ opk y)), putW d (.c (.s n 0 li.toNat ci.toNat)) ++ wsNew n (.w true (timesL zs ci.toNat))⟩ := by
  refine LocalO.act hF hN (noDefer rfl) fun s e a w hag hR => ?_
  have hag' : ∀ q ∈ Key.l n :: (opk x ++ opk y), s q = σ q := fun q hq => hag q (kr_iff.2 hq)
  have hn' : s (.l n) = none := by rw [hag' _ (by simp)]; exact hn
  obtain ⟨z, z1, z2, z3⟩ := run_zero (w := w) hz
  have hzs : z.cells.size = k := by rw [z2]; simpa using hzk
  cases hq : c.P.info? el with
  | none => rw [hq] at hby; cases hby
  | some i =>
    rw [hq] at hby
    simp only [Option.map_some, Option.some.injEq] at hby
    have hti : (typeInfo el).run c.P w = .ok i w := by simp [typeInfo, hq]
    have ex := ev1v hx hag' (fun q h => by simp [h]) hR
    have ey := ev1v hy hag' (fun q h => by simp [h]) hR
    have w1 : IntKind.i64.wrap li = li := by
      have := IntWalk.i64_in li (by omega); exact this
    have w2 : IntKind.i64.wrap ci = ci := by
      have := IntWalk.i64_in ci (by omega); exact this
    refine ⟨.slice (some ⟨w.heap.size, 0, none⟩) li.toNat ci.toNat, _, _, ?_, hR.rowW (us := timesL zs ci.toNat) hm hn' (timesL_one z3 _) el, fun _ => .inl ?_, new_names rfl⟩
    · have hbig : ¬ ((decide (ci < 0) || decide ((i.bytes : Int) * ci > 2 ^ 48) || decide (li < 0) || decide (li > ci)) = true) := by
        rw [hby]; simp; omega
      have hroom : ((askRoom (ci.toNat * i.bytes)).run c.P w) = .ok () w := by
        unfold askRoom; split <;> rfl
      simp only [execOp, Instr.makeSlice, ex, ey, asInt, asIntOf, Sem.run_bind, run_underlying ht w, Result.andThen_ok, Sem.run_pure, hti, w1, w2, if_neg hbig, hroom, run_sz hk]
      by_cases hl : ci.toNat * k = 0
      · have h9 : (timesL zs ci.toNat) = [] := List.eq_nil_of_length_eq_zero (by rw [timesL_length, hzk]; exact hl)
        rw [if_pos hl, hl, h9]
        simp only [Sem.run_bind, Sem.run_pure, Result.andThen_ok, map_range0]
        rfl
      · rw [if_neg hl]
        have e1 : (Array.range (ci.toNat * k)).map (z.cells[· % z.cells.size]!) = (timesL zs ci.toNat).toArray := by
          rw [zeros_eq (k := ci.toNat) (by rw [hzs]) (fun _ => by rw [hzs]; exact h0), z2]
        simp only [Sem.run_bind, z1, Sem.run_pure, Result.andThen_ok, e1]
        rfl
    · simp [Env.set_id, Env.set_bs]
end
end Go.Proofs.Ytnmkpekfkfckoaa.EV
namespace Go.Proofs.Ytnmkpekfkfckoaa.EV
open Go.RowKit
section
variable {c : Ctx} {F : Fence} {nn : Nat} {σ s : Sf} {e : Env} {a : Act} {w : World}
/-- A block told another way. -/
theorem RealW.swap (h : RealW c s e w) {n : Nat} {b b' : B} {own : Bool} {l : List C} (ha : s (.l n) = some (.l true)) (hb : s (.b n) = some (.b b)) (hl : b.cellsC = some (own, l)) (hl' : b'.cellsC = some (own, l)) : RealW c (upd s [(.b n, .b b')]) e w := by
  have hll : ∀ k, upd s [(.b n, .b b')] (.l k) = s (.l k) := fun k => by rw [upd_cons_ne _ _ _ (by simp), upd_nil]
  have hbk : ∀ k, upd s [(.b n, .b b')] (.b k) = if n = k then some (.b b') else s (.b k) := fun k => by rw [upd_cons, upd_nil]; simp
  have hv : ∀ k, live (upd s [(.b n, .b b')]) k → live s k := fun k hk => by unfold live at *; rw [← hll]; exact hk
  have back : ∀ k b2, upd s [(.b n, .b b')] (.b k) = some (.b b2) → ∃ b3, s (.b k) = some (.b b3) ∧ b3.own = b2.own := fun k b2 hk => by
    rw [hbk] at hk
    by_cases h1 : n = k
    · subst h1; rw [if_pos rfl] at hk; cases hk; exact ⟨b, hb, by rw [(cellsC_own hl).1, (cellsC_own hl').1]⟩
    · rw [if_neg h1] at hk; exact ⟨b2, hk, rfl⟩
  refine ⟨fun k b2 h1 h2 => ?_, fun k k' b1 b2 h1 h2 h3 h4 hkk ho => ?_, fun k b2 h1 h2 ho => ?_, ⟨fun q x hx k hm => ?_, fun k hk => ?_⟩, h.given, h.os, h.tape, h.output, h.size, h.old⟩
  · rw [hll] at h1
    rw [hbk] at h2
    by_cases hk : n = k
    · subst hk; rw [if_pos rfl] at h2; cases h2
      exact cellsC_ok hl' ((h.cells ha hb hl).mono (fun m _ => ⟨hv m, .rfl⟩) .rfl (fun _ => rfl))
    · rw [if_neg hk] at h2
      exact (h.blk k b2 h1 h2).mono (fun m _ => ⟨hv m, .rfl⟩) .rfl (fun _ => rfl)
  · rw [hll] at h1 h3
    obtain ⟨b3, g1, g2⟩ := back k b1 h2
    obtain ⟨b4, g3, g4⟩ := back k' b2 h4
    exact h.sep k k' b3 b4 h1 g1 h3 g3 hkk (g2.trans ho)
  · rw [hll] at h1
    obtain ⟨b3, g1, g2⟩ := back k b2 h2
    exact h.own k b3 h1 g1 (g2.trans ho)
  · rw [hll]
    rw [upd_cons] at hx
    split at hx
    · cases hx
      refine h.cl.1 (.b n) (.b b) hb k ?_
      show k ∈ b.names
      rw [← B.cellsC_names hl, B.cellsC_names hl']; exact hm
    · rw [upd_nil] at hx; exact h.cl.1 q x hx k hm
  · rw [hll]
    rw [hbk] at hk
    split at hk
    · rename_i e; subst e; rw [ha]; simp
    · exact h.cl.2 k hk
theorem Real.swap (h : Real c s e a w) {n : Nat} {b b' : B} {own : Bool} {l : List C} (ha : s (.l n) = some (.l true)) (hb : s (.b n) = some (.b b)) (hl : b.cellsC = some (own, l)) (hl' : b'.cellsC = some (own, l)) : Real c (upd s [(.b n, .b b')]) e a w :=
  h.withW (h.W.swap ha hb hl hl') (fun i => by rw [upd_cons_ne _ _ _ (by simp), upd_nil]) (fun k hk => ⟨fun hv => by unfold live at *; rwa [upd_cons_ne _ _ _ (by simp), upd_nil] at hv, .rfl⟩) (fun k hk => by
    have hne : n ≠ k := fun e => by subst e; have := (h.fml n hk).2; rw [hb] at this; cases this; exact (cellsC_own hl).2 rfl
    rw [upd_cons_ne _ _ _ (by simp), upd_nil, upd_cons_ne _ _ _ (by simpa using hne), upd_nil]; exact ⟨rfl, rfl⟩)
/-- What is copied: n of k places. -/
def SrcN (c : Ctx) (σ : Sf) (x : Operand) (k n z : Nat) (vs : List C) (ks : List Key) : Prop :=
  ∀ s e a w, (∀ q ∈ ks, s q = σ q) → Real c s e a w → ∃ us : List Value, us.length = n * z ∧ OkL s e vs us ∧ (∀ n ∈ vs.flatMap C.names, s (.l n) ≠ none) ∧
    (Builtin.lenOf (a.eval x)).run c.P w = .ok k w ∧ (Builtin.firstCells z n (a.eval x)).run c.P w = .ok us.toArray w
theorem first_part {P : Program} {z k n : Nat} {b o cap : Nat} {us : List Value} (hl : us.length = n * z) (h : w.rangeAt b o us) : (Builtin.firstCells z n (.slice (some ⟨b, o, none⟩) k cap)).run P w = .ok us.toArray w :=
  run_firstCells_some (P := P) w z n ⟨b, o, none⟩ k cap us hl (fun j v hv => by rw [Addr.add_mid]; exact h j v hv)
theorem srcN_named {x : Operand} {m o k n z : Nat} {b : B} {own : Bool} {l : List C} {y : C} (hx : opv σ x = some (.c y)) (hy : (∃ cap, y = .s m o k cap) ∨ ∃ lb z, y = .g m o k lb z) (ha : σ (.l m) = some (.l true)) (hb : σ (.b m) = some (.b b)) (hl : b.cellsC = some (own, l)) (hn : n ≤ k) (hle : o + n * z ≤ l.length) :
    SrcN c σ x k n z ((l.drop o).take (n * z)) (.l m :: .b m :: opk x) := by
  intro s e a w hag hR
  have ex := ev1r hx hag (fun q h => by simp [h]) hR (by rcases hy with ⟨_, rfl⟩ | ⟨_, _, rfl⟩ <;> rfl) ha (by simp)
  have hb' : s (.b m) = some (.b b) := by rw [hag _ (by simp)]; exact hb
  have hM := hR.W.cells (n := m) (by rw [hag _ (by simp)]; exact ha) hb' hl
  obtain ⟨us, h1, h2, h3⟩ := hM.range o (n * z) hle
  refine ⟨us, h1, h2, fun j hj => hR.W.cl.1 (.b m) (.b b) hb' j ?_, ?_⟩
  · show j ∈ b.names
    rw [← B.cellsC_names hl]
    simp only [List.mem_flatMap] at hj ⊢
    obtain ⟨y, hy, hj⟩ := hj
    exact ⟨y, List.mem_of_mem_drop (List.mem_of_mem_take hy), hj⟩
  · have zero : k = 0 → ∀ p cap, (Builtin.firstCells z n (.slice p 0 cap)).run c.P w = .ok us.toArray w := fun h p cap => by
      have hn0 : n = 0 := by omega
      subst hn0
      have : us = [] := List.eq_nil_of_length_eq_zero (by rw [h1]; simp)
      rw [this]; exact first_zero
    rcases hy with ⟨cap, rfl⟩ | ⟨lb, z', rfl⟩
    · rcases ex with ex | ⟨h0, _, p, ex⟩
      · exact ⟨by rw [ex]; rfl, by rw [ex]; exact first_part h1 h3⟩
      · exact ⟨by rw [ex, h0]; rfl, by rw [ex]; exact zero h0 p 0⟩
    · rcases ex with ⟨cap, ex, _⟩ | ⟨h0, _, p, ex⟩
      · exact ⟨by rw [ex]; rfl, by rw [ex]; exact first_part h1 h3⟩
      · exact ⟨by rw [ex, h0]; rfl, by rw [ex]; exact zero h0 p 0⟩
theorem LocalO.copy (hF : WideLike F) {m o len k n z : Nat} {x y : Operand} {X : C} {t t2 el rt : TypeId} {b b' : B} {l vs : List C} {ks : List Key} {d : Option Tmp} {pos : String} {af : Array Edge} {g : Option (Nat × Bool)} (hN : dOk c.N d = true)
    (hx : opv σ x = some (.c X)) (hX : (∃ cap, X = .s m o len cap) ∨ ∃ lb z, X = .g m o len lb z) (ha : σ (.l m) = some (.l true)) (hb : σ (.b m) = some (.b b)) (hl : b.cellsC = some (true, l)) (hn : Nat.min k len = n) (hs : SrcN c σ y k n z vs ks) (hvl : vs.length = n * z) (hle : o + n * z ≤ l.length)
    (ht : c.P.underlying t = some (.slice el)) (hz : tS c.P el = some z) (hb' : b'.cellsC = some (true, putL o vs l)) :
    LocalO c F nn ⟨d, .call ⟨.builtin .copy, #[x, y], #[t, t2]⟩, rt, pos, af, g⟩ σ ⟨kr (.l m :: .b m :: (ks ++ opk x)), putW d (.c (.v (.int .i64 n))) ++ [(.b m, .b b')]⟩ := by
  refine LocalO.act hF hN (noDefer rfl) fun s e a w hag hR => ?_
  have hag' : ∀ q ∈ Key.l m :: .b m :: (ks ++ opk x), s q = σ q := fun q hq => hag q (kr_iff.2 hq)
  have ex := ev1r hx hag' (fun q h => by simp [h]) hR (by rcases hX with ⟨_, rfl⟩ | ⟨_, _, rfl⟩ <;> rfl) ha (by simp)
  obtain ⟨us, h1, h2, h3, h4, h5⟩ := hs s e a w (fun q hq => hag' q (by simp [hq])) hR
  have ha' : s (.l m) = some (.l true) := by rw [hag' _ (by simp)]; exact ha
  have hbs : s (.b m) = some (.b b) := by rw [hag' _ (by simp)]; exact hb
  have hrun : ∀ {p cap w'}, a.eval x = .slice p len cap → (∀ q, p = some q → (storeCells q us).run c.P w = .ok () w') → (p = none → w' = w) →
      (execOp a.eval ⟨d, .call ⟨.builtin .copy, #[x, y], #[t, t2]⟩, rt, pos, af, g⟩).run c.P w = .ok (.value (.int .i64 n)) w' := fun {p cap w'} hp hst hno => by
    have : (Builtin.copy_ #[t, t2] rt #[a.eval x, a.eval y]).run c.P w = .ok (.int .i64 n) w' := by
      rw [hp]
      simp only [Builtin.copy_, List.getElem?_toArray, List.getElem?_cons_zero, List.getElem?_cons_succ, Sem.run_bind, run_underlying ht w, Result.andThen_ok, h4, hn, run_sz hz, h5]
      cases p with
      | none => rw [hno rfl]; rfl
      | some q => simp only [Sem.run_bind, hst q rfl, Result.andThen_ok]; rfl
    simp only [execOp, resolve, Sem.run_bind, Sem.run_pure, Result.andThen_ok, invoke, builtin, List.map_toArray, List.map_cons, List.map_nil, this]
  have dst : ∃ p cap, a.eval x = .slice p len cap ∧ (p = some ⟨e.id m, e.bs m + o, none⟩ ∨ len = 0) := by
    rcases hX with ⟨cap, rfl⟩ | ⟨lb, z', rfl⟩
    · rcases ex with ex | ⟨h0, _, p, ex⟩
      · exact ⟨_, _, ex, .inl rfl⟩
      · exact ⟨p, 0, by rw [h0]; exact ex, .inr h0⟩
    · rcases ex with ⟨cap, ex, _⟩ | ⟨h0, _, p, ex⟩
      · exact ⟨_, _, ex, .inl rfl⟩
      · exact ⟨p, 0, by rw [h0]; exact ex, .inr h0⟩
  obtain ⟨p, cap, hp, hpl⟩ := dst
  by_cases hv0 : vs = []
  · have hus : us = [] := List.eq_nil_of_length_eq_zero (by rw [h2.length, hv0]; rfl)
    have hput : putL o vs l = l := by
      apply List.ext_getElem?
      intro i
      rw [putL_get o vs l i (by omega), hv0, if_neg (by simp)]
    refine ⟨_, w, e, hrun (w' := w) hp (fun q _ => by rw [hus]; rfl) (fun _ => rfl), hR.swap ha' hbs hl (by rw [hb', hput]), Ok.of, fun n hn => by cases hn⟩
  · have hlen0 : len ≠ 0 := fun h => by
      have : n = 0 := by rw [← hn, h]; exact Nat.min_zero k
      rw [this, Nat.zero_mul] at hvl
      exact hv0 (List.eq_nil_of_length_eq_zero hvl)
    have hps : p = some ⟨e.id m, e.bs m + o, none⟩ := hpl.resolve_right hlen0
    obtain ⟨g1, g2⟩ := hR.store (o := o) ha' hbs hl h2 (by omega) hv0 h3 hb'
    have hst := run_storeCells_cells (P := c.P) (e.id m) (e.bs m + o) us 0 w (fun j hj => by simpa using (g1 j hj).1) (fun j hj => by simpa using (g1 j hj).2) (fun v hv => h2.all_one v hv)
    refine ⟨_, _, e, hrun (w' := w.setCells (e.id m) (e.bs m + o) us) hp (fun q hq => by rw [hps] at hq; cases hq; simpa using hst) (fun h => by rw [hps] at h; cases h), g2, Ok.of, fun n hn => by cases hn⟩
end
end Go.Proofs.Ytnmkpekfkfckoaa.EV
namespace Go.Proofs.Ytnmkpekfkfckoaa.EV
open Go.RowKit
section
variable {c : Ctx} {F : Fence} {nn : Nat} {σ s : Sf} {e : Env} {a : Act} {w w' : World} {Q : Exit → Act → World → Prop}
theorem wpIn_scope {P : Program} {x : Code} (h : x.wpIn F nn P (Exit.noGoto Q) a w) : (Code.scope x).wpIn F nn P Q a w := by
  intro b k cs hro hb hr
  have s1 : ∀ {a w}, step P (lone (b.atR a (.code (.scope x) :: k)) cs w) = .next (lone (b.atR a (.code x :: .inScope x :: k)) cs w) := fun {a w} => step_lone_go (by simp [stepG, stepG.exec, Frame.atR])
  have s2 : ∀ {a w}, step P (lone (b.atR a (.inScope x :: k)) cs w) = .next (lone (b.atR a k) cs w) := fun {a w} => step_lone_go (by simp [stepG, stepG.exec, Frame.atR])
  have h0 : (lone (b.atR a (.code (.scope x) :: k)) cs w).fenced P F := fenced_calm hb hr rfl
  obtain ⟨e, a₁, w₁, hq, harr⟩ := h b (.inScope x :: k) cs hro hb hr
  cases e with
  | normal => exact ⟨.normal, a₁, w₁, hq, .head h0 s1 (StepsIn.trans harr (.one (fenced_calm hb hr rfl) s2))⟩
  | exit id =>
    have hx : exitTo id (.inScope x :: k) = exitTo id k := by simp [exitTo]
    exact ⟨.exit id, a₁, w₁, hq, fun k' hk => .head h0 s1 (harr.1 k' (by rw [hx]; exact hk)), fun hr' hk => let ⟨k₁, h1, h2⟩ := harr.2 hr' (by rw [hx]; exact hk); ⟨k₁, h1, .head h0 s1 h2⟩⟩
  | goto l => exact hq.elim
  | ret => exact ⟨_, a₁, w₁, hq, .of_steps (.one h0 s1) harr⟩
  | panic ch => exact ⟨_, a₁, w₁, hq, .of_steps (.one h0 s1) harr⟩
  | outgrown => exact ⟨_, a₁, w₁, hq, .of_steps (.one h0 s1) harr⟩
theorem CW_seq {x y : Code} (h : CW c F nn x (Exit.then (y.wpIn F nn c.P Q) Q) σ) : CW c F nn (.seq x y) Q σ := ⟨fun e a w hR => wpIn_seq (h.go e a w hR)⟩
theorem CW_skip (h : KW c (Q .normal) σ) : CW c F nn .skip Q σ := ⟨fun e a w hR => wpIn_skip (h.go e a w hR)⟩
theorem CW_label {l : Nat} (h : KW c (Q .normal) σ) : CW c F nn (.label l) Q σ := ⟨fun e a w hR => wpIn_label (h.go e a w hR)⟩
theorem CW_ret (h : KW c (Q .ret) σ) : CW c F nn .ret Q σ := ⟨fun e a w hR => wpIn_ret (h.go e a w hR)⟩
theorem CW_exit {k : Nat} (h : KW c (Q (.exit k)) σ) : CW c F nn (.exit k) Q σ := ⟨fun e a w hR => wpIn_exit (h.go e a w hR)⟩
theorem CW_block {k : Nat} {x : Code} (h : CW c F nn x (Exit.inBlock k Q) σ) : CW c F nn (.block k x) Q σ := ⟨fun e a w hR => wpIn_block (h.go e a w hR)⟩
theorem CW_scope {x : Code} (h : CW c F nn x (Exit.noGoto Q) σ) : CW c F nn (.scope x) Q σ := ⟨fun e a w hR => wpIn_scope (h.go e a w hR)⟩
theorem CW_yes {x : Operand} {p q : Code} (hx : opv σ x = some (.c (.v (.bool true)))) (h : CW c F nn p Q σ) : CW c F nn (.cond x p q) Q σ := ⟨fun e a w hR => wpIn_cond_true (Ok.plain (eval_opv hx hR)) (h.go e a w hR)⟩
theorem CW_no {x : Operand} {p q : Code} (hx : opv σ x = some (.c (.v (.bool false)))) (h : CW c F nn q Q σ) : CW c F nn (.cond x p q) Q σ := ⟨fun e a w hR => wpIn_cond_false (Ok.plain (eval_opv hx hR)) (h.go e a w hR)⟩
theorem CW_cond {x : Operand} {p q : Code} {b : Bool} (hx : opv σ x = some (.c (.v (.bool b)))) (h1 : b = true → CW c F nn p Q σ) (h2 : b = false → CW c F nn q Q σ) : CW c F nn (.cond x p q) Q σ := by
  cases b with
  | true => exact CW_yes hx (h1 rfl)
  | false => exact CW_no hx (h2 rfl)
theorem CW_rounds {x : Code} (m : Nat) (h : KW c (Code.roundsIn F nn c.P x Q m) σ) : CW c F nn (.loop x) Q σ := ⟨fun e a w hR => wpIn_loop_rounds m (h.go e a w hR)⟩
theorem KW_round {x : Code} {m : Nat} (h : CW c F nn x (Exit.then (Code.roundsIn F nn c.P x Q m) Q) σ) : KW c (Code.roundsIn F nn c.P x Q (m + 1)) σ := ⟨h.go⟩
/-- What an own block holds is lost. -/
theorem RealW.drop (h : RealW c s e w) {n : Nat} {b : B} (ha : s (.l n) = some (.l true)) (hb : s (.b n) = some (.b b)) (ho : b.own = true) (hr : e.rm n ≠ 0) (hw : ∀ k, k ≠ e.id n → w'.heap[k]? = w.heap[k]?) (hsz : w.heap.size ≤ w'.heap.size)
    (hos : w'.os = w.os) (htape : w'.tape = w.tape) (hout : w'.output = w.output) : RealW c (upd s [(.l n, .l false)]) e w' := by
  have hk := h.kill (n := n)
  have hown := h.own n b ha hb ho
  have hlv : ∀ k, upd s [(.l n, .l false)] (.l k) = some (.l true) → s (.l k) = some (.l true) ∧ n ≠ k := fun k hx => by
    rw [upd_cons, upd_nil] at hx
    split at hx
    · cases hx
    · rename_i hne; exact ⟨hx, by simpa using hne⟩
  have hbb : ∀ k, upd s [(.l n, .l false)] (.b k) = s (.b k) := fun k => by rw [upd_cons_ne _ _ _ (by simp), upd_nil]
  refine ⟨fun k b2 h1 h2 => ?_, hk.sep, hk.own, hk.cl, h.given, hos.trans h.os, htape.trans h.tape, hout.trans h.output, Nat.le_trans h.size hsz, fun k hkB ht => ?_⟩
  · obtain ⟨g1, g2⟩ := hlv k h1
    refine (hk.blk k b2 h1 h2).mono (fun m _ => ⟨id, .rfl⟩) .rfl (fun h0 => hw _ ?_)
    rw [hbb] at h2
    rcases h.sep n k b b2 ha hb g1 h2 g2 ho with h3 | h3 | h3
    · exact absurd h3 hr
    · exact absurd h3 h0
    · exact fun e => h3 e.symm
  · rw [hw k (fun e => by
      rcases hown with h1 | h1 | h1
      · exact hr h1
      · have : k < c.B := hkB
        omega
      · exact ht (e ▸ h1))]
    exact h.old k hkB ht
/-- One result. -/
def resC (P : Program) (s : Sf) : ResultVar → Option V
  | .tmp t => opv s (.tmp t)
  | .cell a t => match opv s (.tmp a) with
    | some (.c (.p n o)) => match s (.l n), s (.b n) with
      | some (.l true), some (.b b) => match b.cellsC with
        | some (_, l) => match tRow P t with
          | some false => match l[o]? with
            | some x => some (.c x)
            | none => none
          | some true => match tS P t with
            | some k => if o + k ≤ l.length then some (.a ((l.drop o).take k)) else none
            | none => none
          | none => none
        | none => none
      | _, _ => none
    | _ => none
def resL (P : Program) (s : Sf) : List ResultVar → Option (List V)
  | [] => some []
  | r :: rs => match resC P s r, resL P s rs with
    | some v, some vs => some (v :: vs)
    | _, _ => none
def partV : V → Option (C ⊕ List C)
  | .c x => some (.inl x)
  | .a l => some (.inr l)
  | .t _ => none
def partsV : List V → Option (List (C ⊕ List C))
  | [] => some []
  | v :: vs => match partV v, partsV vs with
    | some p, some ps => some (p :: ps)
    | _, _ => none
def tupC : List V → Option V
  | [v] => some v
  | vs => match partsV vs with
    | some ps => some (.t ps)
    | none => none
def resOne (tmps : Array Value) : ResultVar → Sem Value
  | .tmp t => pure (tmps.getD t undef)
  | .cell a t => do loadVar t (← asAddr (tmps.getD a undef))
theorem results_eq {fn : Func} {tmps : Array Value} : results fn tmps = (do let vs ← fn.results.mapM (resOne tmps); pure (if h : vs.size = 1 then vs[0] else .tuple vs)) := by
  unfold results
  congr 2
/-- The slots, without what is owed of deferred calls. -/
structure Slots (c : Ctx) (s : Sf) (e : Env) (tmps : Array Value) : Prop where
  tmp : ∀ i v, s (.t i) = some (.v v) → ∃ u, tmps[i]? = some u ∧ OkV s e v u
theorem resC_ok {r : ResultVar} {v : V} (h : resC c.P s r = some v) {tmps : Array Value} (hS : Slots c s e tmps) (hW : RealW c s e w) : ∃ u, (resOne tmps r).run c.P w = .ok u w ∧ OkV s e v u ∧ ∀ n ∈ v.names, s (.l n) ≠ none := by
  have slot : ∀ {i v}, opv s (.tmp i) = some v → OkV s e v (tmps.getD i undef) ∧ ∀ n ∈ v.names, s (.l n) ≠ none := fun {i v} hx => by
    refine ⟨?_, opv_names hx hW.cl⟩
    simp only [opv] at hx
    split at hx
    · rename_i u hu
      cases hx
      obtain ⟨u, h1, h2⟩ := hS.tmp i _ hu
      simpa [Array.getD_eq_getD_getElem?, h1] using h2
    · cases hx
  cases r with
  | tmp t => exact ⟨_, rfl, (slot h).1, (slot h).2⟩
  | cell a t =>
    simp only [resC] at h
    split at h
    · rename_i n o hx
      split at h
      · rename_i b ha hb
        split at h
        · rename_i own l hl
          have ex : tmps.getD a undef = .pointer (some ⟨e.id n, e.bs n + o, none⟩) := (slot hx).1 fun m hm => by
            simp only [C.names, List.mem_singleton] at hm; subst hm; exact ha
          have hM := hW.cells ha hb hl
          have hnm : ∀ x ∈ l, ∀ m ∈ x.names, s (.l m) ≠ none := fun x hx m hm => by
            refine hW.cl.1 (.b n) (.b b) hb m ?_
            show m ∈ b.names
            rw [← B.cellsC_names hl]
            exact List.mem_flatMap.2 ⟨x, hx, hm⟩
          cases hr : tRow c.P t with
          | none => rw [hr] at h; cases h
          | some row =>
            rw [hr] at h
            cases row with
            | false =>
              simp only at h
              split at h
              · rename_i x hx2
                cases h
                obtain ⟨u, h1, h2⟩ := hM.cell hx2
                refine ⟨u, ?_, h2.ok, fun m hm => hnm x (List.mem_of_getElem? hx2) m hm⟩
                simp only [resOne, ex, asAddr, Sem.run_bind, Sem.run_pure, Result.andThen_ok, loadVar, run_row hr]
                simp [run_load, h1]
              · cases h
            | true =>
              simp only at h
              split at h
              · rename_i k hk
                split at h
                · rename_i hle
                  cases h
                  obtain ⟨us, h1, h2, h3⟩ := hM.range o k hle
                  refine ⟨.agg us.toArray, ?_, ⟨us, rfl, h2⟩, fun m hm => ?_⟩
                  · have hl' : (loadCells ⟨e.id n, e.bs n + o, none⟩ us.length).run c.P w = .ok us.toArray w :=
                      run_loadCells_list (P := c.P) w ⟨e.id n, e.bs n + o, none⟩ us (fun j v hv => by rw [Addr.add_mid]; exact h3 j v hv)
                    simp only [resOne, ex, asAddr, Sem.run_bind, Sem.run_pure, Result.andThen_ok, loadVar, run_row hr, if_true, run_sz hk, ← h1, hl']
                  · simp only [V.names, List.mem_flatMap] at hm
                    obtain ⟨y, hy, hm⟩ := hm
                    exact hnm y (List.mem_of_mem_drop (List.mem_of_mem_take hy)) m hm
                · cases h
              · cases h
        · cases h
      · cases h
    · cases h
def OkVs (s : Sf) (e : Env) : List V → List Value → Prop
  | [], us => us = []
  | v :: vs, us => ∃ u r, us = u :: r ∧ OkV s e v u ∧ OkVs s e vs r
theorem resL_ok {tmps : Array Value} (hS : Slots c s e tmps) (hW : RealW c s e w) : ∀ {rs : List ResultVar} {vs : List V}, resL c.P s rs = some vs → ∃ us : List Value, (rs.mapM (m := Sem) (resOne tmps)).run c.P w = .ok us w ∧ OkVs s e vs us ∧ ∀ v ∈ vs, ∀ n ∈ v.names, s (.l n) ≠ none
  | [], vs, h => by simp only [resL, Option.some.injEq] at h; subst h; exact ⟨[], rfl, rfl, fun v hv => by cases hv⟩
  | r :: rs, vs, h => by
    simp only [resL] at h
    split at h
    · rename_i v vs' hv hvs
      cases h
      obtain ⟨u, h1, h2, h3⟩ := resC_ok hv hS hW
      obtain ⟨us, h4, h5, h6⟩ := resL_ok hS hW hvs
      refine ⟨u :: us, ?_, ⟨u, us, rfl, h2, h5⟩, fun y hy => ?_⟩
      · rw [List.mapM_cons]; simp only [Sem.run_bind, h1, Result.andThen_ok, h4, Sem.run_pure]
      · rcases List.mem_cons.1 hy with rfl | hy
        · exact h3
        · exact h6 y hy
    · cases h
theorem OkVs.length : ∀ {vs : List V} {us : List Value}, OkVs s e vs us → us.length = vs.length
  | [], _, h => by rw [h]; rfl
  | v :: vs, _, ⟨u, r, hu, _, h⟩ => by rw [hu]; simp [h.length]
theorem partsV_ok : ∀ {vs : List V} {ps : List (C ⊕ List C)} {us : List Value}, partsV vs = some ps → OkVs s e vs us → OkT s e ps us ∧ ∀ n ∈ ps.flatMap namesP, ∃ v ∈ vs, n ∈ v.names
  | [], ps, us, h, hv => by simp only [partsV, Option.some.injEq] at h; subst h; exact ⟨hv, fun n hn => by cases hn⟩
  | v :: vs, ps, us, h, ⟨u, r, hu, h1, h2⟩ => by
    simp only [partsV] at h
    split at h
    · rename_i p ps' hp hps
      cases h
      obtain ⟨h3, h4⟩ := partsV_ok hps h2
      refine ⟨⟨u, r, hu, ?_, h3⟩, fun n hn => ?_⟩
      · cases v with
        | c x => cases hp; exact h1
        | a l => cases hp; exact h1
        | t l => cases hp
      · rw [List.flatMap_cons] at hn
        rcases List.mem_append.1 hn with hn | hn
        · refine ⟨v, List.mem_cons_self, ?_⟩
          cases v with
          | c x => cases hp; exact hn
          | a l => cases hp; exact hn
          | t l => cases hp
        · obtain ⟨y, hy, hn⟩ := h4 n hn; exact ⟨y, List.mem_cons_of_mem _ hy, hn⟩
    · cases h
theorem results_ok {fn : Func} {tmps : Array Value} {vs : List V} {v : V} (hS : Slots c s e tmps) (hW : RealW c s e w) (hr : resL c.P s fn.results.toList = some vs) (hv : tupC vs = some v) :
    ∃ u, (results fn tmps).run c.P w = .ok u w ∧ OkV s e v u ∧ ∀ n ∈ v.names, s (.l n) ≠ none := by
  obtain ⟨us, h1, h2, h3⟩ := resL_ok hS hW hr
  have hm : (fn.results.mapM (m := Sem) (resOne tmps)).run c.P w = .ok us.toArray w := by
    rw [Array.mapM_eq_mapM_toList]
    rw [show (List.toArray <$> List.mapM (m := Sem) (resOne tmps) fn.results.toList : Sem (Array Value)) = (do let r ← List.mapM (m := Sem) (resOne tmps) fn.results.toList; pure r.toArray) from rfl]
    rw [Sem.run_bind, h1]; rfl
  have hlen := h2.length
  have hrun : (results fn tmps).run c.P w = .ok (if h : us.toArray.size = 1 then us.toArray[0] else .tuple us.toArray) w := by
    rw [results_eq, Sem.run_bind, hm]; rfl
  unfold tupC at hv
  split at hv
  · rename_i v0
    cases hv
    obtain ⟨u, r, rfl, h4, h5⟩ := h2
    have : r = [] := h5
    subst this
    exact ⟨u, by rw [hrun]; simp, h4, h3 v (by simp)⟩
  · rename_i hne
    split at hv
    · rename_i ps hps
      cases hv
      obtain ⟨h4, h5⟩ := partsV_ok hps h2
      have hs : us.toArray.size ≠ 1 := fun h => by
        simp only [List.size_toArray] at h
        have : vs.length = 1 := by omega
        match vs, this with
        | [v], _ => exact hne v rfl
      refine ⟨.tuple us.toArray, by rw [hrun, dif_neg hs], ⟨us, rfl, h4⟩, fun n hn => ?_⟩
      obtain ⟨y, hy, hn⟩ := h5 n hn
      exact h3 y hy n hn
    · cases hv
/-- What a call comes to: of these arguments, where h stands, whatever else there is. -/
def CT (P : Program) (f : FuncId) (args : List V) (h : Sf) (lo hi : Nat) (v : V) (h' : Sf) : Prop :=
  ∀ (c : Ctx) (e : Env) (w : World) (us : List Value), c.P = P → (∀ n, lo ≤ n → n < hi → ¬ c.gv n) → RealW c h e w → OkVs h e args us → (∀ v ∈ args, ∀ n ∈ v.names, h (.l n) ≠ none) →
    Calls P f us.toArray w fun en w' => ∃ u e', en = .returned u ∧ RealW c h' e' w' ∧ OkV h' e' v u ∧ ∀ n ∈ v.names, h' (.l n) ≠ none
/-- The heap part of a state. -/
def hp (s : Sf) : Sf
  | .t _ => none
  | q => s q
theorem OkVs.get : ∀ {vs : List V} {us : List Value} {i : Nat} {v : V}, OkVs s e vs us → vs[i]? = some v → ∃ u, us[i]? = some u ∧ OkV s e v u
  | [], _, _, _, _, hx => by simp at hx
  | y :: l, _, 0, x, ⟨u, r, hu, h1, _⟩, hx => by
    simp only [List.getElem?_cons_zero, Option.some.injEq] at hx
    subst hx; rw [hu]; exact ⟨u, rfl, h1⟩
  | y :: l, _, i + 1, x, ⟨u, r, hu, _, h2⟩, hx => by
    rw [hu]; simpa using h2.get (i := i) (by simpa using hx)
/-- The marks are taken, then the results. -/
def killM (s : Sf) : List Nat → Sf
  | [] => s
  | n :: l => killM (upd s [(.l n, .l false)]) l
theorem killM_b : ∀ (l : List Nat) (s : Sf) (n : Nat), killM s l (.b n) = s (.b n)
  | [], s, n => rfl
  | k :: l, s, n => by rw [killM, killM_b l, upd_cons_ne _ _ _ (by simp), upd_nil]
theorem killM_t : ∀ (l : List Nat) (s : Sf) (i : Nat), killM s l (.t i) = s (.t i)
  | [], s, n => rfl
  | k :: l, s, n => by rw [killM, killM_t l, upd_cons_ne _ _ _ (by simp), upd_nil]
theorem killM_l : ∀ (l : List Nat) (s : Sf) (n : Nat), killM s l (.l n) = if n ∈ l then some (.l false) else s (.l n)
  | [], s, n => by simp [killM]
  | k :: l, s, n => by
    rw [killM, killM_l l, upd_cons, upd_nil]
    by_cases h1 : n ∈ l
    · simp [h1]
    · by_cases h2 : k = n
      · simp [h2]
      · have h3 : ¬ n = k := fun e => h2 e.symm
        simp [h1, h2, h3]
theorem leaves_marks {P : Program} {fn : Func} {tmps : Array Value} {R : Ending → World → Prop} : ∀ (l : List Nat) (s : Sf) (w : World), c.P = P → RealW c s e w → l.Nodup → (∀ n ∈ l, s (.l n) = some (.l true) ∧ s (.b n) = some (.b .df)) →
    (∀ w', RealW c (killM s l) e w' → ∃ v, (results fn tmps).run P w' = .ok v w' ∧ R (.returned v) w') → LeavesInM Fence.wide nn P fn tmps R (l.map fun n => mark1 (e.id n)) .returning w
  | [], s, w, hP, hW, _, _, hK => hK w hW
  | n :: l, s, w, hP, hW, hnd, hm, hK => by
    obtain ⟨ha, hb⟩ := hm n List.mem_cons_self
    obtain ⟨hrm, hD⟩ := hW.blk n .df ha hb
    have hlt : e.id n < w.heap.size := (Array.getElem?_eq_some_iff.1 hD).1
    rw [List.nodup_cons] at hnd
    refine ⟨by simp, .inl ⟨e.id n, _, rfl, run_takeDeferred hD, ?_⟩⟩
    refine leaves_marks l (upd s [(.l n, .l false)]) _ hP (hW.drop ha hb rfl (by omega) (fun k hk => World.putObj_heap_other hk) (by simp [World.putObj]) rfl rfl rfl) hnd.2 (fun k hk => ?_) hK
    have hne : n ≠ k := fun h => hnd.1 (h ▸ hk)
    rw [upd_cons_ne _ _ _ (by simpa using hne), upd_nil, upd_cons_ne _ _ _ (by simp), upd_nil]
    exact hm k (List.mem_cons_of_mem _ hk)
/-- Where a body ends. -/
theorem KW_leave {P : Program} {fn : Func} {R : Ending → World → Prop} {vs : List V} {v : V} {x : Exit} (hx : x = .ret ∨ x = .normal) (hP : c.P = P) (hnd : c.fm.Nodup) (hr : resL P (killM σ c.fm) fn.results.toList = some vs) (hv : tupC vs = some v)
    (h : ∀ e u w, RealW c (killM σ c.fm) e w → OkV (killM σ c.fm) e v u → (∀ n ∈ v.names, killM σ c.fm (.l n) ≠ none) → R (.returned u) w) : KW c (bodyPostM Fence.wide nn P fn R x) σ := ⟨fun e a w hR => by
  have key : LeavesInM Fence.wide nn P fn a.tmps R a.defers .returning w := by
    rw [hR.defers]
    refine leaves_marks c.fm σ w hP hR.W hnd hR.fml fun w' hW => ?_
    subst hP
    have hS : Slots c (killM σ c.fm) e a.tmps := ⟨fun i v hx => by
      rw [killM_t] at hx
      obtain ⟨u, h1, h2⟩ := hR.tmp i v hx
      exact ⟨u, h1, h2.mono fun m hm => ⟨fun hl => by
        unfold live at *
        rw [killM_l] at hl
        split at hl
        · cases hl
        · exact hl, .rfl⟩⟩⟩
    obtain ⟨u, h1, h2, h3⟩ := results_ok hS hW hr hv
    exact ⟨u, h1, h e u w' hW h2 h3⟩
  rcases hx with rfl | rfl <;> exact key⟩
end
end Go.Proofs.Ytnmkpekfkfckoaa.EV
namespace Go.Proofs.Ytnmkpekfkfckoaa.EV
open Go.RowKit
/-- A frame's slots beside blocks. -/
def mix (s h : Sf) : Sf
  | .t i => s (.t i)
  | q => h q
section
variable {c : Ctx} {F : Fence} {nn : Nat} {σ s : Sf} {e : Env} {a : Act} {w w' : World} {Q : Exit → Act → World → Prop}
/-- Back in a frame. -/
theorem Real.back (hR : Real c s e a w) {c' : Ctx} {lo hi : Nat} {h' : Sf} {e' : Env} (hP : c'.w0 = c.w0) (ht : c'.tch = c.tch) (hg : ∀ n, (n < lo ∨ hi ≤ n) → c'.gv n) (hi' : c'.ini = e) (hgv : ∀ n, lo ≤ n → n < hi → ¬ c.gv n) (hfr : ∀ n, lo ≤ n → s (.l n) = none)
    (hrev : ∀ n, n < lo → h' (.l n) = some (.l true) → s (.l n) = some (.l true)) (hfm : ∀ n ∈ c.fm, h' (.l n) = some (.l true) ∧ h' (.b n) = some (.b .df)) (hal : ∀ n, s (.l n) ≠ none → h' (.l n) ≠ none) (hW : RealW c' h' e' w') : Real c (mix s h') e' a w' := by
  have lt : ∀ n, s (.l n) ≠ none → n < lo := fun n hn => by
    rcases Nat.lt_or_ge n lo with h | h
    · exact h
    · exact absurd (hfr n h) hn
  have same : ∀ n, n < lo → e.same e' n := fun n hn => by have := hW.given n (hg n (.inl hn)); rw [hi'] at this; exact this.symm
  have hb : c'.B = c.B := by show c'.w0.heap.size = c.w0.heap.size; rw [hP]
  have hW1 : RealW c h' e' w' := ⟨hW.blk, hW.sep, fun n b h1 h2 h3 => by have := hW.own n b h1 h2 h3; rw [hb, ht] at this; exact this, hW.cl, fun n hn => by
    have h1 : n < lo ∨ hi ≤ n := by
      rcases Nat.lt_or_ge n lo with h | h
      · exact .inl h
      · rcases Nat.lt_or_ge n hi with h2 | h2
        · exact absurd hn (hgv n h h2)
        · exact .inr h2
    have h2 := hW.given n (hg n h1)
    rw [hi'] at h2
    exact h2.trans (hR.W.given n hn), hW.os.trans (by rw [hP]), hW.tape.trans (by rw [hP]), hW.output.trans (by rw [hP]), by rw [← hb]; exact hW.size, fun k hk hn => by
      have := hW.old k (by rw [hb]; exact hk) (by rw [ht]; exact hn)
      rw [hP] at this; exact this⟩
  have hcl : Cl (mix s h') := by
    refine ⟨fun q x hx n hn => ?_, fun n hn => hW.cl.2 n hn⟩
    cases q with
    | t i => exact hal n (hR.W.cl.1 (.t i) x hx n hn)
    | b k => exact hW.cl.1 (.b k) x hx n hn
    | l k => exact hW.cl.1 (.l k) x hx n hn
  refine ⟨hW1.slots (fun _ => rfl) (fun _ => rfl) hcl, ?_, hfm, hR.slots, fun i v hx => ?_⟩
  · rw [hR.defers]
    exact List.map_congr_left fun n hn => by rw [(same n (lt n (by rw [(hR.fml n hn).1]; simp))).id]
  · obtain ⟨u, h1, h2⟩ := hR.tmp i v hx
    exact ⟨u, h1, OkV.mono (s := s) (s' := mix s h') (fun m hm => by
      have hne := hR.W.cl.1 (.t i) _ hx m hm
      exact ⟨fun hl => hrev m (lt m hne) hl, same m (lt m hne)⟩) h2⟩
theorem OkVs.append : ∀ {vs ws : List V} {us xs : List Value}, OkVs s e vs us → OkVs s e ws xs → OkVs s e (vs ++ ws) (us ++ xs)
  | [], _, _, _, h, k => by rw [show _ = [] from h]; exact k
  | v :: vs, ws, _, xs, ⟨u, r, hu, h1, h2⟩, k => by subst hu; exact ⟨u, r ++ xs, rfl, h1, h2.append k⟩
def capV (ca : List (Nat × Nat)) : List V := ca.map fun q => .c (.p q.1 q.2)
def capU (e : Env) (ca : List (Nat × Nat)) : List Value := ca.map fun q => Value.pointer (some ⟨e.id q.1, e.bs q.1 + q.2, none⟩)
theorem caps_ok : ∀ (ca : List (Nat × Nat)), OkVs s e (capV ca) (capU e ca)
  | [] => rfl
  | q :: ca => ⟨_, _, rfl, fun _ => rfl, caps_ok ca⟩
theorem capV_names {ca : List (Nat × Nat)} {v : V} (hv : v ∈ capV ca) {n : Nat} (hn : n ∈ v.names) : ∃ q ∈ ca, n = q.1 := by
  simp only [capV, List.mem_map] at hv
  obtain ⟨q, hq, rfl⟩ := hv
  exact ⟨q, hq, by simpa [V.names, C.names] using hn⟩
theorem eval_f {x : Operand} {g : FuncId} {ca : List (Nat × Nat)} (hx : opv σ x = some (.c (.f g ca))) (hca : ∀ q ∈ ca, σ (.l q.1) = some (.l true)) (hR : Real c σ e a w) : a.eval x = .func (.func g) #[] (capU e ca).toArray :=
  eval_opv hx hR fun n hn => by
    simp only [C.names, List.mem_map] at hn
    obtain ⟨q, hq, rfl⟩ := hn
    exact hca q hq
/-- What a call in the order of the text leaves in order. -/
structure BackOk (c : Ctx) (σ : Sf) (lo hi : Nat) (h' : Sf) : Prop where
  gv : ∀ n, lo ≤ n → n < hi → ¬ c.gv n
  fr : ∀ n, lo ≤ n → σ (.l n) = none
  rev : ∀ n, n < lo → h' (.l n) = some (.l true) → σ (.l n) = some (.l true)
  fm : ∀ n ∈ c.fm, h' (.l n) = some (.l true) ∧ h' (.b n) = some (.b .df)
  al : ∀ n, σ (.l n) ≠ none → h' (.l n) ≠ none
/-- The context of a callee. -/
def Ctx.sub (c : Ctx) (lo hi : Nat) (e : Env) (N : Nat) : Ctx := ⟨c.P, c.w0, c.tch, fun n => n < lo ∨ hi ≤ n, e, N, []⟩
theorem RealW.sub (h : RealW c s e w) (lo hi N : Nat) : RealW (c.sub lo hi e N) s e w := ⟨h.blk, h.sep, h.own, h.cl, fun _ _ => .rfl, h.os, h.tape, h.output, h.size, h.old⟩
theorem RealW.heap (h : RealW c s e w) : RealW c (hp s) e w :=
  h.slots (fun _ => rfl) (fun _ => rfl) ⟨fun q x hx n hn => by
    cases q with
    | t i => cases hx
    | b k => exact h.cl.1 (.b k) x hx n hn
    | l k => exact h.cl.1 (.l k) x hx n hn, fun n hn => h.cl.2 n hn⟩
end
end Go.Proofs.Ytnmkpekfkfckoaa.EV
namespace Go.Proofs.Ytnmkpekfkfckoaa.EV
open Go.RowKit
section
variable {c : Ctx} {F : Fence} {nn : Nat} {σ s : Sf} {e : Env} {a : Act} {w w' : World} {Q : Exit → Act → World → Prop}
/-- A loop's record is set anew. -/
theorem RealW.loopSet (h : RealW c s e w) {l : Nat} {r : LoopK} (ha : s (.l l) = some (.l true)) (hb : s (.b l) = some (.b (.lp r))) (st : LoopState) (pe : Option Code) :
    ∃ rec : Loop, w.heap[e.id l]? = some (.loop rec) ∧ rec.state = r.st ∧ rec.pending = r.pending ∧ RealW c (upd s [(.b l, .b (.lp { r with st := st, pending := pe }))]) e (w.putObj (e.id l) (.loop { rec with state := st, pending := pe })) := by
  obtain ⟨h1, fn, tm, h2, h3, h4⟩ := h.blk l (.lp r) ha hb
  have hlt : e.id l < w.heap.size := (Array.getElem?_eq_some_iff.1 h2).1
  refine ⟨_, h2, rfl, rfl, h.chg ha hb rfl (by omega) (fun k hk => World.putObj_heap_other hk) (by simp [World.putObj]) rfl rfl rfl ?_ (fun k hk => h.cl.1 (.b l) _ hb k hk)⟩
  have hl : ∀ k, upd s [(.b l, .b (.lp { r with st := st, pending := pe }))] (.l k) = s (.l k) := fun k => by rw [upd_cons_ne _ _ _ (by simp), upd_nil]
  refine ⟨h1, fn, tm, World.putObj_heap_same hlt, h3, fun i v hv => ?_⟩
  obtain ⟨u, h5, h6⟩ := h4 i v hv
  exact ⟨u, h5, h6.mono fun m _ => ⟨fun hx => by unfold live at *; rw [← hl]; exact hx, .rfl⟩⟩
/-- Which jump a way out leaves, and what the function that tells is told. -/
def jumpOf : Exit → Option (Option Code)
  | .normal => some none
  | .ret => some (some .ret)
  | .exit k => some (some (.exit k))
  | _ => none
/-- The record of a loop that begins. -/
def loop0 (N : Nat) (ts : List (Nat × V)) (ps : Array Tmp) (assign body : Code) (D : Nat) : LoopK := { st := .ready, pending := none, N, ts, params := ps, assign, body, D }
theorem run_rangeCall {P : Program} {ρ : Operand → Value} {g : Operand} {gf l : Nat} {us : List Value} (hg : ρ g = .func (.func gf) #[] us.toArray) (hy : ρ (.const (.func (.yield l) #[] #[])) = .func (.yield l) #[] #[]) :
    (resolve ρ (rangeCall g l) 0).run P w = .ok { target := .fn (.func gf) us.toArray, args := #[.func (.yield l) #[] #[]] } w := by
  simp only [resolve, hg, Deferred.ofValue, List.map_toArray, List.map_cons, List.map_nil, hy, Sem.run_pure]
  rfl
/-- A range over a function, where none stands around it. -/
theorem CW_rangeOuter (hF : WideLike F) (hro : F.round = none) {g : Operand} {ps : Array Tmp} {assign body : Code} {gf nD nL lo hi : Nat} {ca : List (Nat × Nat)} {ts : List (Nat × V)} {v : V} {h' : Sf} {r' : LoopK}
    (he : ∀ args w, (callFunc gf args).run c.P w = .ok (.enter gf args) w) (hg : opv σ g = some (.c (.f gf ca))) (hca : ∀ q ∈ ca, σ (.l q.1) = some (.l true)) (hts : ∀ i v, (i, v) ∈ ts → σ (.t i) = some (.v v))
    (hD : ¬ c.gv nD) (hD0 : σ (.l nD) = none) (hL : ¬ c.gv nL) (hL0 : σ (.l nL) = none) (hne : nD ≠ nL)
    (hct : CT c.P gf (.c (.y nL) :: capV ca) (hp (upd (upd σ (wsNew nD .df)) (wsNew nL (.lp (loop0 c.N ts ps assign body nD))))) lo hi v h')
    (hBk : BackOk { c with fm := nD :: c.fm } (upd (upd σ (wsNew nD .df)) (wsNew nL (.lp (loop0 c.N ts ps assign body nD)))) lo hi (upd h' [(.b nL, .b (.lp { r' with st := .exhausted, pending := r'.pending }))]))
    (hl : h' (.l nL) = some (.l true)) (hlb : h' (.b nL) = some (.b (.lp r'))) (hst : r'.st ≠ .busy)
    (hK : match r'.pending with
      | none => KW { c with fm := nD :: c.fm } (Q .normal) (mix σ (upd h' [(.b nL, .b (.lp { r' with st := .exhausted, pending := r'.pending }))]))
      | some j => CW { c with fm := nD :: c.fm } F nn j Q (mix σ (upd h' [(.b nL, .b (.lp { r' with st := .exhausted, pending := r'.pending }))]))) :
    CW c F nn (.rangeFunc g ps assign body) Q σ := by
  refine ⟨fun e a w hR => wpIn_rangeFunc fun fn hfn => ?_⟩
  rw [hro]
  have hca' := eval_f hg hca hR
  have hlt : w.heap.size < (w.alloc (.deferred (some []))).heap.size := by rw [World.size_alloc]; omega
  -- the two new objects
  let c1 : Ctx := { c with fm := nD :: c.fm }
  have hD1 : Real c (upd σ (wsNew nD .df)) (e.set nD w.heap.size 0 1) a (w.alloc (.deferred (some []))) :=
    hR.new hD hD0 _ 1 ⟨Env.set_rm .., by rw [Env.set_id]; exact World.alloc_heap_new w _⟩ (fun k hk => by cases hk)
  have hL1 : upd σ (wsNew nD .df) (.l nL) = none := by rw [wsNew_l, if_neg hne]; exact hL0
  have hTs : ∀ i v, (i, v) ∈ ts → upd σ (wsNew nD .df) (.t i) = some (.v v) := fun i v h => by rw [wsNew_t]; exact hts i v h
  let lp0 := loop0 c.N ts ps assign body nD
  let e1 := e.set nD w.heap.size 0 1
  let w1 := w.alloc (.deferred (some []))
  let s1 := upd σ (wsNew nD .df)
  let e2 := e1.set nL w1.heap.size 0 1
  let rec0 : Loop := { state := .ready, pending := none, fn := fn, tmps := a.tmps, params := ps, assign := assign, body := body, defers := w.heap.size }
  have hs : ∀ n ∈ lp0.D :: (lp0.ts.flatMap fun x => x.2.names), s1 (.l n) ≠ none := fun n hn => by
    rcases List.mem_cons.1 hn with hn | hn
    · have hn : n = nD := hn
      rw [hn]
      show upd σ (wsNew nD .df) (.l nD) ≠ none
      rw [wsNew_l, if_pos rfl]; simp
    · obtain ⟨x, hx, hn⟩ := List.mem_flatMap.1 hn
      exact hD1.W.cl.1 (.t x.1) _ (hTs x.1 x.2 hx) n hn
  have hL2 : Real c (upd s1 (wsNew nL (.lp lp0))) e2 a (w1.alloc (.loop rec0)) := by
    refine hD1.new hL hL1 (.loop rec0) 1 ⟨Env.set_rm .., fn, a.tmps, ?_, hR.slots, fun i v hv => ?_⟩ (fun k hk => .inr (hs k hk))
    · rw [Env.set_id]
      have hd : (e1.set nL w1.heap.size 0 1).id nD = w.heap.size := by rw [← (Env.set_ne e1 (i := w1.heap.size) (b := 0) (r := 1) hne).id.symm]; exact Env.set_id ..
      have := World.alloc_heap_new w1 (.loop rec0)
      rw [show (w1.alloc (.loop rec0)).heap[w1.heap.size]? = some (.loop rec0) from this]
      show some (Obj.loop rec0) = some (.loop { state := .ready, pending := none, fn := fn, tmps := a.tmps, params := ps, assign := assign, body := body, defers := (e1.set nL w1.heap.size 0 1).id nD })
      rw [hd]
    · obtain ⟨u, h1, h2⟩ := hD1.tmp i v (hTs i v hv)
      exact ⟨u, h1, h2.mono fun m hm => by
        have hne' : s1 (.l m) ≠ none := hD1.W.cl.1 (.t i) _ (hTs i v hv) m hm
        exact ⟨(wsNew_live (not_live hL1 hne')).1, (Env.set_ne e1 (not_live hL1 hne')).symm⟩⟩
  have idL : e2.id nL = w.heap.size + 1 := by
    show (e1.set nL w1.heap.size 0 1).id nL = _
    rw [Env.set_id, World.size_alloc]
  have idD : e2.id nD = w.heap.size := by
    rw [← (Env.set_ne e1 (i := w1.heap.size) (b := 0) (r := 1) hne).id.symm]; exact Env.set_id ..
  have heq : (w.alloc (.deferred (some []))).alloc (.loop { state := .ready, pending := none, fn := fn, tmps := a.tmps, params := ps, assign := assign, body := body, defers := w.heap.size }) = w1.alloc (.loop rec0) := rfl
  -- the frame behind the loop's beginning
  have hR2 : Real c1 (upd s1 (wsNew nL (.lp lp0))) e2 { a with defers := { target := .collected w.heap.size, args := #[] } :: a.defers } (w1.alloc (.loop rec0)) := by
    refine ⟨⟨hL2.W.blk, hL2.W.sep, hL2.W.own, hL2.W.cl, hL2.W.given, hL2.W.os, hL2.W.tape, hL2.W.output, hL2.W.size, hL2.W.old⟩, ?_, fun n hn => ?_, hL2.slots, hL2.tmp⟩
    · show _ = (nD :: c.fm).map _
      rw [List.map_cons, idD, ← hL2.defers]; rfl
    · rcases List.mem_cons.1 hn with hn | hn
      · rw [hn]
        refine ⟨?_, ?_⟩
        · rw [wsNew_l, if_neg (fun h => hne h.symm)]
          show upd σ (wsNew nD .df) (.l nD) = _
          rw [wsNew_l, if_pos rfl]
        · rw [wsNew_b, if_neg (fun h => hne h.symm)]
          show upd σ (wsNew nD .df) (.b nD) = _
          rw [wsNew_b, if_pos rfl]
      · exact hL2.fml n hn
  have hargs : OkVs (hp (upd s1 (wsNew nL (.lp lp0)))) e2 (.c (.y nL) :: capV ca) (Value.func (.yield (e2.id nL)) #[] #[] :: capU e2 ca) := ⟨_, _, rfl, fun _ => rfl, caps_ok ca⟩
  have hal2 : ∀ n, σ (.l n) = some (.l true) → upd s1 (wsNew nL (.lp lp0)) (.l n) = some (.l true) := fun n hn => by
    rw [wsNew_l]
    split
    · rfl
    · show upd σ (wsNew nD .df) (.l n) = _
      rw [wsNew_l]; split
      · rfl
      · exact hn
  have hnames : ∀ v ∈ V.c (.y nL) :: capV ca, ∀ n ∈ v.names, hp (upd s1 (wsNew nL (.lp lp0))) (.l n) ≠ none := fun v hv n hn => by
    rcases List.mem_cons.1 hv with rfl | hv
    · simp only [V.names, C.names, List.mem_singleton] at hn; subst hn
      show upd s1 (wsNew n (.lp lp0)) (.l n) ≠ none
      rw [wsNew_l, if_pos rfl]; simp
    · obtain ⟨q, hq, rfl⟩ := capV_names hv hn
      show upd s1 (wsNew nL (.lp lp0)) (.l q.1) ≠ none
      rw [hal2 q.1 (hca q hq)]; simp
  have hcapU : capU e2 ca = capU e ca := by
    refine List.map_congr_left fun q hq => ?_
    have h1 : q.1 ≠ nD := fun h => by have := hca q hq; rw [h, hD0] at this; cases this
    have h2 : q.1 ≠ nL := fun h => by have := hca q hq; rw [h, hL0] at this; cases this
    have hsm : e2.same e q.1 := (Env.set_ne e1 h2).trans (Env.set_ne e h1)
    rw [hsm.id, hsm.bs]
  refine ⟨w.heap.size + 1, [{ target := .collected w.heap.size, args := #[] }], _, _, _, gf, #[.func (.yield (w.heap.size + 1)) #[] #[]] ++ (capU e ca).toArray, w1.alloc (.loop rec0), run_enterLoop_outer fn a.tmps ps assign body, run_rangeCall hca' rfl, fun f' _ => hF.fn f', ?_, fun h => absurd h (by rw [hF.depth]; simp), ?_⟩
  · show (callFunc gf (#[.func (.yield (w.heap.size + 1)) #[] #[]] ++ (capU e ca).toArray)).run c.P _ = _
    rw [he]
  refine hF.calls ?_
  have hcall := hct (c1.sub lo hi e2 0) e2 (w1.alloc (.loop rec0)) _ rfl (fun n h1 h2 h3 => by (have : n < lo ∨ hi ≤ n := h3; omega)) (hR2.W.heap.sub lo hi 0) hargs hnames
  rw [hcapU, idL] at hcall
  have harr : (Value.func (.yield (w.heap.size + 1)) #[] #[] :: capU e ca).toArray = #[.func (.yield (w.heap.size + 1)) #[] #[]] ++ (capU e ca).toArray := by simp
  rw [harr] at hcall
  refine hcall.mono ?_
  rintro en w3 ⟨u, e3, rfl, hW3, hu, hun⟩
  have hs1lo : nL < lo := by
    rcases Nat.lt_or_ge nL lo with h | h
    · exact h
    · have := hBk.fr nL h
      rw [wsNew_l, if_pos rfl] at this; cases this
  have id3 : e3.id nL = w.heap.size + 1 := (hW3.given nL (.inl hs1lo)).id.trans idL
  obtain ⟨rec3, p1, p2, p3, p4⟩ := hW3.loopSet hl hlb .exhausted r'.pending
  rw [id3] at p1 p4
  have hb3 := hR2.back (c' := c1.sub lo hi e2 0) rfl rfl (fun n hn => hn) rfl hBk.gv hBk.fr hBk.rev hBk.fm hBk.al p4
  have hend := run_endLoop (P := c.P) p1 (by rw [p2]; exact hst)
  have hrec : ({ rec3 with state := .exhausted, pending := r'.pending } : Loop) = { rec3 with state := .exhausted } := by rw [← p3]
  rw [hrec] at hb3
  have hmix : mix (upd s1 (wsNew nL (.lp lp0))) (upd h' [(.b nL, .b (.lp { r' with st := .exhausted, pending := r'.pending }))]) = mix σ (upd h' [(.b nL, .b (.lp { r' with st := .exhausted, pending := r'.pending }))]) := by
    funext q
    cases q with
    | t i => show upd (upd σ _) _ (.t i) = σ (.t i); rw [wsNew_t, wsNew_t]
    | b n => rfl
    | l n => rfl
  rw [hmix] at hb3
  refine ⟨rec3.pending, _, hend, ?_⟩
  rw [p3]
  rw [p3] at hb3
  cases hpd : r'.pending with
  | none => simp only [hpd] at hK hb3 ⊢; exact hK.go e3 _ _ hb3
  | some j => simp only [hpd] at hK hb3 ⊢; exact hK.go e3 _ _ hb3
end
end Go.Proofs.Ytnmkpekfkfckoaa.EV
namespace Go.Proofs.Ytnmkpekfkfckoaa.EV
noncomputable section
open Go.RowKit
open SX (eqs)
inductive T (α : Type) where
  | e
  | n (v : Option α) (l r : T α)
def T.get {α : Type} (t : T α) : Nat → Option α :=
  T.rec (motive := fun _ => Nat → Option α) (fun _ => none) (fun v _ _ gl gr k => Nat.rec v (fun k _ => Bool.rec (gr (Nat.div k 2)) (gl (Nat.div k 2)) (Nat.beq (Nat.mod k 2) 0)) k) t
/-- A tree of one place; none if there is no more depth. -/
def T.single {α : Type} : Nat → Nat → α → Option (T α)
  | 0, _, _ => none
  | f + 1, k, x => match k with
    | 0 => some (.n (some x) .e .e)
    | k + 1 => bif Nat.beq (k % 2) 0 then (match T.single f (k / 2) x with | some t => some (.n none t .e) | none => none) else (match T.single f (k / 2) x with | some t => some (.n none .e t) | none => none)
/-- Laid in anew. -/
def T.put {α : Type} (f : Nat) (t : T α) : Nat → α → Option (T α) :=
  T.rec (motive := fun _ => Nat → α → Option (T α)) (fun k x => T.single f k x)
    (fun v l r pl pr k x => Nat.rec (some (.n (some x) l r)) (fun k _ => Bool.rec (Option.rec none (fun t => some (.n v l t)) (pr (Nat.div k 2) x)) (Option.rec none (fun t => some (.n v t r)) (pl (Nat.div k 2) x)) (Nat.beq (Nat.mod k 2) 0)) k) t
def T.all {α : Type} (p : α → Bool) : T α → Bool
  | .e => true
  | .n v l r => (match v with | some x => p x | none => true) && (l.all p && r.all p)
def fcN : Nat → Option Nat
  | 0 => some 0
  | n + 1 => some (n + 1)
def fcI : Int → Option Int
  | .ofNat n => match n with
    | 0 => some (.ofNat 0)
    | m + 1 => some (.ofNat (m + 1))
  | .negSucc n => match n with
    | 0 => some (.negSucc 0)
    | m + 1 => some (.negSucc (m + 1))
def fcU (x : UInt8) : Option UInt8 := match x.toNat with
  | 0 => some (UInt8.ofNat 0)
  | n + 1 => some (UInt8.ofNat (n + 1))
def fcLs {α : Type} (f : α → Option α) : List α → Option (List α)
  | [] => some []
  | x :: l => match f x with
    | some y => match fcLs f l with
      | some r => some (y :: r)
      | none => none
    | none => none
def fcB (b : ByteArray) : Option ByteArray := match fcLs fcU b.data.toList with
  | some l => some ⟨l.toArray⟩
  | none => none
def fcX : Value → Option Value
  | .int k i => match fcI i with
    | some j => some (.int k j)
    | none => none
  | .bool b => match b with
    | true => some (.bool true)
    | false => some (.bool false)
  | .string b => match fcB b with
    | some d => some (.string d)
    | none => none
  | x => some x
def fcC : C → Option C
  | .v x => match fcX x with
    | some y => some (.v y)
    | none => none
  | .p n o => match fcN n, fcN o with
    | some n, some o => some (.p n o)
    | _, _ => none
  | .s n o l k => match fcN n, fcN o, fcN l, fcN k with
    | some n, some o, some l, some k => some (.s n o l k)
    | _, _, _, _ => none
  | .g n o l b z => match fcN n, fcN o, fcN l, fcN b with
    | some n, some o, some l, some b => some (.g n o l b z)
    | _, _, _, _ => none
  | .y n => match fcN n with
    | some n => some (.y n)
    | none => none
  | x => some x
def lv (s : Sf) (n : Nat) : Bool := match s (.l n) with
  | some (.l b) => b
  | _ => false
end
end Go.Proofs.Ytnmkpekfkfckoaa.EV
namespace Go.Proofs.Ytnmkpekfkfckoaa.EV
open Go.RowKit
section
variable {c : Ctx} {F : Fence} {nn : Nat} {σ s : Sf} {e : Env} {a : Act} {w w' : World} {Q : Exit → Act → World → Prop}
theorem Vals.to {xs : List Operand} {vs : List V} {ks : List Key} (h : Vals σ xs vs ks) (hag : ∀ q ∈ ks, s q = σ q) : Vals s xs vs ks := by
  induction h with
  | nil => exact .nil
  | @cons x v xs l ks hx h ih => exact .cons (by rw [opv_agree fun q hq => hag q (by simp [hq])]; exact hx) (ih fun q hq => hag q (by simp [hq]))
end
end Go.Proofs.Ytnmkpekfkfckoaa.EV
namespace Go.Proofs.Ytnmkpekfkfckoaa.EV
noncomputable section
open Go.RowKit
/-- What becomes of blocks: nothing; a new one; one that is changed; one that is given up for a new one. -/
inductive Eff where
  | no
  | new (b : B)
  | chg (n : Nat) (b : B)
  | steal (n : Nat) (b : B)
def Eff.ws (m : Nat) : Eff → Ws
  | .no => []
  | .new b => wsNew m b
  | .chg n b => [(.b n, .b b)]
  | .steal n b => wsSteal n m b
def Eff.fresh : Eff → Bool
  | .new _ => true
  | .steal _ _ => true
  | _ => false
end
end Go.Proofs.Ytnmkpekfkfckoaa.EV
