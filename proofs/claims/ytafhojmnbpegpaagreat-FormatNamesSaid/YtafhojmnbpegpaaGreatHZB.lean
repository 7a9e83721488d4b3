/- States by names: append. No program in sight. States by names: append, second part. No program in sight. States by names: append, copy, make, literals, texts as operations. No program in sight. States by names: literals, make, copy. No program in sight. States by names: copy. No program in sight. States by names: code, results, what a function comes to. No program in sight. States by names: calls. No program in sight. States by names: calls in the order of the text, rounds, ranges over functions. No program in sight. States by names: rounds, ranges over functions. No program in sight. A reckoner of operations over named blocks. No program in sight. States by names: a call as an operation among others. No program in sight. The reckoner is sound: what it says an operation yields, it yields. No program in sight. A reckoner of operations that lay or change blocks, and that it is sound. No program in sight. -/
import Derived.Test.YtafhojmnbpegpaaGreatHZA
import Derived.Lib.ConvBytes
import Derived.Laws.BytesString
import Derived.IntWalk
import Derived.LoopNIn
import Derived.RangeFuncLeaves
import Derived.RangeFuncRecord
import Derived.RangeFuncNested
namespace Go.Proofs.YtafhojmnbpegpaaGreat.EV
set_option linter.unusedSectionVars false
open Go.RowKit
section
variable {c : Ctx} {F : Fence} {nn : Nat} {σ s : Sf} {e : Env} {a : Act} {w : World}
/-- A name for nothing. -/
theorem RealW.phantom (h : RealW c s e w) {n : Nat} (hm : ¬ c.gv n) (hn : s (.l n) = none) : RealW c (upd s (wsNew n (.m true []))) (e.set n 0 0 0) w := by
  have hne : ∀ {k}, s (.l k) ≠ none → k ≠ n := fun hk => not_live hn hk
  have hmo : ∀ k, k ≠ n → Mo s e (upd s (wsNew n (.m true []))) (e.set n 0 0 0) k := fun k hk => ⟨(wsNew_live hk).1, (Env.set_ne e hk).symm⟩
  have other : ∀ {j : Nat} {b' : B}, j ≠ n → upd s (wsNew n (.m true [])) (.l j) = some (.l true) → upd s (wsNew n (.m true [])) (.b j) = some (.b b') → s (.l j) = some (.l true) ∧ s (.b j) = some (.b b') := fun hj h1 h2 => by
    rw [wsNew_l, if_neg (fun e => hj e.symm)] at h1
    rw [wsNew_b, if_neg (fun e => hj e.symm)] at h2
    exact ⟨h1, h2⟩
  refine ⟨?_, ?_, ?_, h.cl.new (fun k hk => by cases hk), fun k hk => (Env.set_ne e (fun he => hm (by rw [← he]; exact hk))).trans (h.given k hk), h.os, h.tape, h.output, h.size, h.old⟩
  · intro k b' h1 h2
    by_cases hk : k = n
    · subst hk; rw [wsNew_b, if_pos rfl] at h2; cases h2
      exact ⟨Nat.zero_le _, .inl (Env.set_rm ..)⟩
    · obtain ⟨h1, h2⟩ := other hk h1 h2
      exact (h.blk k b' h1 h2).mono (fun m hm => hmo m (hne (h.cl.1 _ _ h2 m hm))) (Env.set_ne e hk).symm (fun _ => rfl)
  · intro k k' b1 b2 h1 h2 h3 h4 hkk ho
    by_cases hk : k = n
    · subst hk; exact .inl (Env.set_rm ..)
    · by_cases hk' : k' = n
      · subst hk'; exact .inr (.inl (Env.set_rm ..))
      · obtain ⟨h1', h2'⟩ := other hk h1 h2
        obtain ⟨h3', h4'⟩ := other hk' h3 h4
        rw [(Env.set_ne e hk).rm, (Env.set_ne e hk).id, (Env.set_ne e hk').rm, (Env.set_ne e hk').id]
        exact h.sep k k' b1 b2 h1' h2' h3' h4' hkk ho
  · intro k b' h1 h2 ho
    by_cases hk : k = n
    · subst hk; exact .inl (Env.set_rm ..)
    · obtain ⟨h1, h2⟩ := other hk h1 h2
      rw [(Env.set_ne e hk).rm, (Env.set_ne e hk).id]
      exact h.own k b' h1 h2 ho
theorem Real.phantom (h : Real c s e a w) {n : Nat} (hm : ¬ c.gv n) (hn : s (.l n) = none) : Real c (upd s (wsNew n (.m true []))) (e.set n 0 0 0) a w :=
  h.withW (h.W.phantom hm hn) (fun i => wsNew_t) (fun k hk => ⟨(wsNew_live (not_live hn hk)).1, (Env.set_ne e (not_live hn hk)).symm⟩) (fun k hk => by
    have : k ≠ n := not_live hn (by rw [(h.fml k hk).1]; simp)
    rw [wsNew_l, wsNew_b, if_neg (fun e => this e.symm), if_neg (fun e => this e.symm)]; exact ⟨rfl, rfl⟩)
theorem steal_eq {n m : Nat} {b : B} (h : n ≠ m) : upd s (wsSteal n m b) = upd (upd s [(.l n, .l false)]) (wsNew m b) := by
  funext q
  cases q with
  | t i => rw [wsNew_t]; unfold wsSteal; rw [upd_cons_ne _ _ _ (by simp), wsNew_t, upd_cons_ne _ _ _ (by simp), upd_nil]
  | b k => rw [wsNew_b]; unfold wsSteal; rw [upd_cons_ne _ _ _ (by simp), wsNew_b, upd_cons_ne _ _ _ (by simp), upd_nil]
  | l k =>
    rw [wsNew_l]; unfold wsSteal; rw [upd_cons, wsNew_l, upd_cons, upd_nil]
    by_cases hk : n = k
    · subst hk; rw [if_pos rfl, if_neg (fun e => h e.symm), if_pos rfl]
    · simp [hk]
/-- What is appended: k places, of z cells each. -/
def SrcOk (c : Ctx) (σ : Sf) (x : Operand) (k z : Nat) (vs : List C) (ks : List Key) : Prop :=
  ∀ s e a w, (∀ q ∈ ks, s q = σ q) → Real c s e a w → ∃ us : List Value, us.length = k * z ∧ OkL s e vs us ∧ (∀ n ∈ vs.flatMap C.names, s (.l n) ≠ none) ∧
    ∀ w', w'.heap = w.heap → (Builtin.lenOf (a.eval x)).run c.P w' = .ok k w' ∧ (Builtin.firstCells z k (a.eval x)).run c.P w' = .ok us.toArray w'
theorem first_zero {P : Program} {z : Nat} {p : Option Addr} {cap : Nat} {w : World} : (Builtin.firstCells z 0 (.slice p 0 cap)).run P w = .ok #[] w := by
  cases p with
  | none => simp [Builtin.firstCells]
  | some p => simp [Builtin.firstCells, loadCells, loadCellsFrom]
theorem src_nil {x : Operand} {z : Nat} {cap : Nat} {p : Option Addr} (hx : opv σ x = some (.c (.v (.slice p 0 cap)))) : SrcOk c σ x 0 z [] (opk x) := by
  intro s e a w hag hR
  have ex := ev1v hx hag (fun q h => h) hR
  exact ⟨[], by simp, rfl, fun n hn => by simp at hn, fun w' _ => ⟨by rw [ex]; rfl, by rw [ex]; exact first_zero⟩⟩
theorem first_some {P : Program} {z k : Nat} {b o cap : Nat} {us : List Value} {w w' : World} (hw : w'.heap = w.heap) (hl : us.length = k * z) (h : w.rangeAt b o us) : (Builtin.firstCells z k (.slice (some ⟨b, o, none⟩) k cap)).run P w' = .ok us.toArray w' :=
  run_firstCells_some (P := P) w' z k ⟨b, o, none⟩ k cap us hl (fun j v hv => by
    rw [Addr.add_mid]
    have := h j v hv
    simpa [World.cell?, hw] using this)
theorem src_s {x : Operand} {n o k cap z : Nat} {b : B} {own : Bool} {l : List C} (hx : opv σ x = some (.c (.s n o k cap))) (ha : σ (.l n) = some (.l true)) (hb : σ (.b n) = some (.b b)) (hl : b.cellsC = some (own, l)) (hle : o + k * z ≤ l.length) : SrcOk c σ x k z ((l.drop o).take (k * z)) (.l n :: .b n :: opk x) := by
  intro s e a w hag hR
  have ex := ev1r hx hag (fun q h => by simp [h]) hR rfl ha (by simp)
  have hb' : s (.b n) = some (.b b) := by rw [hag _ (by simp)]; exact hb
  have hM := hR.W.cells (n := n) (by rw [hag _ (by simp)]; exact ha) hb' hl
  obtain ⟨us, h1, h2, h3⟩ := hM.range o (k * z) hle
  refine ⟨us, h1, h2, fun m hm => hR.W.cl.1 (.b n) (.b b) hb' m ?_, fun w' hw => ?_⟩
  · show m ∈ b.names
    rw [← B.cellsC_names hl]
    simp only [List.mem_flatMap] at hm ⊢
    obtain ⟨y, hy, hm⟩ := hm
    exact ⟨y, List.mem_of_mem_drop (List.mem_of_mem_take hy), hm⟩
  · rcases ex with ex | ⟨rfl, rfl, p, ex⟩
    · exact ⟨by rw [ex]; rfl, by rw [ex]; exact first_some hw h1 h3⟩
    · have : us = [] := List.eq_nil_of_length_eq_zero (by rw [h1]; simp)
      exact ⟨by rw [ex]; rfl, by rw [ex, this]; exact first_zero⟩
theorem src_g {x : Operand} {n o k lb z z' : Nat} {b : B} {own : Bool} {l : List C} (hx : opv σ x = some (.c (.g n o k lb z'))) (ha : σ (.l n) = some (.l true)) (hb : σ (.b n) = some (.b b)) (hl : b.cellsC = some (own, l)) (hle : o + k * z ≤ l.length) : SrcOk c σ x k z ((l.drop o).take (k * z)) (.l n :: .b n :: opk x) := by
  intro s e a w hag hR
  have ex := ev1r hx hag (fun q h => by simp [h]) hR rfl ha (by simp)
  have hb' : s (.b n) = some (.b b) := by rw [hag _ (by simp)]; exact hb
  have hM := hR.W.cells (n := n) (by rw [hag _ (by simp)]; exact ha) hb' hl
  obtain ⟨us, h1, h2, h3⟩ := hM.range o (k * z) hle
  refine ⟨us, h1, h2, fun m hm => hR.W.cl.1 (.b n) (.b b) hb' m ?_, fun w' hw => ?_⟩
  · show m ∈ b.names
    rw [← B.cellsC_names hl]
    simp only [List.mem_flatMap] at hm ⊢
    obtain ⟨y, hy, hm⟩ := hm
    exact ⟨y, List.mem_of_mem_drop (List.mem_of_mem_take hy), hm⟩
  · rcases ex with ⟨cap, ex, _⟩ | ⟨rfl, rfl, p, ex⟩
    · exact ⟨by rw [ex]; rfl, by rw [ex]; exact first_some hw h1 h3⟩
    · have : us = [] := List.eq_nil_of_length_eq_zero (by rw [h1]; simp)
      exact ⟨by rw [ex]; rfl, by rw [ex, this]; exact first_zero⟩
def u8V (b : UInt8) : Value := .int .u8 b.toNat
theorem u8V_one (l : List UInt8) : (l.map u8V).all (·.oneCell') = true := by
  rw [List.all_map]; exact List.all_eq_true.2 fun x _ => rfl
theorem src_str {x : Operand} {b : ByteArray} (hx : opv σ x = some (.c (.v (.string b)))) : SrcOk c σ x b.data.toList.length 1 ((b.data.toList.map u8V).map C.v) (opk x) := by
  intro s e a w hag hR
  have ex := ev1v hx hag (fun q h => h) hR
  refine ⟨b.data.toList.map u8V, by simp, OkL.plain _ (u8V_one _), ?_, fun w' _ => ?_⟩
  · intro n hn; rw [plain_names] at hn; cases hn
  have e1 : b.data.toList.length = b.size := by simp
  refine ⟨by rw [ex, e1]; rfl, ?_⟩
  rw [ex]
  simp only [Builtin.firstCells, Sem.run_pure]
  have e2 : b.extract 0 b.data.toList.length = b := by
    rw [e1]; exact ByteArray.extract_zero_size
  rw [e2]
  congr 1
  apply Array.ext'
  simp [u8V, Function.comp_def]
/-- What is asked of the types. -/
structure AppT (P : Program) (t t2 el : TypeId) (z : Nat) (i : TypeInfo) (zv : Value) (need : Nat) : Prop where
  ht : P.underlying t = some (.slice el)
  h2 : P.underlying t2 = some .string ∨ ∃ x, P.underlying t2 = some (.slice x)
  hi : P.info? el = some i
  hs : i.size = z
  hz : i.zero = some zv
  zl : zv.cells.size = z
  fit : need * i.bytes ≤ 140737488355328 ∧ need ≤ 140737488355328
theorem run_app_fit {P : Program} {t t2 el ty : TypeId} {z : Nat} {i : TypeInfo} {zv : Value} {len cap k : Nat} {p : Option Addr} {X : Value} {us : List Value} (hT : AppT P t t2 el z i zv (len + k)) (hk : (Builtin.lenOf X).run P w = .ok k w) (hf : (Builtin.firstCells z k X).run P w = .ok us.toArray w) (hfit : len + k ≤ cap) {w' : World}
    (hst : ∀ q, p = some q → (storeCells (q.add (len * z)) us).run P w = .ok () w') (hno : p = none → w' = w) : (Builtin.append_ #[t, t2] ty #[.slice p len cap, X]).run P w = .ok (.slice p (len + k) cap) w' := by
  have hz := hT.hs
  subst hz
  rcases hT.h2 with hd | ⟨x, hd⟩
  all_goals
    simp [Builtin.append_, run_underlying hT.ht, run_underlying hd, sizeOf, typeInfo, hT.hi, hk, hfit, hf]
    cases p with
    | none => rw [hno rfl]; simp
    | some q => simp [hst q rfl]
theorem run_app_new {P : Program} {t t2 el ty : TypeId} {z : Nat} {i : TypeInfo} {zv : Value} {len cap k : Nat} {p : Option Addr} {X : Value} {us olds : List Value} (hT : AppT P t t2 el z i zv (len + k)) (hk : (Builtin.lenOf X).run P w = .ok k w) (hf : (Builtin.firstCells z k X).run P w.drew = .ok us.toArray w.drew) (hfit : ¬ len + k ≤ cap)
    (ho : (Builtin.firstCells z len (.slice p len cap)).run P w.drew = .ok olds.toArray w.drew) :
    ∃ zr : List Value, zr.length = (grownCap w (len + k) cap el - (len + k)) * z ∧ (Builtin.append_ #[t, t2] ty #[.slice p len cap, X]).run P w = .ok (.slice (some ⟨w.heap.size, 0, none⟩) (len + k) (grownCap w (len + k) cap el)) (w.drew.alloc (.cells (olds ++ us ++ zr).toArray el)) := by
  have hz := hT.hs
  subst hz
  have h1 := hT.fit.1
  have h2 := hT.fit.2
  have h63 : ¬ (9223372036854775807 < ((len : Int) + (k : Int))) := by omega
  have h48 := growslice_fits (need := len + k) (old := cap) (bytes := i.bytes) (by omega) h1
  have h48' : ¬ (281474976710656 < Builtin.nextslicecap (len + k) cap * i.bytes) := by omega
  refine ⟨(Builtin.zeroCells zv.cells (grownCap w (len + k) cap el - (len + k))).toList, by simp [size_zeroCells, hT.zl], ?_⟩
  rcases hT.h2 with hd | ⟨x, hd⟩
  all_goals
    simp [Builtin.append_, run_underlying hT.ht, run_underlying hd, sizeOf, typeInfo, zeroValue, hT.hi, hT.hz, hk, hfit, h63, h48', Question.forced, hf, ho, newRow, grownCap]
    try (congr 2; apply Array.ext'; simp [List.append_assoc])
end
end Go.Proofs.YtafhojmnbpegpaaGreat.EV
namespace Go.Proofs.YtafhojmnbpegpaaGreat.EV
open Go.RowKit
section
variable {c : Ctx} {F : Fence} {nn : Nat} {σ s : Sf} {e : Env} {a : Act} {w : World}
theorem OkL.append : ∀ {l m : List C} {us vs : List Value}, OkL s e l us → OkL s e m vs → OkL s e (l ++ m) (us ++ vs)
  | [], _, _, _, h, k => by rw [show _ = [] from h]; exact k
  | x :: l, m, _, vs, ⟨u, r, hu, h1, h2⟩, k => by subst hu; exact ⟨u, r ++ vs, rfl, h1, h2.append k⟩
theorem cellsC_ok {n : Nat} {b : B} {own : Bool} {l : List C} (hl : b.cellsC = some (own, l)) (h : MOk s e w n own l) : BOk s e w n b := by
  cases b with
  | m o l' => cases hl; exact h
  | w o l' => simp only [B.cellsC, Option.some.injEq, Prod.mk.injEq] at hl; obtain ⟨rfl, rfl⟩ := hl; exact h
  | _ => cases hl
theorem cellsC_own {b : B} {own : Bool} {l : List C} (hl : b.cellsC = some (own, l)) : b.own = own ∧ b ≠ .df := by
  cases b with
  | m o l' => cases hl; exact ⟨rfl, by simp⟩
  | w o l' => cases hl; exact ⟨rfl, by simp⟩
  | _ => cases hl
/-- The name m takes what is new. -/
theorem Real.grown (h : Real c s e a w) {m k z cap : Nat} {vs : List C} {all : List Value} {el : TypeId} {b' : B} (hm : ¬ c.gv m) (hn : s (.l m) = none) (hcap : k ≤ cap) (hml : cap ≤ maxLen) (hv : OkL s e vs (all.take (k * z))) (hlen : all.length = cap * z) (hnm : ∀ j ∈ vs.flatMap C.names, s (.l j) ≠ none) (hb' : b'.cellsC = some (true, vs)) :
    Real c (upd s (wsNew m b')) (e.set m w.heap.size 0 all.length) a (w.alloc (.cells all.toArray el)) ∧ Rep (e.set m w.heap.size 0 all.length) (.g m 0 k k z) (.slice (some ⟨w.heap.size, 0, none⟩) k cap) := by
  refine ⟨h.new hm hn _ _ (cellsC_ok hb' ?_) (fun j hj => .inr (hnm j (by rw [B.cellsC_names hb']; exact hj))), .inl ⟨cap, by simp [Env.set_id, Env.set_bs], hcap, hcap, hml, by rw [Env.set_rm, hlen]; omega⟩⟩
  have hlv := hv.length
  rw [List.length_take] at hlv
  have hle : k * z ≤ cap * z := Nat.mul_le_mul_right z hcap
  refine ⟨by rw [Env.set_rm]; omega, .inr ⟨all.toArray, el, (0, 0), by rw [Env.set_id]; exact World.alloc_heap_new w _, fun _ => .inl rfl, by rw [Env.set_bs, Env.set_rm]; simp, fun i x hx => ?_⟩⟩
  obtain ⟨u, h1, h2⟩ := hv.get hx
  rw [List.getElem?_take] at h1
  split at h1
  · exact ⟨u, by rw [Env.set_bs]; simpa using h1, h2.mono fun j hj => by
      have hj' : s (.l j) ≠ none := hnm j (List.mem_flatMap.2 ⟨x, List.mem_of_getElem? hx, hj⟩)
      exact ⟨(wsNew_live (not_live hn hj')).1, (Env.set_ne e (not_live hn hj')).symm⟩⟩
  · cases h1
theorem Real.void (h : Real c s e a w) {m z : Nat} {p : Option Addr} {b' : B} (hm : ¬ c.gv m) (hn : s (.l m) = none) (hb' : b'.cellsC = some (true, [])) :
    Real c (upd s (wsNew m b')) (e.set m 0 0 0) a w ∧ Rep (e.set m 0 0 0) (.g m 0 0 0 z) (.slice p 0 0) := by
  refine ⟨?_, .inr ⟨rfl, rfl, p, rfl⟩⟩
  have h1 := h.phantom hm hn
  refine h1.withW ?_ (fun i => by rw [wsNew_t, wsNew_t]) (fun k hk => ⟨fun hx => by unfold live at *; rw [wsNew_l] at hx ⊢; exact hx, .rfl⟩) (fun k hk => by
    have hne : m ≠ k := fun e => by
      have := (h1.fml k hk).2
      rw [wsNew_b, if_pos e] at this; cases this
    rw [wsNew_l, wsNew_l, wsNew_b, wsNew_b, if_neg hne, if_neg hne, if_neg hne]; exact ⟨rfl, rfl⟩)
  have hw := h1.W
  have hbm : ∀ k, upd s (wsNew m b') (.l k) = upd s (wsNew m (.m true [])) (.l k) := fun k => by rw [wsNew_l, wsNew_l]
  have hlv : ∀ k, live (upd s (wsNew m b')) k → live (upd s (wsNew m (.m true []))) k := fun k hk => by unfold live at *; rw [← hbm]; exact hk
  have hbb : ∀ k, k ≠ m → upd s (wsNew m b') (.b k) = upd s (wsNew m (.m true [])) (.b k) := fun k hk => by rw [wsNew_b, wsNew_b, if_neg (fun e => hk e.symm), if_neg (fun e => hk e.symm)]
  have hbo : ∀ k b2, upd s (wsNew m b') (.b k) = some (.b b2) → ∃ b3, upd s (wsNew m (.m true [])) (.b k) = some (.b b3) ∧ b3.own = b2.own := fun k b2 hk => by
    by_cases hkm : k = m
    · subst hkm
      rw [wsNew_b, if_pos rfl] at hk; cases hk
      exact ⟨.m true [], by rw [wsNew_b, if_pos rfl], (cellsC_own hb').1.symm⟩
    · rw [hbb k hkm] at hk; exact ⟨b2, hk, rfl⟩
  refine ⟨fun k b2 h1 h2 => ?_, fun k k' b1 b2 h1 h2 h3 h4 hkk ho => ?_, fun k b2 h1 h2 ho => ?_, h.W.cl.new (fun k hk => by rw [← B.cellsC_names hb'] at hk; cases hk), hw.given, hw.os, hw.tape, hw.output, hw.size, hw.old⟩
  · rw [hbm] at h1
    by_cases hkm : k = m
    · subst hkm
      rw [wsNew_b, if_pos rfl] at h2; cases h2
      exact cellsC_ok hb' ⟨Nat.zero_le _, .inl (Env.set_rm ..)⟩
    · rw [hbb k hkm] at h2
      exact (hw.blk k b2 h1 h2).mono (fun j _ => ⟨hlv j, .rfl⟩) .rfl (fun _ => rfl)
  · rw [hbm] at h1 h3
    obtain ⟨b3, h5, h6⟩ := hbo k b1 h2
    obtain ⟨b4, h7, h8⟩ := hbo k' b2 h4
    exact hw.sep k k' b3 b4 h1 h5 h3 h7 hkk (h6.trans ho)
  · rw [hbm] at h1
    obtain ⟨b3, h5, h6⟩ := hbo k b2 h2
    exact hw.own k b3 h1 h5 (h6.trans ho)
/-- Appending to what one owns: the name is given up. -/
theorem Real.append (hR : Real c s e a w) {n m o len k z : Nat} {b b' : B} {l vs : List C} {t t2 el ty : TypeId} {i : TypeInfo} {zv : Value} {u X : Value} {us : List Value} (hm : ¬ c.gv m) (hn : s (.l m) = none) (ha : s (.l n) = some (.l true)) (hb : s (.b n) = some (.b b)) (hl : b.cellsC = some (true, l)) (hle : o + len * z ≤ l.length)
    (hu : (∃ kk, u = .slice (some ⟨e.id n, e.bs n + o, none⟩) len kk ∧ len ≤ kk ∧ kk ≤ maxLen ∧ o + kk * z ≤ e.rm n) ∨ (len = 0 ∧ ∃ p, u = .slice p 0 0)) (hT : AppT c.P t t2 el z i zv (len + k)) (hlu : us.length = k * z) (hv : OkL s e vs us) (hnm : ∀ j ∈ vs.flatMap C.names, s (.l j) ≠ none)
    (hX : ∀ w', w'.heap = w.heap → (Builtin.lenOf X).run c.P w' = .ok k w' ∧ (Builtin.firstCells z k X).run c.P w' = .ok us.toArray w') (hb' : b'.cellsC = some (true, (l.drop o).take (len * z) ++ vs)) :
    ∃ r w' e', (Builtin.append_ #[t, t2] ty #[u, X]).run c.P w = .ok r w' ∧ Real c (upd s (wsSteal n m b')) e' a w' ∧ Rep e' (.g m 0 (len + k) (len + k) z) r := by
  have hnem : n ≠ m := fun e => by rw [← e, ha] at hn; cases hn
  have hM := hR.W.cells ha hb hl
  obtain ⟨olds, h1, h2, h3⟩ := hM.range o (len * z) hle
  have hfit := hT.fit
  have hmaxLen : len + k ≤ maxLen := by have : maxLen = 140737488351232 ∨ True := .inr trivial; simp only [maxLen]; omega
  -- the name given up
  have hk : Real c (upd s [(.l n, .l false)]) e a w := hR.kill hb (cellsC_own hl).2
  have hnk : upd s [(.l n, .l false)] (.l m) = none := by rw [upd_cons_ne _ _ _ (by simpa using hnem), upd_nil]; exact hn
  have hmo : ∀ j, Mo s e (upd s [(.l n, .l false)]) e j := fun j => ⟨fun hx => by
    unfold live at *; rw [upd_cons, upd_nil] at hx; split at hx
    · cases hx
    · exact hx, .rfl⟩
  have hnk2 : ∀ j, s (.l j) ≠ none → upd s [(.l n, .l false)] (.l j) ≠ none := fun j hj => by
    rw [upd_cons, upd_nil]; split
    · simp
    · exact hj
  have hold_nm : ∀ j ∈ ((l.drop o).take (len * z)).flatMap C.names, s (.l j) ≠ none := fun j hj => by
    refine hR.W.cl.1 (.b n) (.b b) hb j ?_
    show j ∈ b.names
    rw [← B.cellsC_names hl]
    simp only [List.mem_flatMap] at hj ⊢
    obtain ⟨y, hy, hj⟩ := hj
    exact ⟨y, List.mem_of_mem_drop (List.mem_of_mem_take hy), hj⟩
  have hall_nm : ∀ j ∈ ((l.drop o).take (len * z) ++ vs).flatMap C.names, s (.l j) ≠ none := fun j hj => by
    rw [List.flatMap_append] at hj
    rcases List.mem_append.1 hj with hj | hj
    · exact hold_nm j hj
    · exact hnm j hj
  have hboth := h2.append hv
  have hnew : ∀ {cap0 p}, u = .slice p len cap0 → ¬ len + k ≤ cap0 → (Builtin.firstCells z len (.slice p len cap0)).run c.P w.drew = .ok olds.toArray w.drew →
      ∃ r w' e', (Builtin.append_ #[t, t2] ty #[u, X]).run c.P w = .ok r w' ∧ Real c (upd s (wsSteal n m b')) e' a w' ∧ Rep e' (.g m 0 (len + k) (len + k) z) r := by
    intro cap0 p hu0 hnf hfo
    obtain ⟨zr, hz1, hrun⟩ := run_app_new (ty := ty) (w := w) hT (hX w rfl).1 (hX w.drew rfl).2 hnf hfo
    have hge := grownCap_ge w (len + k) cap0 el
    have hgl := grownCap_le_maxLen w (len + k) cap0 el hmaxLen
    have hlen : (olds ++ us ++ zr).length = grownCap w (len + k) cap0 el * z := by
      simp only [List.length_append, h1, hlu, hz1, ← Nat.add_mul]; congr 1; omega
    have htk : (olds ++ us ++ zr).take ((len + k) * z) = olds ++ us := by
      rw [List.take_append_of_le_length (by simp [h1, hlu, Nat.add_mul]), List.take_of_length_le (by simp [h1, hlu, Nat.add_mul])]
    obtain ⟨g1, g2⟩ := (hk.drawn (w.drawn + 1)).grown (z := z) (k := len + k) (el := el) (b' := b') (vs := (l.drop o).take (len * z) ++ vs) (all := olds ++ us ++ zr) hm hnk hge hgl (by rw [htk]; exact hboth.mono fun j _ => hmo j) hlen (fun j hj => hnk2 j (hall_nm j hj)) hb'
    refine ⟨_, _, _, by rw [hu0]; exact hrun, ?_, g2⟩
    rw [steal_eq hnem]; exact g1
  rcases hu with ⟨kk, hu, hk1, hk2, hk3⟩ | ⟨hlen0, p, hu⟩
  · by_cases hfitc : len + k ≤ kk
    · -- there is room
      have hroom : o + len * z + k * z ≤ e.rm n := by
        have : (len + k) * z ≤ kk * z := Nat.mul_le_mul_right z hfitc
        rw [Nat.add_mul] at this; omega
      have hst : (storeCells ((⟨e.id n, e.bs n + o, none⟩ : Addr).add (len * z)) us).run c.P w = .ok () (w.setCells (e.id n) (e.bs n + o + len * z) us) ∧ (e.rm n = 0 → w.setCells (e.id n) (e.bs n + o + len * z) us = w) ∧
          BOk (upd s (wsSteal n m b')) (e.set m (e.id n) (e.bs n + o) (e.rm n - o)) (w.setCells (e.id n) (e.bs n + o + len * z) us) m b' := by
        rcases hM.2 with h0 | ⟨cs, cty, fz, c1, c2, c3, c4⟩
        · have hus : us = [] := List.eq_nil_of_length_eq_zero (by omega)
          subst hus
          refine ⟨rfl, fun _ => rfl, cellsC_ok hb' ⟨?_, .inl (by rw [Env.set_rm, h0]; omega)⟩⟩
          have := hv.length; simp at this
          simp [this] at hle ⊢
          have : ((l.drop o).take (len * z)).length = len * z := by simp; omega
          rw [Env.set_rm]; simp at this; omega
        · obtain ⟨cs', g1, g2, g3⟩ := setCells_spec (e.id n) us (e.bs n + o + len * z) w cs cty fz c1
          refine ⟨?_, fun h0 => ?_, cellsC_ok hb' ⟨?_, .inr ⟨cs', cty, fz, by rw [Env.set_id]; exact g1, fun _ => ?_, ?_, fun i x hx => ?_⟩⟩⟩
          · rw [add_mid]
            have := run_storeCells_cells (P := c.P) (e.id n) (e.bs n + o + len * z) us 0 w (fun j hj => by simp [World.cell?, c1]; omega) (fun j hj => by
              have := unfroz (c2 rfl) (i := o + len * z + j) (by omega)
              simp only [World.frozen?, c1]
              rw [← Bool.not_eq_true]
              intro hb
              simp only [Bool.and_eq_true, decide_eq_true_eq] at hb
              exact this ⟨by omega, by omega⟩) (fun v hv' => hv.all_one v hv')
            simpa using this
          · have hus : us = [] := List.eq_nil_of_length_eq_zero (by omega)
            subst hus; rfl
          · have h5 : ((l.drop o).take (len * z)).length = len * z := by simp; omega
            rw [Env.set_rm, List.length_append, h5, ← hv.length, hlu]; omega
          · rw [Env.set_rm, Env.set_bs]
            have := c2 rfl
            omega
          · rw [Env.set_bs, Env.set_rm, g2]; omega
          · rw [Env.set_bs, g3]
            have h5 : ((l.drop o).take (len * z)).length = len * z := by simp; omega
            have hmo2 : ∀ j, s (.l j) ≠ none → Mo s e (upd s (wsSteal n m b')) (e.set m (e.id n) (e.bs n + o) (e.rm n - o)) j := fun j hj => ⟨fun hx => by
              unfold live at *
              rw [steal_eq hnem, wsNew_l, if_neg (fun e => not_live hn hj e.symm)] at hx
              exact (hmo j).1 hx, (Env.set_ne e (not_live hn hj)).symm⟩
            have hxm : ∀ j ∈ x.names, Mo s e (upd s (wsSteal n m b')) (e.set m (e.id n) (e.bs n + o) (e.rm n - o)) j := fun j hj => hmo2 j (hall_nm j (List.mem_flatMap.2 ⟨x, List.mem_of_getElem? hx, hj⟩))
            by_cases hi : i < len * z
            · rw [if_neg (by omega)]
              rw [List.getElem?_append_left (by omega), List.getElem?_take, if_pos hi, List.getElem?_drop] at hx
              obtain ⟨v, h6, h7⟩ := c4 (o + i) x hx
              exact ⟨v, by rw [← h6, Nat.add_assoc], h7.mono hxm⟩
            · rw [List.getElem?_append_right (by omega), h5] at hx
              obtain ⟨v, h6, h7⟩ := hv.get hx
              have hil : i - len * z < us.length := (List.getElem?_eq_some_iff.1 h6).1
              rw [if_pos (by omega), show e.bs n + o + i - (e.bs n + o + len * z) = i - len * z by omega]
              exact ⟨v, h6, h7.mono hxm⟩
      obtain ⟨s1, s2, s3⟩ := hst
      have hg := setCells_grown (e.id n) us (e.bs n + o + len * z) w
      refine ⟨.slice (some ⟨e.id n, e.bs n + o, none⟩) (len + k) kk, _, _, ?_, hR.steal (o := o) hm hn ha hb (cellsC_own hl).2 (cellsC_own hl).1 (fun k hk => setCells_other _ _ _ _ k hk) s2 hg.size hg.os hg.tape hg.output s3 (fun j hj => hall_nm j (by rw [B.cellsC_names hb']; exact hj)), .inl ⟨kk, ?_, hfitc, hfitc, hk2, ?_⟩⟩
      · rw [hu]
        exact run_app_fit (ty := ty) hT (hX w rfl).1 (hX w rfl).2 hfitc (fun q hq => by cases hq; exact s1) (fun hq => by cases hq)
      · rw [Env.set_id, Env.set_bs]; rfl
      · rw [Env.set_rm]; omega
    · exact hnew hu hfitc (first_some rfl h1 h3)
  · have hold : olds = [] := List.eq_nil_of_length_eq_zero (by rw [h1, hlen0]; simp)
    by_cases hk0 : k = 0
    · subst hk0; subst hlen0
      have hus : us = [] := List.eq_nil_of_length_eq_zero (by rw [hlu]; simp)
      have hvs : vs = [] := List.eq_nil_of_length_eq_zero (by rw [← hv.length, hus]; rfl)
      subst hvs
      have hb2 : b'.cellsC = some (true, []) := by rw [hb']; simp
      obtain ⟨g1, g2⟩ := hk.void (z := z) (p := p) hm hnk hb2
      refine ⟨.slice p 0 0, w, _, ?_, by rw [steal_eq hnem]; exact g1, g2⟩
      rw [hu]
      have := run_app_fit (ty := ty) (p := p) (cap := 0) (len := 0) (w := w) (w' := w) hT (hX w rfl).1 (hX w rfl).2 (by omega) (fun q hq => by rw [hus]; rfl) (fun _ => rfl)
      simpa using this
    · subst hlen0
      exact hnew (cap0 := 0) (p := p) hu (by omega) (by rw [hold]; exact first_zero)
end
end Go.Proofs.YtafhojmnbpegpaaGreat.EV
namespace Go.Proofs.YtafhojmnbpegpaaGreat.EV
open Go.RowKit
section
variable {c : Ctx} {F : Fence} {nn : Nat} {σ s : Sf} {e : Env} {a : Act} {w : World}
theorem Real.append0 (hR : Real c s e a w) {m k z : Nat} {b' : B} {vs : List C} {t t2 el ty : TypeId} {i : TypeInfo} {zv X : Value} {p : Option Addr} {us : List Value} (hm : ¬ c.gv m) (hn : s (.l m) = none)
    (hT : AppT c.P t t2 el z i zv (0 + k)) (hlu : us.length = k * z) (hv : OkL s e vs us) (hnm : ∀ j ∈ vs.flatMap C.names, s (.l j) ≠ none)
    (hX : ∀ w', w'.heap = w.heap → (Builtin.lenOf X).run c.P w' = .ok k w' ∧ (Builtin.firstCells z k X).run c.P w' = .ok us.toArray w') (hb' : b'.cellsC = some (true, vs)) :
    ∃ r w' e', (Builtin.append_ #[t, t2] ty #[.slice p 0 0, X]).run c.P w = .ok r w' ∧ Real c (upd s (wsNew m b')) e' a w' ∧ Rep e' (.g m 0 k k z) r := by
  by_cases hk0 : k = 0
  · subst hk0
    have hus : us = [] := List.eq_nil_of_length_eq_zero (by rw [hlu]; simp)
    have hvs : vs = [] := List.eq_nil_of_length_eq_zero (by rw [← hv.length, hus]; rfl)
    subst hvs
    obtain ⟨g1, g2⟩ := hR.void (z := z) (p := p) hm hn hb'
    refine ⟨.slice p 0 0, w, _, ?_, g1, g2⟩
    have := run_app_fit (ty := ty) (p := p) (cap := 0) (len := 0) (w := w) (w' := w) hT (hX w rfl).1 (hX w rfl).2 (by omega) (fun q hq => by rw [hus]; rfl) (fun _ => rfl)
    simpa using this
  · obtain ⟨zr, hz1, hrun⟩ := run_app_new (ty := ty) (w := w) (p := p) (cap := 0) (len := 0) (olds := []) hT (hX w rfl).1 (hX w.drew rfl).2 (by omega) first_zero
    have hge := grownCap_ge w (0 + k) 0 el
    have hgl := grownCap_le_maxLen w (0 + k) 0 el (by have := hT.fit.2; simp only [maxLen]; omega)
    have hlen : ([] ++ us ++ zr).length = grownCap w (0 + k) 0 el * z := by
      simp only [List.length_append, List.length_nil, Nat.zero_add, hlu, hz1, ← Nat.add_mul]; congr 1; simp only [Nat.zero_add] at hge; omega
    have htk : ([] ++ us ++ zr).take ((0 + k) * z) = us := by
      rw [List.nil_append, List.take_append_of_le_length (by simp [hlu]), List.take_of_length_le (by simp [hlu])]
    obtain ⟨g1, g2⟩ := (hR.drawn (w.drawn + 1)).grown (z := z) (k := 0 + k) (el := el) (b' := b') (vs := vs) (all := [] ++ us ++ zr) hm hn hge hgl (by rw [htk]; exact hv) hlen hnm hb'
    rw [Nat.zero_add] at g2 hrun
    exact ⟨_, _, _, hrun, g1, g2⟩
theorem new_names {m : Nat} {b : B} {x : C} (hx : x.names = [m]) : ∀ n ∈ (V.c x).names, upd s (wsNew m b) (.l n) ≠ none := fun n hn => by
  simp only [V.names, hx, List.mem_singleton] at hn; subst hn; exact new_alive
theorem steal_names {n m : Nat} {b : B} {x : C} (hx : x.names = [m]) (hne : n ≠ m) : ∀ j ∈ (V.c x).names, upd s (wsSteal n m b) (.l j) ≠ none := fun j hj => by
  simp only [V.names, hx, List.mem_singleton] at hj; subst hj; rw [steal_eq hne]; exact new_alive
theorem run_call_append {ρ : Operand → Value} {P : Program} {x y : Operand} {t t2 rt : TypeId} {d : Option Tmp} {pos : String} {af : Array Edge} {g : Option (Nat × Bool)} {r : Value} {w' : World} (h : (Builtin.append_ #[t, t2] rt #[ρ x, ρ y]).run P w = .ok r w') :
    (execOp ρ ⟨d, .call ⟨.builtin .append, #[x, y], #[t, t2]⟩, rt, pos, af, g⟩).run P w = .ok (.value r) w' := by
  simp only [execOp, resolve, Sem.run_bind, Sem.run_pure, Result.andThen_ok, invoke, builtin, List.map_toArray, List.map_cons, List.map_nil, h]
/-- An operation that does what append does. -/
structure AppOp (c : Ctx) (oo : Oper) (d : Option Tmp) (x y : Operand) (t t2 rt : TypeId) : Prop where
  dst : oo.dst = d
  nod : ∀ q, oo.op ≠ .defer q
  run : ∀ (a : Act) (w : World) (r : Value) (w' : World), (Builtin.append_ #[t, t2] rt #[a.eval x, a.eval y]).run c.P w = .ok r w' → (execOp a.eval oo).run c.P w = .ok (.value r) w'
theorem AppOp.self {x y : Operand} {t t2 rt : TypeId} {d : Option Tmp} {pos : String} {af : Array Edge} {g : Option (Nat × Bool)} : AppOp c ⟨d, .call ⟨.builtin .append, #[x, y], #[t, t2]⟩, rt, pos, af, g⟩ d x y t t2 rt :=
  ⟨rfl, noDefer rfl, fun _ _ _ _ h => run_call_append h⟩
theorem LocalO.appendG' (hF : WideLike F) {oo : Oper} {n m o len lb k z : Nat} {x y : Operand} {t t2 el rt : TypeId} {b b' : B} {l vs : List C} {ks : List Key} {i : TypeInfo} {zv : Value} {d : Option Tmp} (ho : AppOp c oo d x y t t2 rt) (hN : dOk c.N d = true)
    (hx : opv σ x = some (.c (.g n o len lb z))) (ha : σ (.l n) = some (.l true)) (hb : σ (.b n) = some (.b b)) (hl : b.cellsC = some (true, l)) (hle : o + len * z ≤ l.length) (hs : SrcOk c σ y k z vs ks) (hT : AppT c.P t t2 el z i zv (len + k)) (hm : ¬ c.gv m) (hn : σ (.l m) = none)
    (hb' : b'.cellsC = some (true, (l.drop o).take (len * z) ++ vs)) :
    LocalO c F nn oo σ ⟨kr (.l m :: .l n :: .b n :: (ks ++ opk x)), putW d (.c (.g m 0 (len + k) (len + k) z)) ++ wsSteal n m b'⟩ := by
  obtain ⟨rfl, hnod, hrun⟩ := ho
  refine LocalO.act hF hN hnod fun s e a w hag hR => ?_
  have hag' : ∀ q ∈ Key.l m :: .l n :: .b n :: (ks ++ opk x), s q = σ q := fun q hq => hag q (kr_iff.2 hq)
  have hn' : s (.l m) = none := by rw [hag' _ (by simp)]; exact hn
  have ex := ev1r hx hag' (fun q h => by simp [h]) hR rfl ha (by simp)
  obtain ⟨us, h1, h2, h3, h4⟩ := hs s e a w (fun q hq => hag' q (by simp [hq])) hR
  have ha' : s (.l n) = some (.l true) := by rw [hag' _ (by simp)]; exact ha
  obtain ⟨r, w', e', g1, g2, g3⟩ := hR.append (ty := rt) (o := o) (len := len) hm hn' ha' (by rw [hag' _ (by simp)]; exact hb) hl hle (u := a.eval x) (by
    rcases ex with ⟨kk, e1, e2, e3, e4, e5⟩ | ⟨e1, e2, p, e3⟩
    · exact .inl ⟨kk, e1, e2, e4, e5⟩
    · exact .inr ⟨e1, p, e3⟩) hT h1 h2 h3 h4 hb'
  exact ⟨r, w', e', hrun _ _ _ _ g1, g2, fun _ => g3, steal_names rfl (fun e => by rw [← e, ha'] at hn'; cases hn')⟩
theorem LocalO.appendS' (hF : WideLike F) {oo : Oper} {n m o len cap k z : Nat} {x y : Operand} {t t2 el rt : TypeId} {b b' : B} {l vs : List C} {ks : List Key} {i : TypeInfo} {zv : Value} {d : Option Tmp} (ho : AppOp c oo d x y t t2 rt) (hN : dOk c.N d = true)
    (hx : opv σ x = some (.c (.s n o len cap))) (ha : σ (.l n) = some (.l true)) (hb : σ (.b n) = some (.b b)) (hl : b.cellsC = some (true, l)) (hlc : len ≤ cap) (hcm : cap ≤ 140737488355328) (hle : o + cap * z ≤ l.length) (hs : SrcOk c σ y k z vs ks) (hT : AppT c.P t t2 el z i zv (len + k)) (hm : ¬ c.gv m) (hn : σ (.l m) = none)
    (hb' : b'.cellsC = some (true, (l.drop o).take (len * z) ++ vs)) :
    LocalO c F nn oo σ ⟨kr (.l m :: .l n :: .b n :: (ks ++ opk x)), putW d (.c (.g m 0 (len + k) (len + k) z)) ++ wsSteal n m b'⟩ := by
  obtain ⟨rfl, hnod, hrun⟩ := ho
  refine LocalO.act hF hN hnod fun s e a w hag hR => ?_
  have hag' : ∀ q ∈ Key.l m :: .l n :: .b n :: (ks ++ opk x), s q = σ q := fun q hq => hag q (kr_iff.2 hq)
  have hn' : s (.l m) = none := by rw [hag' _ (by simp)]; exact hn
  have ex := ev1r hx hag' (fun q h => by simp [h]) hR rfl ha (by simp)
  obtain ⟨us, h1, h2, h3, h4⟩ := hs s e a w (fun q hq => hag' q (by simp [hq])) hR
  have ha' : s (.l n) = some (.l true) := by rw [hag' _ (by simp)]; exact ha
  have hbs : s (.b n) = some (.b b) := by rw [hag' _ (by simp)]; exact hb
  have hM := hR.W.cells ha' hbs hl
  have hlz : len * z ≤ cap * z := Nat.mul_le_mul_right z hlc
  obtain ⟨r, w', e', g1, g2, g3⟩ := hR.append (ty := rt) (o := o) (len := len) hm hn' ha' hbs hl (by omega) (u := a.eval x) (by
    rcases ex with e1 | ⟨e1, e2, p, e3⟩
    · exact .inl ⟨cap, e1, hlc, by simp only [maxLen]; omega, by have := hM.1; omega⟩
    · exact .inr ⟨e1, p, e3⟩) hT h1 h2 h3 h4 hb'
  exact ⟨r, w', e', hrun _ _ _ _ g1, g2, fun _ => g3, steal_names rfl (fun e => by rw [← e, ha'] at hn'; cases hn')⟩
theorem LocalO.appendZ' (hF : WideLike F) {oo : Oper} {n m o k z : Nat} {x y : Operand} {t t2 el rt : TypeId} {b' : B} {vs : List C} {ks : List Key} {i : TypeInfo} {zv : Value} {d : Option Tmp} (ho : AppOp c oo d x y t t2 rt) (hN : dOk c.N d = true)
    (hx : opv σ x = some (.c (.s n o 0 0))) (ha : σ (.l n) = some (.l true)) (hs : SrcOk c σ y k z vs ks) (hT : AppT c.P t t2 el z i zv (0 + k)) (hm : ¬ c.gv m) (hn : σ (.l m) = none)
    (hb' : b'.cellsC = some (true, vs)) :
    LocalO c F nn oo σ ⟨kr (.l m :: .l n :: (ks ++ opk x)), putW d (.c (.g m 0 k k z)) ++ wsNew m b'⟩ := by
  obtain ⟨rfl, hnod, hrun⟩ := ho
  refine LocalO.act hF hN hnod fun s e a w hag hR => ?_
  have hag' : ∀ q ∈ Key.l m :: .l n :: (ks ++ opk x), s q = σ q := fun q hq => hag q (kr_iff.2 hq)
  have hn' : s (.l m) = none := by rw [hag' _ (by simp)]; exact hn
  have ex := ev1r hx hag' (fun q h => by simp [h]) hR rfl ha (by simp)
  obtain ⟨us, h1, h2, h3, h4⟩ := hs s e a w (fun q hq => hag' q (by simp [hq])) hR
  have hu : ∃ p, a.eval x = .slice p 0 0 := by
    rcases ex with e1 | ⟨_, _, p, e3⟩
    · exact ⟨_, e1⟩
    · exact ⟨p, e3⟩
  obtain ⟨p, hu⟩ := hu
  obtain ⟨r, w', e', g1, g2, g3⟩ := hR.append0 (ty := rt) (p := p) hm hn' hT h1 h2 h3 h4 hb'
  exact ⟨r, w', e', hrun _ _ _ _ (by rw [hu]; exact g1), g2, fun _ => g3, new_names rfl⟩
theorem LocalO.appendZ (hF : WideLike F) {n m o k z : Nat} {x y : Operand} {t t2 el rt : TypeId} {b' : B} {vs : List C} {ks : List Key} {i : TypeInfo} {zv : Value} {d : Option Tmp} {pos : String} {af : Array Edge} {g : Option (Nat × Bool)} (hN : dOk c.N d = true)
    (hx : opv σ x = some (.c (.s n o 0 0))) (ha : σ (.l n) = some (.l true)) (hs : SrcOk c σ y k z vs ks) (hT : AppT c.P t t2 el z i zv (0 + k)) (hm : ¬ c.gv m) (hn : σ (.l m) = none)
    (hb' : b'.cellsC = some (true, vs)) :
    LocalO c F nn ⟨d, .call ⟨.builtin .append, #[x, y], #[t, t2]⟩, rt, pos, af, g⟩ σ ⟨kr (.l m :: .l n :: (ks ++ opk x)), putW d (.c (.g m 0 k k z)) ++ wsNew m b'⟩ :=
  LocalO.appendZ' hF AppOp.self hN hx ha hs hT hm hn hb'
theorem LocalO.appendN' (hF : WideLike F) {oo : Oper} {m k z : Nat} {p : Option Addr} {x y : Operand} {t t2 el rt : TypeId} {b' : B} {vs : List C} {ks : List Key} {i : TypeInfo} {zv : Value} {d : Option Tmp} (ho : AppOp c oo d x y t t2 rt) (hN : dOk c.N d = true)
    (hx : opv σ x = some (.c (.v (.slice p 0 0)))) (hs : SrcOk c σ y k z vs ks) (hT : AppT c.P t t2 el z i zv (0 + k)) (hm : ¬ c.gv m) (hn : σ (.l m) = none)
    (hb' : b'.cellsC = some (true, vs)) :
    LocalO c F nn oo σ ⟨kr (.l m :: (ks ++ opk x)), putW d (.c (.g m 0 k k z)) ++ wsNew m b'⟩ := by
  obtain ⟨rfl, hnod, hrun⟩ := ho
  refine LocalO.act hF hN hnod fun s e a w hag hR => ?_
  have hag' : ∀ q ∈ Key.l m :: (ks ++ opk x), s q = σ q := fun q hq => hag q (kr_iff.2 hq)
  have hn' : s (.l m) = none := by rw [hag' _ (by simp)]; exact hn
  have hu := ev1v hx hag' (fun q h => by simp [h]) hR
  obtain ⟨us, h1, h2, h3, h4⟩ := hs s e a w (fun q hq => hag' q (by simp [hq])) hR
  obtain ⟨r, w', e', g1, g2, g3⟩ := hR.append0 (ty := rt) (p := p) hm hn' hT h1 h2 h3 h4 hb'
  exact ⟨r, w', e', hrun _ _ _ _ (by rw [hu]; exact g1), g2, fun _ => g3, new_names rfl⟩
theorem foldl_push : ∀ (bs : List UInt8) (r : ByteArray), (bs.map fun b => ((b.toNat : Nat) : Int)).foldl (fun r n => r.push (UInt8.ofNat n.toNat)) r = ⟨(r.data.toList ++ bs).toArray⟩
  | [], r => by simp
  | b :: bs, r => by
    rw [List.map_cons, List.foldl_cons, foldl_push bs]
    simp [ByteArray.push]
theorem run_bytes {P : Program} {b o len cap : Nat} {bs : List UInt8} (hl : bs.length = len) (h : w.rangeAt b o (bs.map u8V)) : (Conv.bytesToString (.slice (some ⟨b, o, none⟩) len cap)).run P w = .ok (.string ⟨bs.toArray⟩) w := by
  have hl' : (loadCells ⟨b, o, none⟩ len).run P w = .ok (bs.map u8V).toArray w := by
    rw [← hl, show bs.length = (bs.map u8V).length by simp]
    exact run_loadCells_list (P := P) w ⟨b, o, none⟩ (bs.map u8V) (fun j v hv => by rw [Addr.add_mid]; exact h j v hv)
  rw [run_bytesToString w ⟨b, o, none⟩ len cap (bs.map fun b => ((b.toNat : Nat) : Int)) (by rw [hl', List.map_map]; rfl), foldl_push]
  simp [ByteArray.empty, ByteArray.emptyWithCapacity]
  try rfl
theorem run_bytes0 {P : Program} {p : Option Addr} {cap : Nat} : (Conv.bytesToString (.slice p 0 cap)).run P w = .ok (.string ⟨#[]⟩) w := by
  cases p with
  | none => rfl
  | some p =>
    obtain ⟨b, o, sp⟩ := p
    have hl' : (loadCells ⟨b, o, sp⟩ 0).run P w = .ok ([] : List Value).toArray w := rfl
    rw [run_bytesToString w ⟨b, o, sp⟩ 0 cap [] (by simpa using hl')]; rfl
theorem run_conv {P : Program} {src dst el : TypeId} {p : Option Addr} {l k : Nat} {Z : Value} (hs : P.underlying src = some (.slice el)) (he : P.underlying el = some (.int .u8)) (hd : P.underlying dst = some .string) (h : (Conv.bytesToString (.slice p l k)).run P w = .ok Z w) : (convert src dst (.slice p l k)).run P w = .ok Z w := by
  rw [run_convert_bytes_string w src dst el p l k hs he hd]; exact h
theorem bytes_src {x : Operand} {n o len : Nat} {b : B} {own : Bool} {l : List C} {bs : List UInt8} {y : C} (hx : opv σ x = some (.c y)) (hy : (∃ cap, y = .s n o len cap) ∨ ∃ lb z, y = .g n o len lb z) (ha : σ (.l n) = some (.l true)) (hb : σ (.b n) = some (.b b)) (hl : b.cellsC = some (own, l)) (hle : o + len ≤ l.length)
    (hbs : (l.drop o).take len = (bs.map u8V).map C.v) {ks : List Key} (hag : ∀ q ∈ ks, s q = σ q) (hk1 : Key.l n ∈ ks) (hk2 : Key.b n ∈ ks) (hsub : ∀ q ∈ opk x, q ∈ ks) (hR : Real c s e a w) :
    ∃ p k, a.eval x = .slice p len k ∧ (Conv.bytesToString (.slice p len k)).run c.P w = .ok (.string ⟨bs.toArray⟩) w := by
  have ex := ev1r hx hag hsub hR (by rcases hy with ⟨_, rfl⟩ | ⟨_, _, rfl⟩ <;> rfl) ha hk1
  have hM := hR.W.cells (n := n) (by rw [hag _ hk1]; exact ha) (by rw [hag _ hk2]; exact hb) hl
  obtain ⟨us, h1, h2, h3⟩ := hM.range o len hle
  rw [hbs] at h2
  have hus := h2.eq
  rw [hus] at h1 h3
  have hlen : bs.length = len := by simpa using h1
  have zero : len = 0 → bs = [] := fun h => List.eq_nil_of_length_eq_zero (by omega)
  rcases hy with ⟨cap, rfl⟩ | ⟨lb, z, rfl⟩
  · rcases ex with ex | ⟨h0, h0', p, ex⟩
    · exact ⟨_, _, ex, run_bytes hlen h3⟩
    · exact ⟨p, 0, by rw [h0]; exact ex, by rw [h0, zero h0]; exact run_bytes0⟩
  · rcases ex with ⟨k, ex, _⟩ | ⟨h0, h0', p, ex⟩
    · exact ⟨_, _, ex, run_bytes hlen h3⟩
    · exact ⟨p, 0, by rw [h0]; exact ex, by rw [h0, zero h0]; exact run_bytes0⟩
theorem LocalO.text (hF : WideLike F) {n o len : Nat} {x : Operand} {y : C} {src dst el rt : TypeId} {b : B} {own : Bool} {l : List C} {bs : List UInt8} {d : Option Tmp} {pos : String} {af : Array Edge} {g : Option (Nat × Bool)} (hN : dOk c.N d = true)
    (hx : opv σ x = some (.c y)) (hy : (∃ cap, y = .s n o len cap) ∨ ∃ lb z, y = .g n o len lb z) (ha : σ (.l n) = some (.l true)) (hb : σ (.b n) = some (.b b)) (hl : b.cellsC = some (own, l)) (hle : o + len ≤ l.length) (hbs : (l.drop o).take len = (bs.map u8V).map C.v)
    (h1 : c.P.underlying src = some (.slice el)) (h2 : c.P.underlying el = some (.int .u8)) (h3 : c.P.underlying dst = some .string) :
    LocalO c F nn ⟨d, .convert src dst x, rt, pos, af, g⟩ σ ⟨kr (.l n :: .b n :: opk x), putW d (.c (.v (.string ⟨bs.toArray⟩)))⟩ := by
  refine LocalO.val hF hN (noDefer rfl) fun s e a w hag hR => ?_
  obtain ⟨p, k, e1, e2⟩ := bytes_src hx hy ha hb hl hle hbs (fun q hq => hag q (kr_iff.2 hq)) (by simp) (by simp) (fun q h => by simp [h]) hR
  refine ⟨_, ?_, Ok.of, fun m hm => by cases hm⟩
  simp only [execOp, e1]
  rw [Sem.run_bind, run_conv h1 h2 h3 e2]; rfl
theorem LocalO.textN (hF : WideLike F) {x : Operand} {k : Nat} {src dst el rt : TypeId} {d : Option Tmp} {pos : String} {af : Array Edge} {g : Option (Nat × Bool)} (hN : dOk c.N d = true) (hx : opv σ x = some (.c (.v (.slice none 0 k))))
    (h1 : c.P.underlying src = some (.slice el)) (h2 : c.P.underlying el = some (.int .u8)) (h3 : c.P.underlying dst = some .string) :
    LocalO c F nn ⟨d, .convert src dst x, rt, pos, af, g⟩ σ ⟨kr (opk x), putW d (.c (.v (.string ⟨#[]⟩)))⟩ := by
  refine LocalO.val hF hN (noDefer rfl) fun s e a w hag hR => ?_
  have ex := ev1v hx (fun q hq => hag q (kr_iff.2 hq)) (fun q h => h) hR
  refine ⟨_, ?_, Ok.of, fun m hm => by cases hm⟩
  simp only [execOp, ex]
  rw [Sem.run_bind, run_conv h1 h2 h3 run_bytes0]; rfl
theorem bytesWorld_alloc (w : World) (el : TypeId) (b : ByteArray) : Lib.bytesWorld w el b = w.drew.alloc (.cells (Lib.bytesCells w el b) el ((Lib.bytesCells w el b).size, (Lib.bytesCells w el b).size + 1)) := by
  have hh : (Lib.bytesWorld w el b).heap = (w.drew.alloc (.cells (Lib.bytesCells w el b) el ((Lib.bytesCells w el b).size, (Lib.bytesCells w el b).size + 1))).heap := by
    apply Array.ext
    · rw [Lib.bytesWorld_size, World.size_alloc]; rfl
    · intro i h1 h2
      have e1 : ∀ j, (Lib.bytesWorld w el b).heap[j]? = (w.drew.alloc (.cells (Lib.bytesCells w el b) el ((Lib.bytesCells w el b).size, (Lib.bytesCells w el b).size + 1))).heap[j]? := fun j => by
        by_cases hj : j < w.heap.size
        · rw [Lib.bytesWorld_at_old w el b j hj, Below.heap_alloc w.drew _ j hj]; rfl
        · by_cases hj2 : j = w.heap.size
          · subst hj2
            rw [Lib.bytesWorld_at_new]
            exact (World.alloc_heap_new w.drew _).symm
          · rw [Array.getElem?_eq_none (by rw [Lib.bytesWorld_size]; omega), Array.getElem?_eq_none (by rw [World.size_alloc]; show w.heap.size + 1 ≤ j; omega)]
      have := e1 i
      rw [Array.getElem?_eq_getElem h1, Array.getElem?_eq_getElem h2] at this
      exact Option.some.inj this
  have hf : (Lib.bytesWorld w el b) = { (Lib.bytesWorld w el b) with heap := (w.drew.alloc (.cells (Lib.bytesCells w el b) el ((Lib.bytesCells w el b).size, (Lib.bytesCells w el b).size + 1))).heap } := by rw [← hh]
  rw [hf]
  rfl
theorem LocalO.bytes (hF : WideLike F) {m k : Nat} {x : Operand} {b : ByteArray} {bs : List UInt8} {u : TypeDesc} {src dst el rt : TypeId} {d : Option Tmp} {pos : String} {af : Array Edge} {g : Option (Nat × Bool)} (hN : dOk c.N d = true) (hx : opv σ x = some (.c (.v (.string b)))) (hbs : b.data.toList = bs) (hk : bs.length = k) (hle : k ≤ 140737488355328) (hm : ¬ c.gv m) (hn : σ (.l m) = none)
    (h1 : c.P.underlying src = some u) (h2 : c.P.underlying dst = some (.slice el)) (h3 : c.P.underlying el = some (.int .u8)) :
    LocalO c F nn ⟨d, .convert src dst x, rt, pos, af, g⟩ σ ⟨kr (.l m :: opk x), putW d (.c (.g m 0 k k 1)) ++ wsNew m (.w true (bs.map u8V))⟩ := by
  refine LocalO.act hF hN (noDefer rfl) fun s e a w hag hR => ?_
  have ex := ev1v hx (fun q hq => hag q (kr_iff.2 hq)) (fun q h => by simp [h]) hR
  have hn' : s (.l m) = none := by rw [hag _ (kr_iff.2 (by simp))]; exact hn
  have hrun := Lib.run_convert_string_bytes (P := c.P) w src dst el b h1 h2 h3
  rw [bytesWorld_alloc] at hrun
  have hsz : b.size = k := by rw [← hk, ← hbs]; simp
  have hge := grownCap_ge w b.size 0 el
  have hgl := grownCap_le_maxLen w b.size 0 el (by simp only [maxLen]; omega)
  have hcs : (Lib.bytesCells w el b).size = grownCap w b.size 0 el := by
    simp only [Lib.bytesCells, Array.size_append, Array.size_map, Array.size_replicate]
    have : b.data.size = b.size := rfl
    omega
  refine ⟨_, _, e.set m w.heap.size 0 (grownCap w b.size 0 el), by simp only [execOp, ex]; rw [Sem.run_bind, hrun]; rfl, (hR.drawn (w.drawn + 1)).new hm hn' _ _ ?_ (fun k hk => by cases hk), fun _ => .inl ⟨grownCap w b.size 0 el, ?_, by omega, by omega, hgl, by rw [Env.set_rm]; omega⟩, new_names rfl⟩
  · refine ⟨by rw [Env.set_rm]; simp; omega, .inr ⟨Lib.bytesCells w el b, el, _, by rw [Env.set_id]; exact World.alloc_heap_new w.drew _, fun _ => ?_, by rw [Env.set_bs, Env.set_rm, hcs]; omega, fun i y hy => ?_⟩⟩
    · rw [Env.set_rm, Env.set_bs]; simp only [hcs]; omega
    · rw [Env.set_bs, Nat.zero_add]
      simp only [List.map_map, List.getElem?_map, Option.map_eq_some_iff] at hy
      obtain ⟨v, hv, rfl⟩ := hy
      have hil : i < bs.length := (List.getElem?_eq_some_iff.1 hv).1
      refine ⟨u8V v, ?_, rfl, fun _ => rfl⟩
      rw [← hbs] at hv hil
      have h5 : i < b.data.size := by simpa using hil
      simp only [Lib.bytesCells, Array.getElem?_append, Array.size_map, h5, if_true, Array.getElem?_map]
      rw [Array.getElem?_toList] at hv
      rw [hv]; rfl
  · rw [Env.set_id, Env.set_bs, hsz]
/-- A row of bytes converted to its own type gets a mark behind its last cell. -/
theorem LocalO.bmark (hF : WideLike F) {n o len cap : Nat} {x : Operand} {t el rt : TypeId} {b : B} {l : List C} {d : Option Tmp} {pos : String} {af : Array Edge} {g : Option (Nat × Bool)} (hN : dOk c.N d = true) (hx : opv σ x = some (.c (.s n o len cap))) (ha : σ (.l n) = some (.l true)) (hb : σ (.b n) = some (.b b)) (hl : b.cellsC = some (true, l)) (h0 : l ≠ []) (h00 : 0 < len + cap)
    (h1 : c.P.underlying t = some (.slice el)) (h2 : c.P.underlying el = some (.int .u8)) :
    LocalO c F nn ⟨d, .convert t t x, rt, pos, af, g⟩ σ ⟨kr (.l n :: .b n :: opk x), putW d (.c (.s n o len cap)) ++ [(.b n, .b b)]⟩ := by
  refine LocalO.act hF hN (noDefer rfl) fun s e a w hag hR => ?_
  have hag' : ∀ q ∈ Key.l n :: .b n :: opk x, s q = σ q := fun q hq => hag q (kr_iff.2 hq)
  have ex := ev1r hx hag' (fun q h => by simp [h]) hR rfl ha (by simp)
  have ha' : s (.l n) = some (.l true) := by rw [hag' _ (by simp)]; exact ha
  have hb' : s (.b n) = some (.b b) := by rw [hag' _ (by simp)]; exact hb
  have ex : a.eval x = .slice (some ⟨e.id n, e.bs n + o, none⟩) len cap := by
    rcases ex with ex | ⟨e1, e2, _⟩
    · exact ex
    · omega
  have hM := hR.W.cells ha' hb' hl
  obtain ⟨m1, m2⟩ := hM
  have hlen : 0 < l.length := by cases l with
    | nil => exact absurd rfl h0
    | cons _ _ => simp
  rcases m2 with m2 | ⟨cs, ty, fz, m3, m4, m5, m6⟩
  · omega
  have hsh : w.shape? (e.id n) = some (ty, cs.size) := by simp [World.shape?, m3]
  have hlt : e.id n < w.heap.size := (Array.getElem?_eq_some_iff.1 m3).1
  obtain ⟨f1, f2⟩ := fz
  have hfr : (w.freeze ⟨e.id n, cs.size, none⟩ 1).heap[e.id n]? = some (.cells cs ty (if f1 == f2 then (cs.size, cs.size + 1) else (min f1 cs.size, max f2 (cs.size + 1)))) := by
    unfold World.freeze
    rw [if_neg (by decide)]
    simp [Array.getElem?_modify, m3]
  have hfo : ∀ k, k ≠ e.id n → (w.freeze ⟨e.id n, cs.size, none⟩ 1).heap[k]? = w.heap[k]? := fun k hk => by
    unfold World.freeze
    rw [if_neg (by decide)]
    simp only [Array.getElem?_modify]
    rw [if_neg (fun h => hk h.symm)]
  have hsz : w.heap.size ≤ (w.freeze ⟨e.id n, cs.size, none⟩ 1).heap.size := by
    unfold World.freeze
    rw [if_neg (by decide)]
    simp
  obtain ⟨ho, hdf⟩ := cellsC_own hl
  have hl' : ∀ k, upd s [(.b n, .b b)] (.l k) = s (.l k) := fun k => by rw [upd_cons_ne _ _ _ (by simp), upd_nil]
  refine ⟨.slice (some ⟨e.id n, e.bs n + o, none⟩) len cap, w.freeze ⟨e.id n, cs.size, none⟩ 1, e, ?_, hR.chg ha' hb' hdf ho (by omega) hfo hsz ?_ ?_ ?_ (cellsC_ok hl ⟨m1, .inr ⟨cs, ty, _, hfr, fun _ => ?_, m5, fun i y hy => ?_⟩⟩) (fun k hk => hR.W.cl.1 (.b n) (.b b) hb' k hk), fun _ => .inl rfl, fun k hk => ?_⟩
  · simp only [execOp, ex]
    simp [Go.convert, run_underlying h1, run_underlying h2, markStringish, hsh]
  · unfold World.freeze; rw [if_neg (by decide)]
  · unfold World.freeze; rw [if_neg (by decide)]
  · unfold World.freeze; rw [if_neg (by decide)]
  · have := m4 rfl
    split
    · right; exact m5
    · rename_i hne
      right
      have hne' : f1 ≠ f2 := by simpa using hne
      simp only at this ⊢
      omega
  · obtain ⟨u, g1, g2⟩ := m6 i y hy
    exact ⟨u, g1, g2.one, g2.ok.mono fun m _ => ⟨fun hv => by unfold live at *; rw [← hl']; exact hv, .rfl⟩⟩
  · rw [hl']
    simp only [V.names, C.names, List.mem_singleton] at hk
    subst hk; rw [ha']; simp
end
end Go.Proofs.YtafhojmnbpegpaaGreat.EV
namespace Go.Proofs.YtafhojmnbpegpaaGreat.EV
open Go.RowKit
/-- The cells of the parts of a literal. -/
def fillC {α : Type} (place : Nat → Option (Nat × Nat)) : List α → List (Nat × List α) → Option (List α)
  | cells, [] => some cells
  | cells, (i, v) :: rest => match place i with
    | none => none
    | some (off, size) => if v.length = size ∧ off + v.length ≤ cells.length then fillC place (putL off v cells) rest else none
theorem fold_set (off : Nat) : ∀ (vs : List Value) (j0 : Nat) (cells : Array Value), ((vs.zipIdx j0).foldl (fun cs x => cs.setIfInBounds (off + x.2) x.1) cells).size = cells.size ∧
    ∀ i, ((vs.zipIdx j0).foldl (fun cs x => cs.setIfInBounds (off + x.2) x.1) cells)[i]? = if off + j0 ≤ i ∧ i < off + j0 + vs.length ∧ i < cells.size then vs[i - off - j0]? else cells[i]?
  | [], j0, cells => ⟨rfl, fun i => by rw [if_neg (by simp; omega)]; rfl⟩
  | v :: vs, j0, cells => by
    obtain ⟨h1, h2⟩ := fold_set off vs (j0 + 1) (cells.setIfInBounds (off + j0) v)
    rw [List.zipIdx_cons, List.foldl_cons]
    refine ⟨by rw [h1]; simp, fun i => ?_⟩
    rw [h2]
    simp only [Array.size_setIfInBounds, List.length_cons]
    by_cases hi : off + (j0 + 1) ≤ i ∧ i < off + (j0 + 1) + vs.length ∧ i < cells.size
    · rw [if_pos hi, if_pos (by omega), show i - off - j0 = i - off - (j0 + 1) + 1 by omega]; simp
    · rw [if_neg hi, Array.getElem?_setIfInBounds]
      by_cases he : off + j0 = i
      · subst he
        rw [if_pos rfl]
        by_cases hl : off + j0 < cells.size
        · rw [if_pos hl, if_pos (by omega)]; simp
        · rw [if_neg hl, if_neg (by omega)]; simp [hl]
      · rw [if_neg he, if_neg (by omega)]
theorem fold_put (off : Nat) (vs cells : List Value) (h : off + vs.length ≤ cells.length) : (vs.toArray.zipIdx.foldl (fun cs x => cs.setIfInBounds (off + x.2) x.1) cells.toArray) = (putL off vs cells).toArray := by
  obtain ⟨h1, h2⟩ := fold_set off vs 0 cells.toArray
  have e : vs.toArray.zipIdx.foldl (fun cs x => cs.setIfInBounds (off + x.2) x.1) cells.toArray = (vs.zipIdx 0).foldl (fun cs x => cs.setIfInBounds (off + x.2) x.1) cells.toArray := by
    rw [← Array.foldl_toList]; simp
  rw [e]
  apply Array.ext'
  apply List.ext_getElem?
  intro i
  have := h2 i
  rw [← Array.getElem?_toList] at this
  rw [this, putL_get off vs cells i h]
  simp only [Nat.add_zero, Nat.sub_zero, List.size_toArray]
  by_cases hi : off ≤ i ∧ i < off + vs.length
  · rw [if_pos ⟨hi.1, hi.2, by omega⟩, if_pos hi]
  · rw [if_neg (by omega), if_neg hi]; simp
section
variable {c : Ctx} {F : Fence} {nn : Nat} {σ s : Sf} {e : Env} {a : Act} {w : World}
/-- The parts of a literal. -/
inductive Parts (s : Sf) : List (Nat × Operand) → List (Nat × List C) → List Key → Prop
  | nil : Parts s [] [] []
  | cons {i : Nat} {x : Operand} {v : V} {l : List C} {k1 ks : List Key} {ps : List (Nat × Operand)} {r : List (Nat × List C)} : opv s x = some v → CV s v l k1 → Parts s ps r ks → Parts s ((i, x) :: ps) ((i, l) :: r) (k1 ++ (opk x ++ ks))
theorem OkL.put {o : Nat} {l vs : List C} {us ws : List Value} (h : OkL s e l us) (k : OkL s e vs ws) (hle : o + vs.length ≤ l.length) : OkL s e (putL o vs l) (putL o ws us) := by
  have h1 := h.length
  have h2 := k.length
  refine OkL.mk (by rw [putL_length, putL_length, h1]) fun i x hx => ?_
  rw [putL_get o vs l i hle] at hx
  rw [putL_get o ws us i (by omega), h2]
  split at hx
  · rename_i hi; rw [if_pos hi]; exact k.get hx
  · rename_i hi; rw [if_neg hi]; exact h.get hx
theorem Parts.sound {ps : List (Nat × Operand)} {r : List (Nat × List C)} {ks : List Key} (h : Parts σ ps r ks) (hag : ∀ q ∈ ks, s q = σ q) (hR : Real c s e a w) {place : Nat → Option (Nat × Nat)} {cells out : List C} (hf : fillC place cells r = some out) {us : List Value} (hu : OkL s e cells us) (hnu : ∀ n ∈ cells.flatMap C.names, s (.l n) ≠ none) :
    ∃ ws, Instr.fill place us.toArray (ps.map fun p => (p.1, a.eval p.2)) = some ws.toArray ∧ OkL s e out ws ∧ ∀ n ∈ out.flatMap C.names, s (.l n) ≠ none := by
  induction h generalizing cells us with
  | nil => simp only [fillC, Option.some.injEq] at hf; subst hf; exact ⟨us, rfl, hu, hnu⟩
  | @cons i x v l k1 ks ps r hx hl h ih =>
    obtain ⟨h1, h2⟩ := ev1 hx hag (fun q hq => by simp [hq]) hR
    obtain ⟨ws, h3, h4⟩ := hl.sound (fun q hq => hag q (by simp [hq])) h1
    simp only [fillC] at hf
    cases hp : place i with
    | none => rw [hp] at hf; cases hf
    | some q =>
      obtain ⟨off, size⟩ := q
      rw [hp] at hf
      simp only at hf
      split at hf
      · rename_i hc
        obtain ⟨hc1, hc2⟩ := hc
        obtain ⟨zs, g1, g2, g3⟩ := ih (fun q hq => hag q (by simp [hq])) hf (hu.put h4 hc2) (fun n hn => by
          simp only [List.mem_flatMap] at hn
          obtain ⟨y, hy, hn⟩ := hn
          rcases putL_mem off l cells y hy with hy | hy
          · exact h2 n (hl.names (List.mem_flatMap.2 ⟨y, hy, hn⟩))
          · exact hnu n (List.mem_flatMap.2 ⟨y, hy, hn⟩))
        refine ⟨zs, ?_, g2, g3⟩
        have hlu := hu.length
        have hlw := h4.length
        have e2 : (a.eval x).cells = ws.toArray := by rw [← h3]
        simp only [List.map_cons, Instr.fill, hp, e2]
        rw [if_neg (by simp [hlw, hc1, hlu]; omega), fold_put off ws us (by omega)]
        exact g1
      · cases hf
def placesC (P : Program) : List Field → Option (List (Nat × Nat))
  | [] => some []
  | f :: fs => match tS P f.type, placesC P fs with
    | some k, some r => some ((f.offset, k) :: r)
    | _, _ => none
theorem run_places {P : Program} : ∀ {fs : List Field} {pl : List (Nat × Nat)}, placesC P fs = some pl → (fs.mapM (m := Sem) fun f => do pure (f.offset, ← sizeOf f.type)).run P w = .ok pl w
  | [], pl, h => by simp only [placesC, Option.some.injEq] at h; subst h; rfl
  | f :: fs, pl, h => by
    simp only [placesC] at h
    split at h
    · rename_i k r hk hr
      cases h
      rw [List.mapM_cons]
      simp only [Sem.run_bind, run_sz hk, Result.andThen_ok, Sem.run_pure, run_places hr]
    · cases h
def buildC (P : Program) (t : TypeId) : Option (List Value × (Nat → Option (Nat × Nat))) := match zeroC P t, P.underlying t with
  | some zs, some (.struct fs) => match placesC P fs.toList with
    | some pl => some (zs, fun i => pl[i]?)
    | none => none
  | some zs, some (.array _ el) => match tS P el with
    | some k => some (zs, fun i => some (i * k, k))
    | none => none
  | _, _ => none
theorem LocalO.build (hF : WideLike F) {t rt : TypeId} {zs : List Value} {place : Nat → Option (Nat × Nat)} {ps : List (Nat × Operand)} {r : List (Nat × List C)} {ks : List Key} {out : List C} {d : Option Tmp} {pos : String} {af : Array Edge} {g : Option (Nat × Bool)} (hN : dOk c.N d = true)
    (hb : buildC c.P t = some (zs, place)) (hp : Parts σ ps r ks) (hf : fillC place (zs.map C.v) r = some out) : LocalO c F nn ⟨d, .build t ps.toArray, rt, pos, af, g⟩ σ ⟨kr ks, putW d (.a out)⟩ := by
  refine LocalO.val hF hN (noDefer rfl) fun s e a w hag hR => ?_
  have hag' : ∀ q ∈ ks, s q = σ q := fun q hq => hag q (kr_iff.2 hq)
  unfold buildC at hb
  split at hb
  · rename_i zs' fs hz hu
    split at hb
    · rename_i pl hpl
      cases hb
      obtain ⟨z, z1, z2, z3⟩ := run_zero (w := w) hz
      obtain ⟨ws, g1, g2, g3⟩ := hp.sound hag' hR hf (OkL.plain zs z3) (fun n hn => by rw [plain_names] at hn; cases hn)
      refine ⟨.agg ws.toArray, ?_, ⟨ws, rfl, g2⟩, g3⟩
      have hpm : (fs.mapM (m := Sem) fun f => do pure (f.offset, ← sizeOf f.type)).run c.P w = .ok pl.toArray w := by
        rw [Array.mapM_eq_mapM_toList]
        have := run_places (w := w) hpl
        rw [show (List.toArray <$> List.mapM (m := Sem) (fun f : Field => do pure (f.offset, ← sizeOf f.type)) fs.toList : Sem (Array (Nat × Nat))) = (do let r ← List.mapM (m := Sem) (fun f : Field => do pure (f.offset, ← sizeOf f.type)) fs.toList; pure r.toArray) from rfl]
        rw [Sem.run_bind, this]; rfl
      simp only [execOp, Instr.build, Sem.run_bind, z1, Result.andThen_ok, run_underlying hu w, hpm, z2]
      have e3 : (fun x : Nat => pl.toArray[x]?) = fun i : Nat => pl[i]? := by funext x; simp
      rw [e3, List.map_toArray, g1]; rfl
    · cases hb
  · rename_i zs' len el hz hu
    split at hb
    · rename_i k hk
      cases hb
      obtain ⟨z, z1, z2, z3⟩ := run_zero (w := w) hz
      obtain ⟨ws, g1, g2, g3⟩ := hp.sound hag' hR hf (OkL.plain zs z3) (fun n hn => by rw [plain_names] at hn; cases hn)
      refine ⟨.agg ws.toArray, ?_, ⟨ws, rfl, g2⟩, g3⟩
      simp only [execOp, Instr.build, Sem.run_bind, z1, Result.andThen_ok, run_underlying hu w, run_sz hk, z2, List.map_toArray]
      rw [g1]; rfl
    · cases hb
  · cases hb
/-- n times. -/
def timesL (zs : List Value) : Nat → List Value
  | 0 => []
  | n + 1 => zs ++ timesL zs n
theorem timesL_length (zs : List Value) : ∀ n, (timesL zs n).length = n * zs.length
  | 0 => by simp [timesL]
  | n + 1 => by rw [timesL, List.length_append, timesL_length zs n, Nat.add_mul]; omega
theorem timesL_get (zs : List Value) (h : 0 < zs.length) : ∀ n i, i < n * zs.length → (timesL zs n)[i]? = zs[i % zs.length]?
  | 0, i, hi => by simp at hi
  | n + 1, i, hi => by
    rw [timesL]
    by_cases hl : i < zs.length
    · rw [List.getElem?_append_left hl, Nat.mod_eq_of_lt hl]
    · rw [List.getElem?_append_right (by omega), timesL_get zs h n (i - zs.length) (by rw [Nat.add_mul] at hi; omega), ← Nat.mod_eq_sub_mod (by omega)]
theorem timesL_one {zs : List Value} (h : zs.all (·.oneCell') = true) : ∀ n, (timesL zs n).all (·.oneCell') = true
  | 0 => rfl
  | n + 1 => by rw [timesL, List.all_append, h, timesL_one h n]; rfl
theorem zeros_eq {z : Array Value} {n k : Nat} (hk : n = k * z.size) (h0 : n ≠ 0 → z.size ≠ 0) : ((Array.range n).map (z[· % z.size]!)) = (timesL z.toList k).toArray := by
  by_cases hn : n = 0
  · subst hn
    have : (timesL z.toList k) = [] := List.eq_nil_of_length_eq_zero (by rw [timesL_length]; simpa using hk.symm)
    rw [this]; simp
  · have hz := h0 hn
    apply Array.ext
    · simp [timesL_length, hk]
    · intro i h1 h2
      simp at h1
      have hi : i < k * z.toList.length := by simpa [← hk] using h1
      have h3 := timesL_get z.toList (by simpa using Nat.pos_of_ne_zero hz) k i hi
      have hm : i % z.size < z.size := Nat.mod_lt _ (Nat.pos_of_ne_zero hz)
      have h4 : (timesL z.toList k)[i]? = some z[i % z.size] := by
        rw [h3]; simp [hm]
      have h5 : (timesL z.toList k)[i]'(by simpa using h2) = z[i % z.size] := by
        have := List.getElem?_eq_getElem (l := timesL z.toList k) (i := i) (by simpa using h2)
        rw [this] at h4; exact Option.some.inj h4
      simp [h5, getElem!_pos z (i % z.size) hm]
theorem map_range0 (f : Nat → Value) : (Array.range 0).map f = #[] := by simp
theorem LocalO.buildSlice (hF : WideLike F) {n len k : Nat} {t el rt : TypeId} {zs : List Value} {ps : List (Nat × Operand)} {r : List (Nat × List C)} {ks : List Key} {out : List C} {d : Option Tmp} {pos : String} {af : Array Edge} {g : Option (Nat × Bool)} (hN : dOk c.N d = true)
    (ht : c.P.underlying t = some (.slice el)) (hz : zeroC c.P el = some zs) (hk : tS c.P el = some k) (hzk : zs.length = k) (h0 : k ≠ 0) (hle : len * k ≤ 16777216) (hp : Parts σ ps r ks) (hf : fillC (fun i => some (i * k, k)) ((timesL zs len).map C.v) r = some out) (hm : ¬ c.gv n) (hn : σ (.l n) = none) :
    LocalO c F nn ⟨d, .buildSlice t len ps.toArray, rt, pos, af, g⟩ σ ⟨kr (.l n :: ks), putW d (.c (.s n 0 len len)) ++ wsNew n (.m true out)⟩ := by
  refine LocalO.act hF hN (noDefer rfl) fun s e a w hag hR => ?_
  have hag' : ∀ q ∈ Key.l n :: ks, s q = σ q := fun q hq => hag q (kr_iff.2 hq)
  have hn' : s (.l n) = none := by rw [hag' _ (by simp)]; exact hn
  obtain ⟨z, z1, z2, z3⟩ := run_zero (w := w) hz
  obtain ⟨ws, g1, g2, g3⟩ := hp.sound (fun q hq => hag' q (by simp [hq])) hR hf (OkL.plain _ (timesL_one z3 len)) (fun n hn => by rw [plain_names] at hn; cases hn)
  have hzs : z.cells.size = k := by rw [z2]; simpa using hzk
  refine ⟨.slice (some ⟨w.heap.size, 0, none⟩) len len, _, _, ?_, hR.row hm hn' g2 g3 el, fun _ => .inl ?_, new_names rfl⟩
  · have e1 : (Array.range (len * k)).map (z.cells[· % z.cells.size]!) = (timesL zs len).toArray := by
      rw [zeros_eq (k := len) (by rw [hzs]) (fun _ => by rw [hzs]; exact h0), z2]
    have hle' : ¬ (len * k > 2 ^ 24) := by omega
    simp only [execOp, Instr.buildSlice, Sem.run_bind, run_underlying ht w, Result.andThen_ok, run_sz hk, if_neg hle', Sem.run_pure]
    by_cases hl : len * k = 0
    · have h9 : (timesL zs len) = [] := List.eq_nil_of_length_eq_zero (by rw [timesL_length, hzk]; exact hl)
      rw [h9] at g1
      rw [if_pos hl, hl]
      simp only [Sem.run_bind, Sem.run_pure, Result.andThen_ok, map_range0, List.map_toArray]
      rw [show (#[] : Array Value) = [].toArray from rfl, g1]; rfl
    · rw [if_neg hl]
      simp only [Sem.run_bind, z1, Sem.run_pure, Result.andThen_ok, e1, List.map_toArray]
      rw [g1]; rfl
  · simp [Env.set_id, Env.set_bs]
theorem LocalO.makeSlice (hF : WideLike F) {n k by' : Nat} {li ci : Int} {ki kj : IntKind} {t el rt : TypeId} {zs : List Value} {x y : Operand} {d : Option Tmp} {pos : String} {af : Array Edge} {g : Option (Nat × Bool)} (hN : dOk c.N d = true) (hx : opv σ x = some (.c (.v (.int ki li)))) (hy : opv σ y = some (.c (.v (.int kj ci))))
    (ht : c.P.underlying t = some (.slice el)) (hz : zeroC c.P el = some zs) (hk : tS c.P el = some k) (hzk : zs.length = k) (h0 : k ≠ 0) (hby : (c.P.info? el).map (·.bytes) = some by') (h1 : 0 ≤ li ∧ li ≤ ci ∧ ci ≤ 281474976710656 ∧ by' * ci ≤ 281474976710656) (hm : ¬ c.gv n) (hn : σ (.l n) = none) :
    LocalO c F nn ⟨d, .makeSlice t x y, rt, pos, af, g⟩ σ ⟨kr (.l n :: (opk x ++ opk y)), putW d (.c (.s n 0 li.toNat ci.toNat)) ++ wsNew n (.w true (timesL zs ci.toNat))⟩ := by
  refine LocalO.act hF hN (noDefer rfl) fun s e a w hag hR => ?_
  have hag' : ∀ q ∈ Key.l n :: (opk x ++ opk y), s q = σ q := fun q hq => hag q (kr_iff.2 hq)
  have hn' : s (.l n) = none := by rw [hag' _ (by simp)]; exact hn
  obtain ⟨z, z1, z2, z3⟩ := run_zero (w := w) hz
  have hzs : z.cells.size = k := by rw [z2]; simpa using hzk
  cases hq : c.P.info? el with
  | none => rw [hq] at hby; cases hby
  | some i =>
    rw [hq] at hby
    simp only [Option.map_some, Option.some.injEq] at hby
    have hti : (typeInfo el).run c.P w = .ok i w := by simp [typeInfo, hq]
    have ex := ev1v hx hag' (fun q h => by simp [h]) hR
    have ey := ev1v hy hag' (fun q h => by simp [h]) hR
    have w1 : IntKind.i64.wrap li = li := by
      have := IntWalk.i64_in li (by omega); exact this
    have w2 : IntKind.i64.wrap ci = ci := by
      have := IntWalk.i64_in ci (by omega); exact this
    refine ⟨.slice (some ⟨w.heap.size, 0, none⟩) li.toNat ci.toNat, _, _, ?_, hR.rowW (us := timesL zs ci.toNat) hm hn' (timesL_one z3 _) el, fun _ => .inl ?_, new_names rfl⟩
    · have hbig : ¬ ((decide (ci < 0) || decide ((i.bytes : Int) * ci > 2 ^ 48) || decide (li < 0) || decide (li > ci)) = true) := by
        rw [hby]; simp; omega
      have hroom : ((askRoom (ci.toNat * i.bytes)).run c.P w) = .ok () w := by
        unfold askRoom; split <;> rfl
      simp only [execOp, Instr.makeSlice, ex, ey, asInt, asIntOf, Sem.run_bind, run_underlying ht w, Result.andThen_ok, Sem.run_pure, hti, w1, w2, if_neg hbig, hroom, run_sz hk]
      by_cases hl : ci.toNat * k = 0
      · have h9 : (timesL zs ci.toNat) = [] := List.eq_nil_of_length_eq_zero (by rw [timesL_length, hzk]; exact hl)
        rw [if_pos hl, hl, h9]
        simp only [Sem.run_bind, Sem.run_pure, Result.andThen_ok, map_range0]
        rfl
      · rw [if_neg hl]
        have e1 : (Array.range (ci.toNat * k)).map (z.cells[· % z.cells.size]!) = (timesL zs ci.toNat).toArray := by
          rw [zeros_eq (k := ci.toNat) (by rw [hzs]) (fun _ => by rw [hzs]; exact h0), z2]
        simp only [Sem.run_bind, z1, Sem.run_pure, Result.andThen_ok, e1]
        rfl
    · simp [Env.set_id, Env.set_bs]
end
end Go.Proofs.YtafhojmnbpegpaaGreat.EV
namespace Go.Proofs.YtafhojmnbpegpaaGreat.EV
open Go.RowKit
section
variable {c : Ctx} {F : Fence} {nn : Nat} {σ s : Sf} {e : Env} {a : Act} {w : World}
/-- A block told another way. -/
theorem RealW.swap (h : RealW c s e w) {n : Nat} {b b' : B} {own : Bool} {l : List C} (ha : s (.l n) = some (.l true)) (hb : s (.b n) = some (.b b)) (hl : b.cellsC = some (own, l)) (hl' : b'.cellsC = some (own, l)) : RealW c (upd s [(.b n, .b b')]) e w := by
  have hll : ∀ k, upd s [(.b n, .b b')] (.l k) = s (.l k) := fun k => by rw [upd_cons_ne _ _ _ (by simp), upd_nil]
  have hbk : ∀ k, upd s [(.b n, .b b')] (.b k) = if n = k then some (.b b') else s (.b k) := fun k => by rw [upd_cons, upd_nil]; simp
  have hv : ∀ k, live (upd s [(.b n, .b b')]) k → live s k := fun k hk => by unfold live at *; rw [← hll]; exact hk
  have back : ∀ k b2, upd s [(.b n, .b b')] (.b k) = some (.b b2) → ∃ b3, s (.b k) = some (.b b3) ∧ b3.own = b2.own := fun k b2 hk => by
    rw [hbk] at hk
    by_cases h1 : n = k
    · subst h1; rw [if_pos rfl] at hk; cases hk; exact ⟨b, hb, by rw [(cellsC_own hl).1, (cellsC_own hl').1]⟩
    · rw [if_neg h1] at hk; exact ⟨b2, hk, rfl⟩
  refine ⟨fun k b2 h1 h2 => ?_, fun k k' b1 b2 h1 h2 h3 h4 hkk ho => ?_, fun k b2 h1 h2 ho => ?_, ⟨fun q x hx k hm => ?_, fun k hk => ?_⟩, h.given, h.os, h.tape, h.output, h.size, h.old⟩
  · rw [hll] at h1
    rw [hbk] at h2
    by_cases hk : n = k
    · subst hk; rw [if_pos rfl] at h2; cases h2
      exact cellsC_ok hl' ((h.cells ha hb hl).mono (fun m _ => ⟨hv m, .rfl⟩) .rfl (fun _ => rfl))
    · rw [if_neg hk] at h2
      exact (h.blk k b2 h1 h2).mono (fun m _ => ⟨hv m, .rfl⟩) .rfl (fun _ => rfl)
  · rw [hll] at h1 h3
    obtain ⟨b3, g1, g2⟩ := back k b1 h2
    obtain ⟨b4, g3, g4⟩ := back k' b2 h4
    exact h.sep k k' b3 b4 h1 g1 h3 g3 hkk (g2.trans ho)
  · rw [hll] at h1
    obtain ⟨b3, g1, g2⟩ := back k b2 h2
    exact h.own k b3 h1 g1 (g2.trans ho)
  · rw [hll]
    rw [upd_cons] at hx
    split at hx
    · cases hx
      refine h.cl.1 (.b n) (.b b) hb k ?_
      show k ∈ b.names
      rw [← B.cellsC_names hl, B.cellsC_names hl']; exact hm
    · rw [upd_nil] at hx; exact h.cl.1 q x hx k hm
  · rw [hll]
    rw [hbk] at hk
    split at hk
    · rename_i e; subst e; rw [ha]; simp
    · exact h.cl.2 k hk
theorem Real.swap (h : Real c s e a w) {n : Nat} {b b' : B} {own : Bool} {l : List C} (ha : s (.l n) = some (.l true)) (hb : s (.b n) = some (.b b)) (hl : b.cellsC = some (own, l)) (hl' : b'.cellsC = some (own, l)) : Real c (upd s [(.b n, .b b')]) e a w :=
  h.withW (h.W.swap ha hb hl hl') (fun i => by rw [upd_cons_ne _ _ _ (by simp), upd_nil]) (fun k hk => ⟨fun hv => by unfold live at *; rwa [upd_cons_ne _ _ _ (by simp), upd_nil] at hv, .rfl⟩) (fun k hk => by
    have hne : n ≠ k := fun e => by subst e; have := (h.fml n hk).2; rw [hb] at this; cases this; exact (cellsC_own hl).2 rfl
    rw [upd_cons_ne _ _ _ (by simp), upd_nil, upd_cons_ne _ _ _ (by simpa using hne), upd_nil]; exact ⟨rfl, rfl⟩)
/-- What is copied: n of k places. -/
def SrcN (c : Ctx) (σ : Sf) (x : Operand) (k n z : Nat) (vs : List C) (ks : List Key) : Prop :=
  ∀ s e a w, (∀ q ∈ ks, s q = σ q) → Real c s e a w → ∃ us : List Value, us.length = n * z ∧ OkL s e vs us ∧ (∀ n ∈ vs.flatMap C.names, s (.l n) ≠ none) ∧
    (Builtin.lenOf (a.eval x)).run c.P w = .ok k w ∧ (Builtin.firstCells z n (a.eval x)).run c.P w = .ok us.toArray w
theorem first_part {P : Program} {z k n : Nat} {b o cap : Nat} {us : List Value} (hl : us.length = n * z) (h : w.rangeAt b o us) : (Builtin.firstCells z n (.slice (some ⟨b, o, none⟩) k cap)).run P w = .ok us.toArray w :=
  run_firstCells_some (P := P) w z n ⟨b, o, none⟩ k cap us hl (fun j v hv => by rw [Addr.add_mid]; exact h j v hv)
theorem srcN_named {x : Operand} {m o k n z : Nat} {b : B} {own : Bool} {l : List C} {y : C} (hx : opv σ x = some (.c y)) (hy : (∃ cap, y = .s m o k cap) ∨ ∃ lb z, y = .g m o k lb z) (ha : σ (.l m) = some (.l true)) (hb : σ (.b m) = some (.b b)) (hl : b.cellsC = some (own, l)) (hn : n ≤ k) (hle : o + n * z ≤ l.length) :
    SrcN c σ x k n z ((l.drop o).take (n * z)) (.l m :: .b m :: opk x) := by
  intro s e a w hag hR
  have ex := ev1r hx hag (fun q h => by simp [h]) hR (by rcases hy with ⟨_, rfl⟩ | ⟨_, _, rfl⟩ <;> rfl) ha (by simp)
  have hb' : s (.b m) = some (.b b) := by rw [hag _ (by simp)]; exact hb
  have hM := hR.W.cells (n := m) (by rw [hag _ (by simp)]; exact ha) hb' hl
  obtain ⟨us, h1, h2, h3⟩ := hM.range o (n * z) hle
  refine ⟨us, h1, h2, fun j hj => hR.W.cl.1 (.b m) (.b b) hb' j ?_, ?_⟩
  · show j ∈ b.names
    rw [← B.cellsC_names hl]
    simp only [List.mem_flatMap] at hj ⊢
    obtain ⟨y, hy, hj⟩ := hj
    exact ⟨y, List.mem_of_mem_drop (List.mem_of_mem_take hy), hj⟩
  · have zero : k = 0 → ∀ p cap, (Builtin.firstCells z n (.slice p 0 cap)).run c.P w = .ok us.toArray w := fun h p cap => by
      have hn0 : n = 0 := by omega
      subst hn0
      have : us = [] := List.eq_nil_of_length_eq_zero (by rw [h1]; simp)
      rw [this]; exact first_zero
    rcases hy with ⟨cap, rfl⟩ | ⟨lb, z', rfl⟩
    · rcases ex with ex | ⟨h0, _, p, ex⟩
      · exact ⟨by rw [ex]; rfl, by rw [ex]; exact first_part h1 h3⟩
      · exact ⟨by rw [ex, h0]; rfl, by rw [ex]; exact zero h0 p 0⟩
    · rcases ex with ⟨cap, ex, _⟩ | ⟨h0, _, p, ex⟩
      · exact ⟨by rw [ex]; rfl, by rw [ex]; exact first_part h1 h3⟩
      · exact ⟨by rw [ex, h0]; rfl, by rw [ex]; exact zero h0 p 0⟩
theorem srcN_nil {x : Operand} {z cap : Nat} (hx : opv σ x = some (.c (.v (.slice none 0 cap)))) : SrcN c σ x 0 0 z [] (opk x) := by
  intro s e a w hag hR
  have ex := ev1v hx hag (fun q h => h) hR
  exact ⟨[], by simp, rfl, fun n hn => by simp at hn, by rw [ex]; rfl, by rw [ex]; exact first_zero⟩
theorem LocalO.copy (hF : WideLike F) {m o len k n z : Nat} {x y : Operand} {X : C} {t t2 el rt : TypeId} {b b' : B} {l vs : List C} {ks : List Key} {d : Option Tmp} {pos : String} {af : Array Edge} {g : Option (Nat × Bool)} (hN : dOk c.N d = true)
    (hx : opv σ x = some (.c X)) (hX : (∃ cap, X = .s m o len cap) ∨ ∃ lb z, X = .g m o len lb z) (ha : σ (.l m) = some (.l true)) (hb : σ (.b m) = some (.b b)) (hl : b.cellsC = some (true, l)) (hn : Nat.min k len = n) (hs : SrcN c σ y k n z vs ks) (hvl : vs.length = n * z) (hle : o + n * z ≤ l.length)
    (ht : c.P.underlying t = some (.slice el)) (hz : tS c.P el = some z) (hb' : b'.cellsC = some (true, putL o vs l)) :
    LocalO c F nn ⟨d, .call ⟨.builtin .copy, #[x, y], #[t, t2]⟩, rt, pos, af, g⟩ σ ⟨kr (.l m :: .b m :: (ks ++ opk x)), putW d (.c (.v (.int .i64 n))) ++ [(.b m, .b b')]⟩ := by
  refine LocalO.act hF hN (noDefer rfl) fun s e a w hag hR => ?_
  have hag' : ∀ q ∈ Key.l m :: .b m :: (ks ++ opk x), s q = σ q := fun q hq => hag q (kr_iff.2 hq)
  have ex := ev1r hx hag' (fun q h => by simp [h]) hR (by rcases hX with ⟨_, rfl⟩ | ⟨_, _, rfl⟩ <;> rfl) ha (by simp)
  obtain ⟨us, h1, h2, h3, h4, h5⟩ := hs s e a w (fun q hq => hag' q (by simp [hq])) hR
  have ha' : s (.l m) = some (.l true) := by rw [hag' _ (by simp)]; exact ha
  have hbs : s (.b m) = some (.b b) := by rw [hag' _ (by simp)]; exact hb
  have hrun : ∀ {p cap w'}, a.eval x = .slice p len cap → (∀ q, p = some q → (storeCells q us).run c.P w = .ok () w') → (p = none → w' = w) →
      (execOp a.eval ⟨d, .call ⟨.builtin .copy, #[x, y], #[t, t2]⟩, rt, pos, af, g⟩).run c.P w = .ok (.value (.int .i64 n)) w' := fun {p cap w'} hp hst hno => by
    have : (Builtin.copy_ #[t, t2] rt #[a.eval x, a.eval y]).run c.P w = .ok (.int .i64 n) w' := by
      rw [hp]
      simp only [Builtin.copy_, List.getElem?_toArray, List.getElem?_cons_zero, List.getElem?_cons_succ, Sem.run_bind, run_underlying ht w, Result.andThen_ok, h4, hn, run_sz hz, h5]
      cases p with
      | none => rw [hno rfl]; rfl
      | some q => simp only [Sem.run_bind, hst q rfl, Result.andThen_ok]; rfl
    simp only [execOp, resolve, Sem.run_bind, Sem.run_pure, Result.andThen_ok, invoke, builtin, List.map_toArray, List.map_cons, List.map_nil, this]
  have dst : ∃ p cap, a.eval x = .slice p len cap ∧ (p = some ⟨e.id m, e.bs m + o, none⟩ ∨ len = 0) := by
    rcases hX with ⟨cap, rfl⟩ | ⟨lb, z', rfl⟩
    · rcases ex with ex | ⟨h0, _, p, ex⟩
      · exact ⟨_, _, ex, .inl rfl⟩
      · exact ⟨p, 0, by rw [h0]; exact ex, .inr h0⟩
    · rcases ex with ⟨cap, ex, _⟩ | ⟨h0, _, p, ex⟩
      · exact ⟨_, _, ex, .inl rfl⟩
      · exact ⟨p, 0, by rw [h0]; exact ex, .inr h0⟩
  obtain ⟨p, cap, hp, hpl⟩ := dst
  by_cases hv0 : vs = []
  · have hus : us = [] := List.eq_nil_of_length_eq_zero (by rw [h2.length, hv0]; rfl)
    have hput : putL o vs l = l := by
      apply List.ext_getElem?
      intro i
      rw [putL_get o vs l i (by omega), hv0, if_neg (by simp)]
    refine ⟨_, w, e, hrun (w' := w) hp (fun q _ => by rw [hus]; rfl) (fun _ => rfl), hR.swap ha' hbs hl (by rw [hb', hput]), Ok.of, fun n hn => by cases hn⟩
  · have hlen0 : len ≠ 0 := fun h => by
      have : n = 0 := by rw [← hn, h]; exact Nat.min_zero k
      rw [this, Nat.zero_mul] at hvl
      exact hv0 (List.eq_nil_of_length_eq_zero hvl)
    have hps : p = some ⟨e.id m, e.bs m + o, none⟩ := hpl.resolve_right hlen0
    obtain ⟨g1, g2⟩ := hR.store (o := o) ha' hbs hl h2 (by omega) hv0 h3 hb'
    have hst := run_storeCells_cells (P := c.P) (e.id m) (e.bs m + o) us 0 w (fun j hj => by simpa using (g1 j hj).1) (fun j hj => by simpa using (g1 j hj).2) (fun v hv => h2.all_one v hv)
    refine ⟨_, _, e, hrun (w' := w.setCells (e.id m) (e.bs m + o) us) hp (fun q hq => by rw [hps] at hq; cases hq; simpa using hst) (fun h => by rw [hps] at h; cases h), g2, Ok.of, fun n hn => by cases hn⟩
end
end Go.Proofs.YtafhojmnbpegpaaGreat.EV
namespace Go.Proofs.YtafhojmnbpegpaaGreat.EV
open Go.RowKit
section
variable {c : Ctx} {F : Fence} {nn : Nat} {σ s : Sf} {e : Env} {a : Act} {w w' : World} {Q : Exit → Act → World → Prop}
theorem wpIn_scope {P : Program} {x : Code} (h : x.wpIn F nn P (Exit.noGoto Q) a w) : (Code.scope x).wpIn F nn P Q a w := by
  intro b k cs hro hb hr
  have s1 : ∀ {a w}, step P (lone (b.atR a (.code (.scope x) :: k)) cs w) = .next (lone (b.atR a (.code x :: .inScope x :: k)) cs w) := fun {a w} => step_lone_go (by simp [stepG, stepG.exec, Frame.atR])
  have s2 : ∀ {a w}, step P (lone (b.atR a (.inScope x :: k)) cs w) = .next (lone (b.atR a k) cs w) := fun {a w} => step_lone_go (by simp [stepG, stepG.exec, Frame.atR])
  have h0 : (lone (b.atR a (.code (.scope x) :: k)) cs w).fenced P F := fenced_calm hb hr rfl
  obtain ⟨e, a₁, w₁, hq, harr⟩ := h b (.inScope x :: k) cs hro hb hr
  cases e with
  | normal => exact ⟨.normal, a₁, w₁, hq, .head h0 s1 (StepsIn.trans harr (.one (fenced_calm hb hr rfl) s2))⟩
  | exit id =>
    have hx : exitTo id (.inScope x :: k) = exitTo id k := by simp [exitTo]
    exact ⟨.exit id, a₁, w₁, hq, fun k' hk => .head h0 s1 (harr.1 k' (by rw [hx]; exact hk)), fun hr' hk => let ⟨k₁, h1, h2⟩ := harr.2 hr' (by rw [hx]; exact hk); ⟨k₁, h1, .head h0 s1 h2⟩⟩
  | goto l => exact hq.elim
  | ret => exact ⟨_, a₁, w₁, hq, .of_steps (.one h0 s1) harr⟩
  | panic ch => exact ⟨_, a₁, w₁, hq, .of_steps (.one h0 s1) harr⟩
  | outgrown => exact ⟨_, a₁, w₁, hq, .of_steps (.one h0 s1) harr⟩
theorem CW_seq {x y : Code} (h : CW c F nn x (Exit.then (y.wpIn F nn c.P Q) Q) σ) : CW c F nn (.seq x y) Q σ := ⟨fun e a w hR => wpIn_seq (h.go e a w hR)⟩
theorem CW_skip (h : KW c (Q .normal) σ) : CW c F nn .skip Q σ := ⟨fun e a w hR => wpIn_skip (h.go e a w hR)⟩
theorem CW_label {l : Nat} (h : KW c (Q .normal) σ) : CW c F nn (.label l) Q σ := ⟨fun e a w hR => wpIn_label (h.go e a w hR)⟩
theorem CW_ret (h : KW c (Q .ret) σ) : CW c F nn .ret Q σ := ⟨fun e a w hR => wpIn_ret (h.go e a w hR)⟩
theorem CW_exit {k : Nat} (h : KW c (Q (.exit k)) σ) : CW c F nn (.exit k) Q σ := ⟨fun e a w hR => wpIn_exit (h.go e a w hR)⟩
theorem CW_block {k : Nat} {x : Code} (h : CW c F nn x (Exit.inBlock k Q) σ) : CW c F nn (.block k x) Q σ := ⟨fun e a w hR => wpIn_block (h.go e a w hR)⟩
theorem CW_scope {x : Code} (h : CW c F nn x (Exit.noGoto Q) σ) : CW c F nn (.scope x) Q σ := ⟨fun e a w hR => wpIn_scope (h.go e a w hR)⟩
theorem CW_yes {x : Operand} {p q : Code} (hx : opv σ x = some (.c (.v (.bool true)))) (h : CW c F nn p Q σ) : CW c F nn (.cond x p q) Q σ := ⟨fun e a w hR => wpIn_cond_true (Ok.plain (eval_opv hx hR)) (h.go e a w hR)⟩
theorem CW_no {x : Operand} {p q : Code} (hx : opv σ x = some (.c (.v (.bool false)))) (h : CW c F nn q Q σ) : CW c F nn (.cond x p q) Q σ := ⟨fun e a w hR => wpIn_cond_false (Ok.plain (eval_opv hx hR)) (h.go e a w hR)⟩
theorem CW_cond {x : Operand} {p q : Code} {b : Bool} (hx : opv σ x = some (.c (.v (.bool b)))) (h1 : b = true → CW c F nn p Q σ) (h2 : b = false → CW c F nn q Q σ) : CW c F nn (.cond x p q) Q σ := by
  cases b with
  | true => exact CW_yes hx (h1 rfl)
  | false => exact CW_no hx (h2 rfl)
theorem CW_rounds {x : Code} (m : Nat) (h : KW c (Code.roundsIn F nn c.P x Q m) σ) : CW c F nn (.loop x) Q σ := ⟨fun e a w hR => wpIn_loop_rounds m (h.go e a w hR)⟩
theorem KW_round {x : Code} {m : Nat} (h : CW c F nn x (Exit.then (Code.roundsIn F nn c.P x Q m) Q) σ) : KW c (Code.roundsIn F nn c.P x Q (m + 1)) σ := ⟨h.go⟩
/-- What an own block holds is lost. -/
theorem RealW.drop (h : RealW c s e w) {n : Nat} {b : B} (ha : s (.l n) = some (.l true)) (hb : s (.b n) = some (.b b)) (ho : b.own = true) (hr : e.rm n ≠ 0) (hw : ∀ k, k ≠ e.id n → w'.heap[k]? = w.heap[k]?) (hsz : w.heap.size ≤ w'.heap.size)
    (hos : w'.os = w.os) (htape : w'.tape = w.tape) (hout : w'.output = w.output) : RealW c (upd s [(.l n, .l false)]) e w' := by
  have hk := h.kill (n := n)
  have hown := h.own n b ha hb ho
  have hlv : ∀ k, upd s [(.l n, .l false)] (.l k) = some (.l true) → s (.l k) = some (.l true) ∧ n ≠ k := fun k hx => by
    rw [upd_cons, upd_nil] at hx
    split at hx
    · cases hx
    · rename_i hne; exact ⟨hx, by simpa using hne⟩
  have hbb : ∀ k, upd s [(.l n, .l false)] (.b k) = s (.b k) := fun k => by rw [upd_cons_ne _ _ _ (by simp), upd_nil]
  refine ⟨fun k b2 h1 h2 => ?_, hk.sep, hk.own, hk.cl, h.given, hos.trans h.os, htape.trans h.tape, hout.trans h.output, Nat.le_trans h.size hsz, fun k hkB ht => ?_⟩
  · obtain ⟨g1, g2⟩ := hlv k h1
    refine (hk.blk k b2 h1 h2).mono (fun m _ => ⟨id, .rfl⟩) .rfl (fun h0 => hw _ ?_)
    rw [hbb] at h2
    rcases h.sep n k b b2 ha hb g1 h2 g2 ho with h3 | h3 | h3
    · exact absurd h3 hr
    · exact absurd h3 h0
    · exact fun e => h3 e.symm
  · rw [hw k (fun e => by
      rcases hown with h1 | h1 | h1
      · exact hr h1
      · have : k < c.B := hkB
        omega
      · exact ht (e ▸ h1))]
    exact h.old k hkB ht
/-- One result. -/
def resC (P : Program) (s : Sf) : ResultVar → Option V
  | .tmp t => opv s (.tmp t)
  | .cell a t => match opv s (.tmp a) with
    | some (.c (.p n o)) => match s (.l n), s (.b n) with
      | some (.l true), some (.b b) => match b.cellsC with
        | some (_, l) => match tRow P t with
          | some false => match l[o]? with
            | some x => some (.c x)
            | none => none
          | some true => match tS P t with
            | some k => if o + k ≤ l.length then some (.a ((l.drop o).take k)) else none
            | none => none
          | none => none
        | none => none
      | _, _ => none
    | _ => none
def resL (P : Program) (s : Sf) : List ResultVar → Option (List V)
  | [] => some []
  | r :: rs => match resC P s r, resL P s rs with
    | some v, some vs => some (v :: vs)
    | _, _ => none
def partV : V → Option (C ⊕ List C)
  | .c x => some (.inl x)
  | .a l => some (.inr l)
  | .t _ => none
def partsV : List V → Option (List (C ⊕ List C))
  | [] => some []
  | v :: vs => match partV v, partsV vs with
    | some p, some ps => some (p :: ps)
    | _, _ => none
def tupC : List V → Option V
  | [v] => some v
  | vs => match partsV vs with
    | some ps => some (.t ps)
    | none => none
def resOne (tmps : Array Value) : ResultVar → Sem Value
  | .tmp t => pure (tmps.getD t undef)
  | .cell a t => do loadVar t (← asAddr (tmps.getD a undef))
theorem results_eq {fn : Func} {tmps : Array Value} : results fn tmps = (do let vs ← fn.results.mapM (resOne tmps); pure (if h : vs.size = 1 then vs[0] else .tuple vs)) := by
  unfold results
  congr 2
/-- The slots, without what is owed of deferred calls. -/
structure Slots (c : Ctx) (s : Sf) (e : Env) (tmps : Array Value) : Prop where
  tmp : ∀ i v, s (.t i) = some (.v v) → ∃ u, tmps[i]? = some u ∧ OkV s e v u
theorem resC_ok {r : ResultVar} {v : V} (h : resC c.P s r = some v) {tmps : Array Value} (hS : Slots c s e tmps) (hW : RealW c s e w) : ∃ u, (resOne tmps r).run c.P w = .ok u w ∧ OkV s e v u ∧ ∀ n ∈ v.names, s (.l n) ≠ none := by
  have slot : ∀ {i v}, opv s (.tmp i) = some v → OkV s e v (tmps.getD i undef) ∧ ∀ n ∈ v.names, s (.l n) ≠ none := fun {i v} hx => by
    refine ⟨?_, opv_names hx hW.cl⟩
    simp only [opv] at hx
    split at hx
    · rename_i u hu
      cases hx
      obtain ⟨u, h1, h2⟩ := hS.tmp i _ hu
      simpa [Array.getD_eq_getD_getElem?, h1] using h2
    · cases hx
  cases r with
  | tmp t => exact ⟨_, rfl, (slot h).1, (slot h).2⟩
  | cell a t =>
    simp only [resC] at h
    split at h
    · rename_i n o hx
      split at h
      · rename_i b ha hb
        split at h
        · rename_i own l hl
          have ex : tmps.getD a undef = .pointer (some ⟨e.id n, e.bs n + o, none⟩) := (slot hx).1 fun m hm => by
            simp only [C.names, List.mem_singleton] at hm; subst hm; exact ha
          have hM := hW.cells ha hb hl
          have hnm : ∀ x ∈ l, ∀ m ∈ x.names, s (.l m) ≠ none := fun x hx m hm => by
            refine hW.cl.1 (.b n) (.b b) hb m ?_
            show m ∈ b.names
            rw [← B.cellsC_names hl]
            exact List.mem_flatMap.2 ⟨x, hx, hm⟩
          cases hr : tRow c.P t with
          | none => rw [hr] at h; cases h
          | some row =>
            rw [hr] at h
            cases row with
            | false =>
              simp only at h
              split at h
              · rename_i x hx2
                cases h
                obtain ⟨u, h1, h2⟩ := hM.cell hx2
                refine ⟨u, ?_, h2.ok, fun m hm => hnm x (List.mem_of_getElem? hx2) m hm⟩
                simp only [resOne, ex, asAddr, Sem.run_bind, Sem.run_pure, Result.andThen_ok, loadVar, run_row hr]
                simp [run_load, h1]
              · cases h
            | true =>
              simp only at h
              split at h
              · rename_i k hk
                split at h
                · rename_i hle
                  cases h
                  obtain ⟨us, h1, h2, h3⟩ := hM.range o k hle
                  refine ⟨.agg us.toArray, ?_, ⟨us, rfl, h2⟩, fun m hm => ?_⟩
                  · have hl' : (loadCells ⟨e.id n, e.bs n + o, none⟩ us.length).run c.P w = .ok us.toArray w :=
                      run_loadCells_list (P := c.P) w ⟨e.id n, e.bs n + o, none⟩ us (fun j v hv => by rw [Addr.add_mid]; exact h3 j v hv)
                    simp only [resOne, ex, asAddr, Sem.run_bind, Sem.run_pure, Result.andThen_ok, loadVar, run_row hr, if_true, run_sz hk, ← h1, hl']
                  · simp only [V.names, List.mem_flatMap] at hm
                    obtain ⟨y, hy, hm⟩ := hm
                    exact hnm y (List.mem_of_mem_drop (List.mem_of_mem_take hy)) m hm
                · cases h
              · cases h
        · cases h
      · cases h
    · cases h
def OkVs (s : Sf) (e : Env) : List V → List Value → Prop
  | [], us => us = []
  | v :: vs, us => ∃ u r, us = u :: r ∧ OkV s e v u ∧ OkVs s e vs r
theorem resL_ok {tmps : Array Value} (hS : Slots c s e tmps) (hW : RealW c s e w) : ∀ {rs : List ResultVar} {vs : List V}, resL c.P s rs = some vs → ∃ us : List Value, (rs.mapM (m := Sem) (resOne tmps)).run c.P w = .ok us w ∧ OkVs s e vs us ∧ ∀ v ∈ vs, ∀ n ∈ v.names, s (.l n) ≠ none
  | [], vs, h => by simp only [resL, Option.some.injEq] at h; subst h; exact ⟨[], rfl, rfl, fun v hv => by cases hv⟩
  | r :: rs, vs, h => by
    simp only [resL] at h
    split at h
    · rename_i v vs' hv hvs
      cases h
      obtain ⟨u, h1, h2, h3⟩ := resC_ok hv hS hW
      obtain ⟨us, h4, h5, h6⟩ := resL_ok hS hW hvs
      refine ⟨u :: us, ?_, ⟨u, us, rfl, h2, h5⟩, fun y hy => ?_⟩
      · rw [List.mapM_cons]; simp only [Sem.run_bind, h1, Result.andThen_ok, h4, Sem.run_pure]
      · rcases List.mem_cons.1 hy with rfl | hy
        · exact h3
        · exact h6 y hy
    · cases h
theorem OkVs.length : ∀ {vs : List V} {us : List Value}, OkVs s e vs us → us.length = vs.length
  | [], _, h => by rw [h]; rfl
  | v :: vs, _, ⟨u, r, hu, _, h⟩ => by rw [hu]; simp [h.length]
theorem partsV_ok : ∀ {vs : List V} {ps : List (C ⊕ List C)} {us : List Value}, partsV vs = some ps → OkVs s e vs us → OkT s e ps us ∧ ∀ n ∈ ps.flatMap namesP, ∃ v ∈ vs, n ∈ v.names
  | [], ps, us, h, hv => by simp only [partsV, Option.some.injEq] at h; subst h; exact ⟨hv, fun n hn => by cases hn⟩
  | v :: vs, ps, us, h, ⟨u, r, hu, h1, h2⟩ => by
    simp only [partsV] at h
    split at h
    · rename_i p ps' hp hps
      cases h
      obtain ⟨h3, h4⟩ := partsV_ok hps h2
      refine ⟨⟨u, r, hu, ?_, h3⟩, fun n hn => ?_⟩
      · cases v with
        | c x => cases hp; exact h1
        | a l => cases hp; exact h1
        | t l => cases hp
      · rw [List.flatMap_cons] at hn
        rcases List.mem_append.1 hn with hn | hn
        · refine ⟨v, List.mem_cons_self, ?_⟩
          cases v with
          | c x => cases hp; exact hn
          | a l => cases hp; exact hn
          | t l => cases hp
        · obtain ⟨y, hy, hn⟩ := h4 n hn; exact ⟨y, List.mem_cons_of_mem _ hy, hn⟩
    · cases h
theorem results_ok {fn : Func} {tmps : Array Value} {vs : List V} {v : V} (hS : Slots c s e tmps) (hW : RealW c s e w) (hr : resL c.P s fn.results.toList = some vs) (hv : tupC vs = some v) :
    ∃ u, (results fn tmps).run c.P w = .ok u w ∧ OkV s e v u ∧ ∀ n ∈ v.names, s (.l n) ≠ none := by
  obtain ⟨us, h1, h2, h3⟩ := resL_ok hS hW hr
  have hm : (fn.results.mapM (m := Sem) (resOne tmps)).run c.P w = .ok us.toArray w := by
    rw [Array.mapM_eq_mapM_toList]
    rw [show (List.toArray <$> List.mapM (m := Sem) (resOne tmps) fn.results.toList : Sem (Array Value)) = (do let r ← List.mapM (m := Sem) (resOne tmps) fn.results.toList; pure r.toArray) from rfl]
    rw [Sem.run_bind, h1]; rfl
  have hlen := h2.length
  have hrun : (results fn tmps).run c.P w = .ok (if h : us.toArray.size = 1 then us.toArray[0] else .tuple us.toArray) w := by
    rw [results_eq, Sem.run_bind, hm]; rfl
  unfold tupC at hv
  split at hv
  · rename_i v0
    cases hv
    obtain ⟨u, r, rfl, h4, h5⟩ := h2
    have : r = [] := h5
    subst this
    exact ⟨u, by rw [hrun]; simp, h4, h3 v (by simp)⟩
  · rename_i hne
    split at hv
    · rename_i ps hps
      cases hv
      obtain ⟨h4, h5⟩ := partsV_ok hps h2
      have hs : us.toArray.size ≠ 1 := fun h => by
        simp only [List.size_toArray] at h
        have : vs.length = 1 := by omega
        match vs, this with
        | [v], _ => exact hne v rfl
      refine ⟨.tuple us.toArray, by rw [hrun, dif_neg hs], ⟨us, rfl, h4⟩, fun n hn => ?_⟩
      obtain ⟨y, hy, hn⟩ := h5 n hn
      exact h3 y hy n hn
    · cases hv
/-- What a call comes to: of these arguments, where h stands, whatever else there is. -/
def CT (P : Program) (f : FuncId) (args : List V) (h : Sf) (lo hi : Nat) (v : V) (h' : Sf) : Prop :=
  ∀ (c : Ctx) (e : Env) (w : World) (us : List Value), c.P = P → (∀ n, lo ≤ n → n < hi → ¬ c.gv n) → RealW c h e w → OkVs h e args us → (∀ v ∈ args, ∀ n ∈ v.names, h (.l n) ≠ none) →
    Calls P f us.toArray w fun en w' => ∃ u e', en = .returned u ∧ RealW c h' e' w' ∧ OkV h' e' v u ∧ ∀ n ∈ v.names, h' (.l n) ≠ none
/-- The heap part of a state. -/
def hp (s : Sf) : Sf
  | .t _ => none
  | q => s q
/-- The state in which a function begins. -/
def argS (args : List V) (h : Sf) : Sf
  | .t i => (args[i]?).map KV.v
  | q => h q
theorem OkVs.get : ∀ {vs : List V} {us : List Value} {i : Nat} {v : V}, OkVs s e vs us → vs[i]? = some v → ∃ u, us[i]? = some u ∧ OkV s e v u
  | [], _, _, _, _, hx => by simp at hx
  | y :: l, _, 0, x, ⟨u, r, hu, h1, _⟩, hx => by
    simp only [List.getElem?_cons_zero, Option.some.injEq] at hx
    subst hx; rw [hu]; exact ⟨u, rfl, h1⟩
  | y :: l, _, i + 1, x, ⟨u, r, hu, _, h2⟩, hx => by
    rw [hu]; simpa using h2.get (i := i) (by simpa using hx)
/-- The marks are taken, then the results. -/
def killM (s : Sf) : List Nat → Sf
  | [] => s
  | n :: l => killM (upd s [(.l n, .l false)]) l
theorem killM_b : ∀ (l : List Nat) (s : Sf) (n : Nat), killM s l (.b n) = s (.b n)
  | [], s, n => rfl
  | k :: l, s, n => by rw [killM, killM_b l, upd_cons_ne _ _ _ (by simp), upd_nil]
theorem killM_t : ∀ (l : List Nat) (s : Sf) (i : Nat), killM s l (.t i) = s (.t i)
  | [], s, n => rfl
  | k :: l, s, n => by rw [killM, killM_t l, upd_cons_ne _ _ _ (by simp), upd_nil]
theorem killM_l : ∀ (l : List Nat) (s : Sf) (n : Nat), killM s l (.l n) = if n ∈ l then some (.l false) else s (.l n)
  | [], s, n => by simp [killM]
  | k :: l, s, n => by
    rw [killM, killM_l l, upd_cons, upd_nil]
    by_cases h1 : n ∈ l
    · simp [h1]
    · by_cases h2 : k = n
      · simp [h2]
      · have h3 : ¬ n = k := fun e => h2 e.symm
        simp [h1, h2, h3]
theorem leaves_marks {P : Program} {fn : Func} {tmps : Array Value} {R : Ending → World → Prop} : ∀ (l : List Nat) (s : Sf) (w : World), c.P = P → RealW c s e w → l.Nodup → (∀ n ∈ l, s (.l n) = some (.l true) ∧ s (.b n) = some (.b .df)) →
    (∀ w', RealW c (killM s l) e w' → ∃ v, (results fn tmps).run P w' = .ok v w' ∧ R (.returned v) w') → LeavesInM Fence.wide nn P fn tmps R (l.map fun n => mark1 (e.id n)) .returning w
  | [], s, w, hP, hW, _, _, hK => hK w hW
  | n :: l, s, w, hP, hW, hnd, hm, hK => by
    obtain ⟨ha, hb⟩ := hm n List.mem_cons_self
    obtain ⟨hrm, hD⟩ := hW.blk n .df ha hb
    have hlt : e.id n < w.heap.size := (Array.getElem?_eq_some_iff.1 hD).1
    rw [List.nodup_cons] at hnd
    refine ⟨by simp, .inl ⟨e.id n, _, rfl, run_takeDeferred hD, ?_⟩⟩
    refine leaves_marks l (upd s [(.l n, .l false)]) _ hP (hW.drop ha hb rfl (by omega) (fun k hk => World.putObj_heap_other hk) (by simp [World.putObj]) rfl rfl rfl) hnd.2 (fun k hk => ?_) hK
    have hne : n ≠ k := fun h => hnd.1 (h ▸ hk)
    rw [upd_cons_ne _ _ _ (by simpa using hne), upd_nil, upd_cons_ne _ _ _ (by simp), upd_nil]
    exact hm k (List.mem_cons_of_mem _ hk)
/-- Where a body ends. -/
theorem KW_leave {P : Program} {fn : Func} {R : Ending → World → Prop} {vs : List V} {v : V} {x : Exit} (hx : x = .ret ∨ x = .normal) (hP : c.P = P) (hnd : c.fm.Nodup) (hr : resL P (killM σ c.fm) fn.results.toList = some vs) (hv : tupC vs = some v)
    (h : ∀ e u w, RealW c (killM σ c.fm) e w → OkV (killM σ c.fm) e v u → (∀ n ∈ v.names, killM σ c.fm (.l n) ≠ none) → R (.returned u) w) : KW c (bodyPostM Fence.wide nn P fn R x) σ := ⟨fun e a w hR => by
  have key : LeavesInM Fence.wide nn P fn a.tmps R a.defers .returning w := by
    rw [hR.defers]
    refine leaves_marks c.fm σ w hP hR.W hnd hR.fml fun w' hW => ?_
    subst hP
    have hS : Slots c (killM σ c.fm) e a.tmps := ⟨fun i v hx => by
      rw [killM_t] at hx
      obtain ⟨u, h1, h2⟩ := hR.tmp i v hx
      exact ⟨u, h1, h2.mono fun m hm => ⟨fun hl => by
        unfold live at *
        rw [killM_l] at hl
        split at hl
        · cases hl
        · exact hl, .rfl⟩⟩⟩
    obtain ⟨u, h1, h2, h3⟩ := results_ok hS hW hr hv
    exact ⟨u, h1, h e u w' hW h2 h3⟩
  rcases hx with rfl | rfl <;> exact key⟩
/-- A function's contract out of its body. -/
theorem CT.enter {P : Program} {f : FuncId} {fn : Func} {code : Code} {args : List V} {h h' : Sf} {lo hi : Nat} {v : V} (hf : P.funcs[f]? = some fn) (hb : fn.body = some code) (hle : args.length ≤ fn.ntmps)
    (hC : ∀ (c : Ctx) (R : Ending → World → Prop), c.P = P → (∀ n, lo ≤ n → n < hi → ¬ c.gv n) → c.N = fn.ntmps → c.fm = [] → (∀ e u w, RealW c h' e w → OkV h' e v u → (∀ n ∈ v.names, h' (.l n) ≠ none) → R (.returned u) w) → CW c Fence.wide 0 code (bodyPostM Fence.wide 0 P fn R) (argS args h)) :
    CT P f args h lo hi v h' := by
  intro c e w us hP hm hW hu hn
  refine (callsIn_wide (n := 0)).1 (callsIn_of_wp_marks hf hb trivial ?_)
  have hlen := hu.length
  have hC' := hC ⟨P, c.w0, c.tch, c.gv, c.ini, fn.ntmps, []⟩ (fun en w' => ∃ u e', en = .returned u ∧ RealW c h' e' w' ∧ OkV h' e' v u ∧ ∀ n ∈ v.names, h' (.l n) ≠ none) rfl hm rfl rfl
    (fun e' u w' hW' hu' hn' => ⟨u, e', rfl, ⟨hW'.blk, hW'.sep, hW'.own, hW'.cl, hW'.given, hW'.os, hW'.tape, hW'.output, hW'.size, hW'.old⟩, hu', hn'⟩)
  subst hP
  refine hC'.go e _ w ⟨?_, rfl, (fun n hn => by cases hn), (by simp; omega), fun i x hx => ?_⟩
  · have hW2 : RealW ⟨c.P, c.w0, c.tch, c.gv, c.ini, fn.ntmps, []⟩ h e w := ⟨hW.blk, hW.sep, hW.own, hW.cl, hW.given, hW.os, hW.tape, hW.output, hW.size, hW.old⟩
    refine hW2.slots (fun n => rfl) (fun n => rfl) ⟨fun q x hx n hn' => ?_, fun n hx => hW.cl.2 n hx⟩
    cases q with
    | t i =>
      simp only [argS, Option.map_eq_some_iff] at hx
      obtain ⟨y, hy, rfl⟩ := hx
      exact hn y (List.mem_of_getElem? hy) n hn'
    | b k => exact hW.cl.1 (.b k) x hx n hn'
    | l k => exact hW.cl.1 (.l k) x hx n hn'
  · simp only [argS, Option.map_eq_some_iff] at hx
    obtain ⟨y, hy, he⟩ := hx
    cases he
    obtain ⟨u, h1, h2⟩ := hu.get hy
    have hlt : i < us.length := (List.getElem?_eq_some_iff.1 h1).1
    refine ⟨u, ?_, OkV.mono (s := h) (s' := argS args h) (fun m _ => ⟨fun hl => hl, .rfl⟩) h2⟩
    rw [Array.getElem?_append_left (by simpa using hlt)]
    simpa using h1
end
end Go.Proofs.YtafhojmnbpegpaaGreat.EV
namespace Go.Proofs.YtafhojmnbpegpaaGreat.EV
open Go.RowKit
/-- What a callee is shown: not the names of X. -/
def mask (σ : Sf) (X : Nat → Bool) : Sf
  | .t _ => none
  | .b n => σ (.b n)
  | .l n => if X n = true then (match σ (.l n) with | none => none | some _ => some (.l false)) else σ (.l n)
section
variable {c : Ctx} {F : Fence} {nn : Nat} {σ s : Sf} {e : Env} {a : Act} {w w' : World} {Q : Exit → Act → World → Prop}
theorem mask_ne {X : Nat → Bool} {n : Nat} (h : σ (.l n) ≠ none) : mask σ X (.l n) ≠ none := by
  simp only [mask]
  split
  · cases hx : σ (.l n) with
    | none => exact absurd hx h
    | some _ => simp
  · exact h
theorem mask_alive {X : Nat → Bool} {n : Nat} (h : mask σ X (.l n) = some (.l true)) : X n = false ∧ σ (.l n) = some (.l true) := by
  simp only [mask] at h
  split at h
  · split at h <;> cases h
  · rename_i hx; exact ⟨by simpa using hx, h⟩
theorem mask_off {X : Nat → Bool} {n : Nat} (h : X n = false) : mask σ X (.l n) = σ (.l n) := by simp [mask, h]
theorem Cl.mask (h : Cl σ) (X : Nat → Bool) : Cl (mask σ X) := by
  refine ⟨fun q x hx n hn => ?_, fun n hn => mask_ne (h.2 n hn)⟩
  cases q with
  | t i => cases hx
  | b k => exact mask_ne (h.1 (.b k) x hx n hn)
  | l k =>
    simp only [EV.mask] at hx
    split at hx
    · split at hx
      · cases hx
      · cases hx; cases hn
    · exact mask_ne (h.1 (.l k) x hx n hn)
theorem RealW.mask (h : RealW c s e w) (hcl : Cl σ) {X : Nat → Bool} {hi : Nat} (hag : ∀ n, n < hi → X n = false → s (.l n) = σ (.l n) ∧ s (.b n) = σ (.b n)) (hfr : ∀ n, hi ≤ n → σ (.l n) = none) : RealW c (mask σ X) e w ∧ ∀ n, live (EV.mask σ X) n → live s n ∧ n < hi ∧ X n = false := by
  have key : ∀ n, EV.mask σ X (.l n) = some (.l true) → s (.l n) = some (.l true) ∧ s (.b n) = EV.mask σ X (.b n) ∧ n < hi ∧ X n = false := fun n hn => by
    obtain ⟨h1, h2⟩ := mask_alive hn
    have hlt : n < hi := by
      rcases Nat.lt_or_ge n hi with h3 | h3
      · exact h3
      · rw [hfr n h3] at h2; cases h2
    obtain ⟨h3, h4⟩ := hag n hlt h1
    exact ⟨h3.trans h2, h4, hlt, h1⟩
  refine ⟨⟨fun n b h1 h2 => ?_, fun n n' b b' h1 h2 h3 h4 => ?_, fun n b h1 h2 => ?_, hcl.mask X, h.given, h.os, h.tape, h.output, h.size, h.old⟩, fun n hn => ⟨(key n hn).1, (key n hn).2.2⟩⟩
  · obtain ⟨g1, g2, _⟩ := key n h1
    exact (h.blk n b g1 (g2.trans h2)).mono (fun m _ => ⟨fun hl => (key m hl).1, .rfl⟩) .rfl (fun _ => rfl)
  · obtain ⟨g1, g2, _⟩ := key n h1
    obtain ⟨g3, g4, _⟩ := key n' h3
    exact h.sep n n' b b' g1 (g2.trans h2) g3 (g4.trans h4)
  · obtain ⟨g1, g2, _⟩ := key n h1
    exact h.own n b g1 (g2.trans h2)
/-- What is asked of a call's outcome. -/
structure CallOk (c : Ctx) (σ : Sf) (X : Nat → Bool) (lo hi : Nat) (v : V) (h' : Sf) (ws : Ws) : Prop where
  le : lo ≤ hi
  gv : ∀ n, lo ≤ n → n < hi → ¬ c.gv n
  fr : ∀ n, lo ≤ n → σ (.l n) = none
  bl : ∀ n, σ (.l n) ≠ none → ∃ b, σ (.b n) = some (.b b)
  xl : ∀ n, X n = true → n < lo
  wk : ∀ q x, lookW ws q = some x → h' q = some x ∧ (∃ n, (q = .l n ∨ q = .b n) ∧ X n = false ∧ n < hi) ∧ ∀ n ∈ x.names, X n = false
  nl : ∀ n, lookW ws (.l n) = none → h' (.l n) = mask σ X (.l n)
  nb : ∀ n, lookW ws (.b n) = none → h' (.b n) = mask σ X (.b n)
  xn : ∀ n b, X n = false → σ (.b n) = some (.b b) → ∀ m ∈ b.names, X m = false
  vx : ∀ n ∈ v.names, X n = false
  rev : ∀ n, n < lo → h' (.l n) = some (.l true) → σ (.l n) = some (.l true)
  fo : ∀ n b, lo ≤ n → h' (.b n) = some (.b b) → b.own = true
  fm : ∀ n ∈ c.fm, lookW ws (.l n) = none ∧ lookW ws (.b n) = none
theorem Real.called (hR : Real c s e a w) (hcl : Cl σ) {X : Nat → Bool} {lo hi : Nat} {v : V} {h' : Sf} {ws : Ws} (hC : CallOk c σ X lo hi v h' ws) (hag : ∀ n, n < hi → X n = false → s (.l n) = σ (.l n) ∧ s (.b n) = σ (.b n)) :
    ∃ c3 : Ctx, c3.P = c.P ∧ (∀ n, lo ≤ n → n < hi → ¬ c3.gv n) ∧ RealW c3 (mask σ X) e w ∧
      ∀ u e' w', RealW c3 h' e' w' → OkV h' e' v u → (∀ n ∈ v.names, h' (.l n) ≠ none) → Real c (upd s ws) e' a w' ∧ OkV (upd s ws) e' v u ∧ ∀ n ∈ v.names, upd s ws (.l n) ≠ none := by
  have hfr' : ∀ n, hi ≤ n → σ (.l n) = none := fun n hn => hC.fr n (Nat.le_trans hC.le hn)
  obtain ⟨hM, hlv⟩ := hR.W.mask hcl hag hfr'
  have hW := hR.W
  refine ⟨⟨c.P, w, fun k => ∃ n b, s (.l n) = some (.l true) ∧ s (.b n) = some (.b b) ∧ b.own = true ∧ e.rm n ≠ 0 ∧ e.id n = k ∧ n < hi ∧ X n = false, fun n => n < lo ∨ hi ≤ n, e, c.N, []⟩, rfl, fun n h1 h2 h => by (have : n < lo ∨ hi ≤ n := h; omega), ⟨hM.blk, hM.sep, ?_, hM.cl, fun n _ => .rfl, rfl, rfl, rfl, Nat.le_refl _, fun k _ _ => rfl⟩, ?_⟩
  · intro n b h1 h2 ho
    by_cases h0 : e.rm n = 0
    · exact .inl h0
    · obtain ⟨g1, g2, g3⟩ := hlv n h1
      exact .inr (.inr ⟨n, b, g1, (hag n g2 g3).2.trans h2, ho, h0, rfl, g2, g3⟩)
  intro u e' w' hW' hu hvn
  -- who is inside
  have inside : ∀ n, n < hi → X n = false → upd s ws (.l n) = h' (.l n) ∧ upd s ws (.b n) = h' (.b n) := fun n h1 h2 => by
    constructor
    · cases hl : lookW ws (.l n) with
      | some x => simp only [upd, hl, Option.some_or]; exact (hC.wk _ _ hl).1.symm
      | none => simp only [upd, hl, Option.none_or]; rw [(hag n h1 h2).1, hC.nl n hl, mask_off h2]
    · cases hl : lookW ws (.b n) with
      | some x => simp only [upd, hl, Option.some_or]; exact (hC.wk _ _ hl).1.symm
      | none => simp only [upd, hl, Option.none_or]; rw [(hag n h1 h2).2, hC.nb n hl]; rfl
  have outside : ∀ n, ¬ (n < hi ∧ X n = false) → upd s ws (.l n) = s (.l n) ∧ upd s ws (.b n) = s (.b n) := fun n hn => by
    constructor
    · cases hl : lookW ws (.l n) with
      | some x =>
        obtain ⟨_, ⟨k, hk, h1, h2⟩, _⟩ := hC.wk _ _ hl
        rcases hk with hk | hk <;> cases hk
        exact absurd ⟨h2, h1⟩ hn
      | none => simp only [upd, hl, Option.none_or]
    · cases hl : lookW ws (.b n) with
      | some x =>
        obtain ⟨_, ⟨k, hk, h1, h2⟩, _⟩ := hC.wk _ _ hl
        rcases hk with hk | hk <;> cases hk
        exact absurd ⟨h2, h1⟩ hn
      | none => simp only [upd, hl, Option.none_or]
  have slot : ∀ i, upd s ws (.t i) = s (.t i) := fun i => by
    cases hl : lookW ws (.t i) with
    | some x =>
      obtain ⟨_, ⟨k, hk, h1, h2⟩, _⟩ := hC.wk _ _ hl
      rcases hk with hk | hk <;> cases hk
    | none => simp only [upd, hl, Option.none_or]
  have hnone : ∀ n, hi ≤ n → h' (.l n) = none := fun n hn => by
    cases hl : lookW ws (.l n) with
    | some x =>
      obtain ⟨_, ⟨k, hk, h1, h2⟩, _⟩ := hC.wk _ _ hl
      rcases hk with hk | hk <;> cases hk
      omega
    | none =>
      rw [hC.nl n hl]
      cases hx : X n with
      | false => rw [mask_off hx]; exact hfr' n hn
      | true => simp [EV.mask, hx, hfr' n hn]
  have hlt : ∀ n, h' (.l n) ≠ none → n < hi := fun n hn => by
    rcases Nat.lt_or_ge n hi with h | h
    · exact h
    · exact absurd (hnone n h) hn
  have sNone : ∀ n, lo ≤ n → n < hi → X n = false → s (.l n) = none := fun n h1 h2 h3 => (hag n h2 h3).1.trans (hC.fr n h1)
  -- names that were made keep their places
  have same : ∀ n, (n < lo ∨ hi ≤ n) → e.same e' n := fun n hn => (hW'.given n hn).symm
  -- names of the state s: none of them is new
  have old : ∀ m, s (.l m) ≠ none → (m < lo ∨ hi ≤ m) := fun m hm => by
    rcases Nat.lt_or_ge m lo with h | h
    · exact .inl h
    · rcases Nat.lt_or_ge m hi with h2 | h2
      · have hx : X m = false := by
          cases hx : X m with
          | false => rfl
          | true => have := hC.xl m hx; omega
        exact absurd (sNone m h h2 hx) hm
      · exact .inr h2
  have oldl : ∀ m, s (.l m) ≠ none → live (upd s ws) m → live s m := fun m hm hl => by
    by_cases hin : m < hi ∧ X m = false
    · unfold live at *
      rw [(inside m hin.1 hin.2).1] at hl
      have hmlo : m < lo := by
        rcases old m hm with h | h
        · exact h
        · omega
      rw [(hag m hin.1 hin.2).1]; exact hC.rev m hmlo hl
    · unfold live at *; rw [(outside m hin).1] at hl; exact hl
  have mo : ∀ m, s (.l m) ≠ none → Mo s e (upd s ws) e' m := fun m hm => ⟨oldl m hm, same m (old m hm)⟩
  have aliveS : ∀ m, s (.l m) = some (.l true) → s (.l m) ≠ none := fun m hm => by rw [hm]; simp
  -- a block outside stands as it stood
  have stood : ∀ n b, ¬ (n < hi ∧ X n = false) → s (.l n) = some (.l true) → s (.b n) = some (.b b) → e.rm n ≠ 0 → w'.heap[e.id n]? = w.heap[e.id n]? := fun n b hn h1 h2 h0 => by
    refine hW'.old (e.id n) ((hW.blk n b h1 h2).lt h0) ?_
    rintro ⟨n2, b2, g1, g2, g3, g4, g5, g6, g7⟩
    have hne : n2 ≠ n := fun e => by subst e; exact hn ⟨g6, g7⟩
    rcases hW.sep n2 n b2 b g1 g2 h1 h2 hne g3 with h | h | h
    · exact g4 h
    · exact h0 h
    · exact h g5
  -- an own block inside lies apart from what is outside
  have apart : ∀ n b n' b', n < hi → X n = false → h' (.l n) = some (.l true) → h' (.b n) = some (.b b) → b.own = true → ¬ (n' < hi ∧ X n' = false) → s (.l n') = some (.l true) → s (.b n') = some (.b b') → e'.rm n = 0 ∨ e.rm n' = 0 ∨ e'.id n ≠ e.id n' := fun n b n' b' h1 h2 h3 h4 h5 hn' h6 h7 => by
    rcases hW'.own n b h3 h4 h5 with h | h | ⟨n2, b2, g1, g2, g3, g4, g5, g6, g7⟩
    · exact .inl h
    · by_cases h0 : e.rm n' = 0
      · exact .inr (.inl h0)
      · have := (hW.blk n' b' h6 h7).lt h0
        have h9 : w.heap.size ≤ e'.id n := h
        exact .inr (.inr (by omega))
    · have hne : n2 ≠ n' := fun e => by subst e; exact hn' ⟨g6, g7⟩
      rcases hW.sep n2 n' b2 b' g1 g2 h6 h7 hne g3 with h | h | h
      · exact absurd h g4
      · exact .inr (.inl h)
      · exact .inr (.inr (by rw [← g5]; exact h))
  -- names of what a block inside holds are inside
  have innames : ∀ n b, n < hi → X n = false → h' (.b n) = some (.b b) → ∀ m ∈ b.names, m < hi ∧ X m = false := fun n b h1 h2 h3 m hm => by
    have hne : h' (.l m) ≠ none := hW'.cl.1 (.b n) (.b b) h3 m hm
    refine ⟨hlt m hne, ?_⟩
    cases hl : lookW ws (.b n) with
    | some x =>
      obtain ⟨g1, _, g3⟩ := hC.wk _ _ hl
      rw [h3] at g1; cases g1
      exact g3 m hm
    | none =>
      have := hC.nb n hl
      rw [h3] at this
      exact hC.xn n b h2 this.symm m hm
  have hRW : RealW c (upd s ws) e' w' := by
    refine ⟨fun n b h1 h2 => ?_, fun n n' b b' h1 h2 h3 h4 hnn ho => ?_, fun n b h1 h2 ho => ?_, ⟨fun q x hx m hm => ?_, fun n hn => ?_⟩, fun n hn => ?_, hW'.os.trans hW.os, hW'.tape.trans hW.tape, hW'.output.trans hW.output, Nat.le_trans hW.size hW'.size, fun k hk ht => ?_⟩
    · by_cases hin : n < hi ∧ X n = false
      · rw [(inside n hin.1 hin.2).1] at h1
        rw [(inside n hin.1 hin.2).2] at h2
        exact (hW'.blk n b h1 h2).mono (fun m hm => by
          obtain ⟨g1, g2⟩ := innames n b hin.1 hin.2 h2 m hm
          exact ⟨fun hl => by unfold live at *; rw [(inside m g1 g2).1] at hl; exact hl, .rfl⟩) .rfl (fun _ => rfl)
      · rw [(outside n hin).1] at h1
        rw [(outside n hin).2] at h2
        exact (hW.blk n b h1 h2).mono (fun m hm => mo m (hW.cl.1 (.b n) (.b b) h2 m hm)) (same n (old n (aliveS n h1))) (stood n b hin h1 h2)
    · by_cases hin : n < hi ∧ X n = false
      · rw [(inside n hin.1 hin.2).1] at h1
        rw [(inside n hin.1 hin.2).2] at h2
        by_cases hin' : n' < hi ∧ X n' = false
        · rw [(inside n' hin'.1 hin'.2).1] at h3
          rw [(inside n' hin'.1 hin'.2).2] at h4
          exact hW'.sep n n' b b' h1 h2 h3 h4 hnn ho
        · rw [(outside n' hin').1] at h3
          rw [(outside n' hin').2] at h4
          have hs := same n' (old n' (aliveS n' h3))
          rw [← hs.rm, ← hs.id]
          exact apart n b n' b' hin.1 hin.2 h1 h2 ho hin' h3 h4
      · rw [(outside n hin).1] at h1
        rw [(outside n hin).2] at h2
        have hs := same n (old n (aliveS n h1))
        by_cases hin' : n' < hi ∧ X n' = false
        · rw [(inside n' hin'.1 hin'.2).1] at h3
          rw [(inside n' hin'.1 hin'.2).2] at h4
          rw [← hs.rm, ← hs.id]
          by_cases hlo : n' < lo
          · -- it was there
            have a1 : σ (.l n') = some (.l true) := hC.rev n' hlo h3
            obtain ⟨b2, hb2⟩ := hC.bl n' (by rw [a1]; simp)
            have hs' := same n' (.inl hlo)
            rw [← hs'.rm, ← hs'.id]
            exact hW.sep n n' b b2 h1 h2 ((hag n' hin'.1 hin'.2).1.trans a1) ((hag n' hin'.1 hin'.2).2.trans hb2) hnn ho
          · rcases apart n' b' n b hin'.1 hin'.2 h3 h4 (hC.fo n' b' (by omega) h4) hin h1 h2 with h | h | h
            · exact .inr (.inl h)
            · exact .inl h
            · exact .inr (.inr (fun e => h e.symm))
        · rw [(outside n' hin').1] at h3
          rw [(outside n' hin').2] at h4
          have hs' := same n' (old n' (aliveS n' h3))
          rw [← hs.rm, ← hs.id, ← hs'.rm, ← hs'.id]
          exact hW.sep n n' b b' h1 h2 h3 h4 hnn ho
    · by_cases hin : n < hi ∧ X n = false
      · rw [(inside n hin.1 hin.2).1] at h1
        rw [(inside n hin.1 hin.2).2] at h2
        rcases hW'.own n b h1 h2 ho with h | h | ⟨n2, b2, g1, g2, g3, g4, g5, g6, g7⟩
        · exact .inl h
        · have h9 : w.heap.size ≤ e'.id n := h
          exact .inr (.inl (Nat.le_trans hW.size h9))
        · rcases hW.own n2 b2 g1 g2 g3 with h | h | h
          · exact absurd h g4
          · exact .inr (.inl (by rw [← g5]; exact h))
          · exact .inr (.inr (by rw [← g5]; exact h))
      · rw [(outside n hin).1] at h1
        rw [(outside n hin).2] at h2
        have hs := same n (old n (aliveS n h1))
        rw [← hs.rm, ← hs.id]
        exact hW.own n b h1 h2 ho
    · have hin_ne : ∀ m, s (.l m) ≠ none → upd s ws (.l m) ≠ none := fun m hm => by
        simp only [upd]
        cases lookW ws (.l m) with
        | some y => simp
        | none => simpa using hm
      cases hl : lookW ws q with
      | some y =>
        have hy : y = x := by simpa [upd, hl] using hx
        subst hy
        obtain ⟨g1, _, g3⟩ := hC.wk _ _ hl
        have hne := hW'.cl.1 q y g1 m hm
        rw [(inside m (hlt m hne) (g3 m hm)).1]; exact hne
      | none =>
        have hy : s q = some x := by simpa [upd, hl] using hx
        exact hin_ne m (hW.cl.1 q x hy m hm)
    · by_cases hin : n < hi ∧ X n = false
      · rw [(inside n hin.1 hin.2).2] at hn
        rw [(inside n hin.1 hin.2).1]; exact hW'.cl.2 n hn
      · rw [(outside n hin).2] at hn
        rw [(outside n hin).1]; exact hW.cl.2 n hn
    · have hlh : n < lo ∨ hi ≤ n := by
        rcases Nat.lt_or_ge n lo with h | h
        · exact .inl h
        · rcases Nat.lt_or_ge n hi with h2 | h2
          · exact absurd hn (hC.gv n h h2)
          · exact .inr h2
      exact (same n hlh).symm.trans (hW.given n hn)
    · rw [← hW.old k hk ht]
      refine hW'.old k (Nat.lt_of_lt_of_le hk hW.size) ?_
      rintro ⟨n2, b2, g1, g2, g3, g4, g5, g6, g7⟩
      rcases hW.own n2 b2 g1 g2 g3 with h | h | h
      · exact g4 h
      · have : k < c.B := hk
        omega
      · exact ht (g5 ▸ h)
  refine ⟨⟨hRW, ?_, fun n hn => ?_, hR.slots, fun i v hx => ?_⟩, OkV.mono (s := h') (s' := upd s ws) (fun m hm => ⟨fun hl => ?_, .rfl⟩) hu, fun m hm => ?_⟩
  · rw [hR.defers]
    exact List.map_congr_left fun n hn => by rw [(same n (old n (aliveS n (hR.fml n hn).1))).id]
  · obtain ⟨g1, g2⟩ := hC.fm n hn
    simp only [upd, g1, g2, Option.none_or]
    exact hR.fml n hn
  · rw [slot] at hx
    obtain ⟨u', h1, h2⟩ := hR.tmp i v hx
    exact ⟨u', h1, h2.mono fun m hm => mo m (hW.cl.1 _ _ hx m hm)⟩
  · have := hvn m hm
    unfold live at *
    rwa [(inside m (hlt m this) (hC.vx m hm)).1] at hl
  · have := hvn m hm
    rw [(inside m (hlt m this) (hC.vx m hm)).1]; exact this
end
end Go.Proofs.YtafhojmnbpegpaaGreat.EV
namespace Go.Proofs.YtafhojmnbpegpaaGreat.EV
open Go.RowKit
/-- A frame's slots beside blocks. -/
def mix (s h : Sf) : Sf
  | .t i => s (.t i)
  | q => h q
def assoc : List (Nat × V) → Nat → Option V
  | [], _ => none
  | (k, v) :: r, i => bif Nat.beq k i then some v else assoc r i
theorem assoc_mem : ∀ {l : List (Nat × V)} {i : Nat} {v : V}, assoc l i = some v → (i, v) ∈ l
  | (k, x) :: r, i, v, h => by
    simp only [assoc] at h
    cases hk : Nat.beq k i with
    | true => rw [hk] at h; simp only [cond_true, Option.some.injEq] at h; rw [← Nat.eq_of_beq_eq_true hk, h]; exact List.mem_cons_self
    | false => rw [hk] at h; exact List.mem_cons_of_mem _ (assoc_mem h)
/-- The state in which a round begins. -/
def roundS (ts : List (Nat × V)) (h : Sf) : Sf
  | .t i => (assoc ts i).map KV.v
  | q => h q
section
variable {c : Ctx} {F : Fence} {nn : Nat} {σ s : Sf} {e : Env} {a : Act} {w w' : World} {Q : Exit → Act → World → Prop}
/-- Back in a frame. -/
theorem Real.back (hR : Real c s e a w) {c' : Ctx} {lo hi : Nat} {h' : Sf} {e' : Env} (hP : c'.w0 = c.w0) (ht : c'.tch = c.tch) (hg : ∀ n, (n < lo ∨ hi ≤ n) → c'.gv n) (hi' : c'.ini = e) (hgv : ∀ n, lo ≤ n → n < hi → ¬ c.gv n) (hfr : ∀ n, lo ≤ n → s (.l n) = none)
    (hrev : ∀ n, n < lo → h' (.l n) = some (.l true) → s (.l n) = some (.l true)) (hfm : ∀ n ∈ c.fm, h' (.l n) = some (.l true) ∧ h' (.b n) = some (.b .df)) (hal : ∀ n, s (.l n) ≠ none → h' (.l n) ≠ none) (hW : RealW c' h' e' w') : Real c (mix s h') e' a w' := by
  have lt : ∀ n, s (.l n) ≠ none → n < lo := fun n hn => by
    rcases Nat.lt_or_ge n lo with h | h
    · exact h
    · exact absurd (hfr n h) hn
  have same : ∀ n, n < lo → e.same e' n := fun n hn => by have := hW.given n (hg n (.inl hn)); rw [hi'] at this; exact this.symm
  have hb : c'.B = c.B := by show c'.w0.heap.size = c.w0.heap.size; rw [hP]
  have hW1 : RealW c h' e' w' := ⟨hW.blk, hW.sep, fun n b h1 h2 h3 => by have := hW.own n b h1 h2 h3; rw [hb, ht] at this; exact this, hW.cl, fun n hn => by
    have h1 : n < lo ∨ hi ≤ n := by
      rcases Nat.lt_or_ge n lo with h | h
      · exact .inl h
      · rcases Nat.lt_or_ge n hi with h2 | h2
        · exact absurd hn (hgv n h h2)
        · exact .inr h2
    have h2 := hW.given n (hg n h1)
    rw [hi'] at h2
    exact h2.trans (hR.W.given n hn), hW.os.trans (by rw [hP]), hW.tape.trans (by rw [hP]), hW.output.trans (by rw [hP]), by rw [← hb]; exact hW.size, fun k hk hn => by
      have := hW.old k (by rw [hb]; exact hk) (by rw [ht]; exact hn)
      rw [hP] at this; exact this⟩
  have hcl : Cl (mix s h') := by
    refine ⟨fun q x hx n hn => ?_, fun n hn => hW.cl.2 n hn⟩
    cases q with
    | t i => exact hal n (hR.W.cl.1 (.t i) x hx n hn)
    | b k => exact hW.cl.1 (.b k) x hx n hn
    | l k => exact hW.cl.1 (.l k) x hx n hn
  refine ⟨hW1.slots (fun _ => rfl) (fun _ => rfl) hcl, ?_, hfm, hR.slots, fun i v hx => ?_⟩
  · rw [hR.defers]
    exact List.map_congr_left fun n hn => by rw [(same n (lt n (by rw [(hR.fml n hn).1]; simp))).id]
  · obtain ⟨u, h1, h2⟩ := hR.tmp i v hx
    exact ⟨u, h1, OkV.mono (s := s) (s' := mix s h') (fun m hm => by
      have hne := hR.W.cl.1 (.t i) _ hx m hm
      exact ⟨fun hl => hrev m (lt m hne) hl, same m (lt m hne)⟩) h2⟩
theorem Vals.ok {xs : List Operand} {vs : List V} {ks : List Key} (h : Vals σ xs vs ks) (hR : Real c σ e a w) : OkVs σ e vs (xs.map a.eval) ∧ ∀ v ∈ vs, ∀ n ∈ v.names, σ (.l n) ≠ none := by
  induction h with
  | nil => exact ⟨rfl, fun v hv => by cases hv⟩
  | @cons x v xs l ks hx h ih =>
    refine ⟨⟨_, _, rfl, eval_opv hx hR, ih.1⟩, fun y hy => ?_⟩
    rcases List.mem_cons.1 hy with rfl | hy
    · exact opv_names hx hR.W.cl
    · exact ih.2 y hy
theorem OkVs.mono {s' : Sf} {e' : Env} : ∀ {vs : List V} {us : List Value}, (∀ v ∈ vs, ∀ n ∈ v.names, Mo s e s' e' n) → OkVs s e vs us → OkVs s' e' vs us
  | [], _, _, h => h
  | v :: vs, _, hn, ⟨u, r, hu, h1, h2⟩ => ⟨u, r, hu, h1.mono (hn v List.mem_cons_self), h2.mono fun y hy => hn y (List.mem_cons_of_mem _ hy)⟩
theorem OkVs.append : ∀ {vs ws : List V} {us xs : List Value}, OkVs s e vs us → OkVs s e ws xs → OkVs s e (vs ++ ws) (us ++ xs)
  | [], _, _, _, h, k => by rw [show _ = [] from h]; exact k
  | v :: vs, ws, _, xs, ⟨u, r, hu, h1, h2⟩, k => by subst hu; exact ⟨u, r ++ xs, rfl, h1, h2.append k⟩
def capV (ca : List (Nat × Nat)) : List V := ca.map fun q => .c (.p q.1 q.2)
def capU (e : Env) (ca : List (Nat × Nat)) : List Value := ca.map fun q => Value.pointer (some ⟨e.id q.1, e.bs q.1 + q.2, none⟩)
theorem caps_ok : ∀ (ca : List (Nat × Nat)), OkVs s e (capV ca) (capU e ca)
  | [] => rfl
  | q :: ca => ⟨_, _, rfl, fun _ => rfl, caps_ok ca⟩
theorem capV_names {ca : List (Nat × Nat)} {v : V} (hv : v ∈ capV ca) {n : Nat} (hn : n ∈ v.names) : ∃ q ∈ ca, n = q.1 := by
  simp only [capV, List.mem_map] at hv
  obtain ⟨q, hq, rfl⟩ := hv
  exact ⟨q, hq, by simpa [V.names, C.names] using hn⟩
theorem eval_f {x : Operand} {g : FuncId} {ca : List (Nat × Nat)} (hx : opv σ x = some (.c (.f g ca))) (hca : ∀ q ∈ ca, σ (.l q.1) = some (.l true)) (hR : Real c σ e a w) : a.eval x = .func (.func g) #[] (capU e ca).toArray :=
  eval_opv hx hR fun n hn => by
    simp only [C.names, List.mem_map] at hn
    obtain ⟨q, hq, rfl⟩ := hn
    exact hca q hq
/-- What a call in the order of the text leaves in order. -/
structure BackOk (c : Ctx) (σ : Sf) (lo hi : Nat) (h' : Sf) : Prop where
  gv : ∀ n, lo ≤ n → n < hi → ¬ c.gv n
  fr : ∀ n, lo ≤ n → σ (.l n) = none
  rev : ∀ n, n < lo → h' (.l n) = some (.l true) → σ (.l n) = some (.l true)
  fm : ∀ n ∈ c.fm, h' (.l n) = some (.l true) ∧ h' (.b n) = some (.b .df)
  al : ∀ n, σ (.l n) ≠ none → h' (.l n) ≠ none
/-- The context of a callee. -/
def Ctx.sub (c : Ctx) (lo hi : Nat) (e : Env) (N : Nat) : Ctx := ⟨c.P, c.w0, c.tch, fun n => n < lo ∨ hi ≤ n, e, N, []⟩
theorem RealW.sub (h : RealW c s e w) (lo hi N : Nat) : RealW (c.sub lo hi e N) s e w := ⟨h.blk, h.sep, h.own, h.cl, fun _ _ => .rfl, h.os, h.tape, h.output, h.size, h.old⟩
theorem RealW.heap (h : RealW c s e w) : RealW c (hp s) e w :=
  h.slots (fun _ => rfl) (fun _ => rfl) ⟨fun q x hx n hn => by
    cases q with
    | t i => cases hx
    | b k => exact h.cl.1 (.b k) x hx n hn
    | l k => exact h.cl.1 (.l k) x hx n hn, fun n hn => h.cl.2 n hn⟩
end
end Go.Proofs.YtafhojmnbpegpaaGreat.EV
namespace Go.Proofs.YtafhojmnbpegpaaGreat.EV
open Go.RowKit
section
variable {c : Ctx} {F : Fence} {nn : Nat} {σ s : Sf} {e : Env} {a : Act} {w w' : World} {Q : Exit → Act → World → Prop}
/-- A loop's record is set anew. -/
theorem RealW.loopSet (h : RealW c s e w) {l : Nat} {r : LoopK} (ha : s (.l l) = some (.l true)) (hb : s (.b l) = some (.b (.lp r))) (st : LoopState) (pe : Option Code) :
    ∃ rec : Loop, w.heap[e.id l]? = some (.loop rec) ∧ rec.state = r.st ∧ rec.pending = r.pending ∧ RealW c (upd s [(.b l, .b (.lp { r with st := st, pending := pe }))]) e (w.putObj (e.id l) (.loop { rec with state := st, pending := pe })) := by
  obtain ⟨h1, fn, tm, h2, h3, h4⟩ := h.blk l (.lp r) ha hb
  have hlt : e.id l < w.heap.size := (Array.getElem?_eq_some_iff.1 h2).1
  refine ⟨_, h2, rfl, rfl, h.chg ha hb rfl (by omega) (fun k hk => World.putObj_heap_other hk) (by simp [World.putObj]) rfl rfl rfl ?_ (fun k hk => h.cl.1 (.b l) _ hb k hk)⟩
  have hl : ∀ k, upd s [(.b l, .b (.lp { r with st := st, pending := pe }))] (.l k) = s (.l k) := fun k => by rw [upd_cons_ne _ _ _ (by simp), upd_nil]
  refine ⟨h1, fn, tm, World.putObj_heap_same hlt, h3, fun i v hv => ?_⟩
  obtain ⟨u, h5, h6⟩ := h4 i v hv
  exact ⟨u, h5, h6.mono fun m _ => ⟨fun hx => by unfold live at *; rw [← hl]; exact hx, .rfl⟩⟩
/-- Which jump a way out leaves, and what the function that tells is told. -/
def jumpOf : Exit → Option (Option Code)
  | .normal => some none
  | .ret => some (some .ret)
  | .exit k => some (some (.exit k))
  | _ => none
/-- A call of the function that a loop hands over: one round. -/
theorem wpIn_yield (hF : WideLike F) (hFr : ∀ l, F.inRound l = Fence.wide.inRound l) (hR : Real c σ e a w) {l : Nat} {r r1 r2 : LoopK} {x : Operand} {xs : List Operand} {vs : List V} {ks : List Key} {tys : Array TypeId} {lo hi : Nat} {σ1 σ2 : Sf} {ts : List (Nat × V)} {xt : Exit} {pe : Option Code} {d : Option Tmp} {rt : TypeId} {pos : String} {af : Array Edge} {g : Option (Nat × Bool)} {K : Act → World → Prop}
    (hx : opv σ x = some (.c (.y l))) (ha : σ (.l l) = some (.l true)) (hb : σ (.b l) = some (.b (.lp r))) (hst : r.st = .ready) (hv : Vals σ xs vs ks) (hN : dOk c.N d = true) (hlo : l < lo) (hfr : ∀ n, lo ≤ n → σ (.l n) = none)
    (hts : ∀ (us : List Value) (tm : Array Value), OkVs (hp σ) e vs us → tm.size = r.N → (∀ i v, (i, v) ∈ r.ts → ∃ u, tm[i]? = some u ∧ OkV (hp σ) e v u) →
      ((r.params.zip us.toArray).foldl (fun t (p, v) => t.setIfInBounds p v) tm).size = r.N ∧ ∀ i v, assoc ts i = some v → (∃ u, ((r.params.zip us.toArray).foldl (fun t (p, v) => t.setIfInBounds p v) tm)[i]? = some u ∧ OkV (hp σ) e v u) ∧ ∀ n ∈ v.names, σ (.l n) ≠ none)
    (hps : r.params.size = vs.length)
    (hA : ∀ (c' : Ctx) (Q' : Exit → Act → World → Prop), c'.P = c.P → (∀ n, lo ≤ n → n < hi → ¬ c'.gv n) → c'.gv l → c'.N = r.N → c'.fm = [] → KW c' (Q' .normal) σ1 → CW c' (Fence.wide.inRound (c'.ini.id l)) (nn - 1) r.assign Q' (roundS ts (hp σ)))
    (h1a : σ1 (.l l) = some (.l true)) (h1b : σ1 (.b l) = some (.b (.lp r1))) (h1s : r1.st = .ready)
    (hB : ∀ (c' : Ctx) (Q' : Exit → Act → World → Prop), c'.P = c.P → (∀ n, lo ≤ n → n < hi → ¬ c'.gv n) → c'.gv l → c'.N = r.N → c'.fm = [] → KW c' (Q' xt) σ2 → CW c' (Fence.wide.inRound (c'.ini.id l)) (nn - 1) r.body Q' (upd σ1 [(.b l, .b (.lp { r1 with st := .busy, pending := r1.pending }))]))
    (h2a : σ2 (.l l) = some (.l true)) (h2b : σ2 (.b l) = some (.b (.lp r2))) (hj : jumpOf xt = some pe)
    (hBk : BackOk c σ lo hi (upd (hp σ2) [(.b l, .b (.lp { r2 with st := if pe.isNone then .ready else .done, pending := pe }))]))
    (hK : KW c K (upd (mix σ (upd (hp σ2) [(.b l, .b (.lp { r2 with st := if pe.isNone then .ready else .done, pending := pe }))])) (putW d (.c (.v (.bool pe.isNone)))))) :
    (⟨d, .call ⟨.value x, xs.toArray, tys⟩, rt, pos, af, g⟩ : Oper).wpIn F nn c.P a w K Q := by
  have ex : a.eval x = .func (.yield (e.id l)) #[] #[] := eval_opv hx hR fun n hn => by
    simp only [C.names, List.mem_singleton] at hn; subst hn; exact ha
  obtain ⟨g1, g2⟩ := hv.ok hR
  obtain ⟨k1, fn, tm, k2, k3, k4⟩ := hR.W.blk l (.lp r) ha hb
  have hlen : (xs.map a.eval).length = vs.length := g1.length
  have g1' : OkVs (hp σ) e vs (xs.map a.eval) := OkVs.mono (s := σ) (s' := hp σ) (fun v _ n _ => ⟨fun h => h, .rfl⟩) g1
  have k4' : ∀ i v, (i, v) ∈ r.ts → ∃ u, tm[i]? = some u ∧ OkV (hp σ) e v u := fun i v hv => by
    obtain ⟨u, h1, h2⟩ := k4 i v hv
    exact ⟨u, h1, OkV.mono (s := σ) (s' := hp σ) (fun m _ => ⟨fun h => h, .rfl⟩) h2⟩
  obtain ⟨t1, t2⟩ := hts _ tm g1' k3 k4'
  have hrun := run_yield (P := c.P) (args := (xs.map a.eval).toArray) k2 (by simp [hlen]; exact hps.symm)
  refine ⟨fun f _ => hF.fn f, ?_⟩
  rw [Oper.semAt_eq _ _ _ (noDefer rfl)]
  simp only [execOp, resolve, ex, invoke, Deferred.ofValue, List.map_toArray, Sem.run_bind, Sem.run_pure, Result.andThen_ok]
  have earr : #[] ++ (List.map a.eval xs).toArray = (List.map a.eval xs).toArray := by simp
  rw [earr, hrun]
  refine ⟨fun h => absurd h (by rw [hF.depth]; simp), roundIn_of_wpIn (hF.fn _) ?_⟩
  -- the round's frame
  let c' : Ctx := c.sub lo hi e r.N
  have hgl : c'.gv l := .inl hlo
  have hgn : ∀ n, lo ≤ n → n < hi → ¬ c'.gv n := fun n h1 h2 h3 => by (have : n < lo ∨ hi ≤ n := h3; omega)
  have hW0 : RealW c' (hp σ) e w := hR.W.heap.sub lo hi r.N
  have hR0 : Real c' (roundS ts (hp σ)) e { tmps := (r.params.zip (List.map a.eval xs).toArray).foldl (fun t (p, v) => t.setIfInBounds p v) tm, defers := [] } w := by
    refine ⟨hW0.slots (fun _ => rfl) (fun _ => rfl) ⟨fun q y hy n hn => ?_, fun n hn => hR.W.cl.2 n hn⟩, rfl, (fun n hn => by cases hn), t1, fun i v hi' => ?_⟩
    · cases q with
      | t i =>
        simp only [roundS, Option.map_eq_some_iff] at hy
        obtain ⟨v, hv', rfl⟩ := hy
        exact (t2 i v hv').2 n hn
      | b k => exact hR.W.cl.1 (.b k) y hy n hn
      | l k => exact hR.W.cl.1 (.l k) y hy n hn
    · simp only [roundS, Option.map_eq_some_iff] at hi'
      obtain ⟨v', hv', he⟩ := hi'
      cases he
      obtain ⟨u, h1, h2⟩ := (t2 i v hv').1
      exact ⟨u, h1, OkV.mono (s := hp σ) (s' := roundS ts (hp σ)) (fun m _ => ⟨fun h => h, .rfl⟩) h2⟩
  have hAw := (hA c' (Exit.then (fun a₁ w₁ => ∃ w₂, (Instr.beginRound (e.id l)).run c.P w₁ = .ok () w₂ ∧ r.body.wpIn (Fence.wide.inRound (e.id l)) (nn - 1) c.P (roundPost c.P (e.id l) (fun
      | .returned v, w'' => K (a.put d v) w''
      | .panicked chain, w'' => Q (.panic chain) a w''
      | .outgrown, _ => LetsOut Q)) a₁ w₂) (fun _ _ _ => False)) rfl hgn hgl rfl rfl ?_).go e _ w hR0
  · rw [hFr]; exact hAw
  refine ⟨fun e1 a1 w1 hR1 => ?_⟩
  have id1 : e1.id l = e.id l := (hR1.W.given l hgl).id
  obtain ⟨rec, m1, m2, m3, m4⟩ := hR1.W.loopSet h1a h1b .busy r1.pending
  rw [id1] at m1 m4
  refine ⟨_, run_beginRound m1 (by rw [m2]; exact h1s), ?_⟩
  have hrec : ({ rec with state := .busy } : Loop) = { rec with state := .busy, pending := r1.pending } := by rw [← m3]
  have hR1' : Real c' (upd σ1 [(.b l, .b (.lp { r1 with st := .busy, pending := r1.pending }))]) e1 a1 (w1.putObj (e.id l) (.loop { rec with state := .busy })) := by
    rw [hrec]
    exact hR1.withW m4 (fun i => by rw [upd_cons_ne _ _ _ (by simp), upd_nil]) (fun k hk => ⟨fun hv => by unfold live at *; rwa [upd_cons_ne _ _ _ (by simp), upd_nil] at hv, .rfl⟩) (fun n hn => by cases hn)
  refine (hB c' (roundPost c.P (e.id l) (fun
      | .returned v, w'' => K (a.put d v) w''
      | .panicked chain, w'' => Q (.panic chain) a w''
      | .outgrown, _ => LetsOut Q)) rfl hgn hgl rfl rfl ⟨fun e2 a2 w2 hR2 => ?_⟩).go e1 a1 _ hR1'
  have id2 : e2.id l = e.id l := (hR2.W.given l hgl).id
  obtain ⟨rec2, n1, n2, n3, n4⟩ := hR2.W.heap.loopSet (l := l) (r := r2) h2a h2b (if pe.isNone then .ready else .done) pe
  rw [id2] at n1 n4
  have hb2 := hR.back (c' := c') (lo := lo) (hi := hi) rfl rfl (fun n hn => hn) rfl hBk.gv hBk.fr hBk.rev hBk.fm hBk.al n4
  have hend := run_endRound (P := c.P) pe n1
  have hfin := hK.go e2 (a.put d (.bool pe.isNone)) _ (hb2.putW hN Ok.of (fun n hn => by cases hn))
  cases xt with
  | normal => cases hj; exact ⟨_, _, hend, hfin⟩
  | ret => cases hj; exact ⟨_, _, hend, hfin⟩
  | exit k => cases hj; exact ⟨_, _, hend, hfin⟩
  | goto t => cases hj
  | panic ch => cases hj
  | outgrown => cases hj
/-- The record of a loop that begins. -/
def loop0 (N : Nat) (ts : List (Nat × V)) (ps : Array Tmp) (assign body : Code) (D : Nat) : LoopK := { st := .ready, pending := none, N, ts, params := ps, assign, body, D }
theorem run_rangeCall {P : Program} {ρ : Operand → Value} {g : Operand} {gf l : Nat} {us : List Value} (hg : ρ g = .func (.func gf) #[] us.toArray) (hy : ρ (.const (.func (.yield l) #[] #[])) = .func (.yield l) #[] #[]) :
    (resolve ρ (rangeCall g l) 0).run P w = .ok { target := .fn (.func gf) us.toArray, args := #[.func (.yield l) #[] #[]] } w := by
  simp only [resolve, hg, Deferred.ofValue, List.map_toArray, List.map_cons, List.map_nil, hy, Sem.run_pure]
  rfl
/-- A range over a function, where none stands around it. -/
theorem CW_rangeOuter (hF : WideLike F) (hro : F.round = none) {g : Operand} {ps : Array Tmp} {assign body : Code} {gf nD nL lo hi : Nat} {ca : List (Nat × Nat)} {ts : List (Nat × V)} {v : V} {h' : Sf} {r' : LoopK}
    (he : ∀ args w, (callFunc gf args).run c.P w = .ok (.enter gf args) w) (hg : opv σ g = some (.c (.f gf ca))) (hca : ∀ q ∈ ca, σ (.l q.1) = some (.l true)) (hts : ∀ i v, (i, v) ∈ ts → σ (.t i) = some (.v v))
    (hD : ¬ c.gv nD) (hD0 : σ (.l nD) = none) (hL : ¬ c.gv nL) (hL0 : σ (.l nL) = none) (hne : nD ≠ nL)
    (hct : CT c.P gf (.c (.y nL) :: capV ca) (hp (upd (upd σ (wsNew nD .df)) (wsNew nL (.lp (loop0 c.N ts ps assign body nD))))) lo hi v h')
    (hBk : BackOk { c with fm := nD :: c.fm } (upd (upd σ (wsNew nD .df)) (wsNew nL (.lp (loop0 c.N ts ps assign body nD)))) lo hi (upd h' [(.b nL, .b (.lp { r' with st := .exhausted, pending := r'.pending }))]))
    (hl : h' (.l nL) = some (.l true)) (hlb : h' (.b nL) = some (.b (.lp r'))) (hst : r'.st ≠ .busy)
    (hK : match r'.pending with
      | none => KW { c with fm := nD :: c.fm } (Q .normal) (mix σ (upd h' [(.b nL, .b (.lp { r' with st := .exhausted, pending := r'.pending }))]))
      | some j => CW { c with fm := nD :: c.fm } F nn j Q (mix σ (upd h' [(.b nL, .b (.lp { r' with st := .exhausted, pending := r'.pending }))]))) :
    CW c F nn (.rangeFunc g ps assign body) Q σ := by
  refine ⟨fun e a w hR => wpIn_rangeFunc fun fn hfn => ?_⟩
  rw [hro]
  have hca' := eval_f hg hca hR
  have hlt : w.heap.size < (w.alloc (.deferred (some []))).heap.size := by rw [World.size_alloc]; omega
  -- the two new objects
  let c1 : Ctx := { c with fm := nD :: c.fm }
  have hD1 : Real c (upd σ (wsNew nD .df)) (e.set nD w.heap.size 0 1) a (w.alloc (.deferred (some []))) :=
    hR.new hD hD0 _ 1 ⟨Env.set_rm .., by rw [Env.set_id]; exact World.alloc_heap_new w _⟩ (fun k hk => by cases hk)
  have hL1 : upd σ (wsNew nD .df) (.l nL) = none := by rw [wsNew_l, if_neg hne]; exact hL0
  have hTs : ∀ i v, (i, v) ∈ ts → upd σ (wsNew nD .df) (.t i) = some (.v v) := fun i v h => by rw [wsNew_t]; exact hts i v h
  let lp0 := loop0 c.N ts ps assign body nD
  let e1 := e.set nD w.heap.size 0 1
  let w1 := w.alloc (.deferred (some []))
  let s1 := upd σ (wsNew nD .df)
  let e2 := e1.set nL w1.heap.size 0 1
  let rec0 : Loop := { state := .ready, pending := none, fn := fn, tmps := a.tmps, params := ps, assign := assign, body := body, defers := w.heap.size }
  have hs : ∀ n ∈ lp0.D :: (lp0.ts.flatMap fun x => x.2.names), s1 (.l n) ≠ none := fun n hn => by
    rcases List.mem_cons.1 hn with hn | hn
    · have hn : n = nD := hn
      rw [hn]
      show upd σ (wsNew nD .df) (.l nD) ≠ none
      rw [wsNew_l, if_pos rfl]; simp
    · obtain ⟨x, hx, hn⟩ := List.mem_flatMap.1 hn
      exact hD1.W.cl.1 (.t x.1) _ (hTs x.1 x.2 hx) n hn
  have hL2 : Real c (upd s1 (wsNew nL (.lp lp0))) e2 a (w1.alloc (.loop rec0)) := by
    refine hD1.new hL hL1 (.loop rec0) 1 ⟨Env.set_rm .., fn, a.tmps, ?_, hR.slots, fun i v hv => ?_⟩ (fun k hk => .inr (hs k hk))
    · rw [Env.set_id]
      have hd : (e1.set nL w1.heap.size 0 1).id nD = w.heap.size := by rw [← (Env.set_ne e1 (i := w1.heap.size) (b := 0) (r := 1) hne).id.symm]; exact Env.set_id ..
      have := World.alloc_heap_new w1 (.loop rec0)
      rw [show (w1.alloc (.loop rec0)).heap[w1.heap.size]? = some (.loop rec0) from this]
      show some (Obj.loop rec0) = some (.loop { state := .ready, pending := none, fn := fn, tmps := a.tmps, params := ps, assign := assign, body := body, defers := (e1.set nL w1.heap.size 0 1).id nD })
      rw [hd]
    · obtain ⟨u, h1, h2⟩ := hD1.tmp i v (hTs i v hv)
      exact ⟨u, h1, h2.mono fun m hm => by
        have hne' : s1 (.l m) ≠ none := hD1.W.cl.1 (.t i) _ (hTs i v hv) m hm
        exact ⟨(wsNew_live (not_live hL1 hne')).1, (Env.set_ne e1 (not_live hL1 hne')).symm⟩⟩
  have idL : e2.id nL = w.heap.size + 1 := by
    show (e1.set nL w1.heap.size 0 1).id nL = _
    rw [Env.set_id, World.size_alloc]
  have idD : e2.id nD = w.heap.size := by
    rw [← (Env.set_ne e1 (i := w1.heap.size) (b := 0) (r := 1) hne).id.symm]; exact Env.set_id ..
  have heq : (w.alloc (.deferred (some []))).alloc (.loop { state := .ready, pending := none, fn := fn, tmps := a.tmps, params := ps, assign := assign, body := body, defers := w.heap.size }) = w1.alloc (.loop rec0) := rfl
  -- the frame behind the loop's beginning
  have hR2 : Real c1 (upd s1 (wsNew nL (.lp lp0))) e2 { a with defers := { target := .collected w.heap.size, args := #[] } :: a.defers } (w1.alloc (.loop rec0)) := by
    refine ⟨⟨hL2.W.blk, hL2.W.sep, hL2.W.own, hL2.W.cl, hL2.W.given, hL2.W.os, hL2.W.tape, hL2.W.output, hL2.W.size, hL2.W.old⟩, ?_, fun n hn => ?_, hL2.slots, hL2.tmp⟩
    · show _ = (nD :: c.fm).map _
      rw [List.map_cons, idD, ← hL2.defers]; rfl
    · rcases List.mem_cons.1 hn with hn | hn
      · rw [hn]
        refine ⟨?_, ?_⟩
        · rw [wsNew_l, if_neg (fun h => hne h.symm)]
          show upd σ (wsNew nD .df) (.l nD) = _
          rw [wsNew_l, if_pos rfl]
        · rw [wsNew_b, if_neg (fun h => hne h.symm)]
          show upd σ (wsNew nD .df) (.b nD) = _
          rw [wsNew_b, if_pos rfl]
      · exact hL2.fml n hn
  have hargs : OkVs (hp (upd s1 (wsNew nL (.lp lp0)))) e2 (.c (.y nL) :: capV ca) (Value.func (.yield (e2.id nL)) #[] #[] :: capU e2 ca) := ⟨_, _, rfl, fun _ => rfl, caps_ok ca⟩
  have hal2 : ∀ n, σ (.l n) = some (.l true) → upd s1 (wsNew nL (.lp lp0)) (.l n) = some (.l true) := fun n hn => by
    rw [wsNew_l]
    split
    · rfl
    · show upd σ (wsNew nD .df) (.l n) = _
      rw [wsNew_l]; split
      · rfl
      · exact hn
  have hnames : ∀ v ∈ V.c (.y nL) :: capV ca, ∀ n ∈ v.names, hp (upd s1 (wsNew nL (.lp lp0))) (.l n) ≠ none := fun v hv n hn => by
    rcases List.mem_cons.1 hv with rfl | hv
    · simp only [V.names, C.names, List.mem_singleton] at hn; subst hn
      show upd s1 (wsNew n (.lp lp0)) (.l n) ≠ none
      rw [wsNew_l, if_pos rfl]; simp
    · obtain ⟨q, hq, rfl⟩ := capV_names hv hn
      show upd s1 (wsNew nL (.lp lp0)) (.l q.1) ≠ none
      rw [hal2 q.1 (hca q hq)]; simp
  have hcapU : capU e2 ca = capU e ca := by
    refine List.map_congr_left fun q hq => ?_
    have h1 : q.1 ≠ nD := fun h => by have := hca q hq; rw [h, hD0] at this; cases this
    have h2 : q.1 ≠ nL := fun h => by have := hca q hq; rw [h, hL0] at this; cases this
    have hsm : e2.same e q.1 := (Env.set_ne e1 h2).trans (Env.set_ne e h1)
    rw [hsm.id, hsm.bs]
  refine ⟨w.heap.size + 1, [{ target := .collected w.heap.size, args := #[] }], _, _, _, gf, #[.func (.yield (w.heap.size + 1)) #[] #[]] ++ (capU e ca).toArray, w1.alloc (.loop rec0), run_enterLoop_outer fn a.tmps ps assign body, run_rangeCall hca' rfl, fun f' _ => hF.fn f', ?_, fun h => absurd h (by rw [hF.depth]; simp), ?_⟩
  · show (callFunc gf (#[.func (.yield (w.heap.size + 1)) #[] #[]] ++ (capU e ca).toArray)).run c.P _ = _
    rw [he]
  refine hF.calls ?_
  have hcall := hct (c1.sub lo hi e2 0) e2 (w1.alloc (.loop rec0)) _ rfl (fun n h1 h2 h3 => by (have : n < lo ∨ hi ≤ n := h3; omega)) (hR2.W.heap.sub lo hi 0) hargs hnames
  rw [hcapU, idL] at hcall
  have harr : (Value.func (.yield (w.heap.size + 1)) #[] #[] :: capU e ca).toArray = #[.func (.yield (w.heap.size + 1)) #[] #[]] ++ (capU e ca).toArray := by simp
  rw [harr] at hcall
  refine hcall.mono ?_
  rintro en w3 ⟨u, e3, rfl, hW3, hu, hun⟩
  have hs1lo : nL < lo := by
    rcases Nat.lt_or_ge nL lo with h | h
    · exact h
    · have := hBk.fr nL h
      rw [wsNew_l, if_pos rfl] at this; cases this
  have id3 : e3.id nL = w.heap.size + 1 := (hW3.given nL (.inl hs1lo)).id.trans idL
  obtain ⟨rec3, p1, p2, p3, p4⟩ := hW3.loopSet hl hlb .exhausted r'.pending
  rw [id3] at p1 p4
  have hb3 := hR2.back (c' := c1.sub lo hi e2 0) rfl rfl (fun n hn => hn) rfl hBk.gv hBk.fr hBk.rev hBk.fm hBk.al p4
  have hend := run_endLoop (P := c.P) p1 (by rw [p2]; exact hst)
  have hrec : ({ rec3 with state := .exhausted, pending := r'.pending } : Loop) = { rec3 with state := .exhausted } := by rw [← p3]
  rw [hrec] at hb3
  have hmix : mix (upd s1 (wsNew nL (.lp lp0))) (upd h' [(.b nL, .b (.lp { r' with st := .exhausted, pending := r'.pending }))]) = mix σ (upd h' [(.b nL, .b (.lp { r' with st := .exhausted, pending := r'.pending }))]) := by
    funext q
    cases q with
    | t i => show upd (upd σ _) _ (.t i) = σ (.t i); rw [wsNew_t, wsNew_t]
    | b n => rfl
    | l n => rfl
  rw [hmix] at hb3
  refine ⟨rec3.pending, _, hend, ?_⟩
  rw [p3]
  rw [p3] at hb3
  cases hpd : r'.pending with
  | none => simp only [hpd] at hK hb3 ⊢; exact hK.go e3 _ _ hb3
  | some j => simp only [hpd] at hK hb3 ⊢; exact hK.go e3 _ _ hb3
end
end Go.Proofs.YtafhojmnbpegpaaGreat.EV
namespace Go.Proofs.YtafhojmnbpegpaaGreat.EV
noncomputable section
open Go.RowKit
open SX (eqs)
inductive T (α : Type) where
  | e
  | n (v : Option α) (l r : T α)
def T.get {α : Type} (t : T α) : Nat → Option α :=
  T.rec (motive := fun _ => Nat → Option α) (fun _ => none) (fun v _ _ gl gr k => Nat.rec v (fun k _ => Bool.rec (gr (Nat.div k 2)) (gl (Nat.div k 2)) (Nat.beq (Nat.mod k 2) 0)) k) t
theorem T.get_e {α : Type} (k : Nat) : (T.e : T α).get k = none := rfl
theorem T.get_n0 {α : Type} (v : Option α) (l r : T α) : (T.n v l r).get 0 = v := rfl
theorem T.get_ns {α : Type} (v : Option α) (l r : T α) (k : Nat) : (T.n v l r).get (k + 1) = bif Nat.beq (k % 2) 0 then l.get (k / 2) else r.get (k / 2) := by
  show (Bool.rec (r.get (k / 2)) (l.get (k / 2)) (Nat.beq (k % 2) 0) : Option α) = _
  cases Nat.beq (k % 2) 0 <;> rfl
/-- A tree of one place; none if there is no more depth. -/
def T.single {α : Type} : Nat → Nat → α → Option (T α)
  | 0, _, _ => none
  | f + 1, k, x => match k with
    | 0 => some (.n (some x) .e .e)
    | k + 1 => bif Nat.beq (k % 2) 0 then (match T.single f (k / 2) x with | some t => some (.n none t .e) | none => none) else (match T.single f (k / 2) x with | some t => some (.n none .e t) | none => none)
/-- Laid in anew. -/
def T.put {α : Type} (f : Nat) (t : T α) : Nat → α → Option (T α) :=
  T.rec (motive := fun _ => Nat → α → Option (T α)) (fun k x => T.single f k x)
    (fun v l r pl pr k x => Nat.rec (some (.n (some x) l r)) (fun k _ => Bool.rec (Option.rec none (fun t => some (.n v l t)) (pr (Nat.div k 2) x)) (Option.rec none (fun t => some (.n v t r)) (pl (Nat.div k 2) x)) (Nat.beq (Nat.mod k 2) 0)) k) t
theorem T.put_n0 {α : Type} (f : Nat) (v : Option α) (l r : T α) (x : α) : T.put f (.n v l r) 0 x = some (.n (some x) l r) := rfl
theorem T.put_ns {α : Type} (f : Nat) (v : Option α) (l r : T α) (k : Nat) (x : α) : T.put f (.n v l r) (k + 1) x = bif Nat.beq (k % 2) 0 then (match T.put f l (k / 2) x with | some t => some (.n v t r) | none => none) else (match T.put f r (k / 2) x with | some t => some (.n v l t) | none => none) := by
  show (Bool.rec (Option.rec none (fun t => some (.n v l t)) (T.put f r (k / 2) x)) (Option.rec none (fun t => some (.n v t r)) (T.put f l (k / 2) x)) (Nat.beq (k % 2) 0) : Option (T α)) = _
  cases Nat.beq (k % 2) 0
  · cases T.put f r (k / 2) x <;> rfl
  · cases T.put f l (k / 2) x <;> rfl
theorem T.get_single {α : Type} (x : α) : ∀ (f : Nat) (t' : T α) (k j : Nat), T.single f k x = some t' → t'.get j = if k = j then some x else none
  | 0, t', k, j, h => by cases h
  | f + 1, t', 0, j, h => by
    simp only [T.single, Option.some.injEq] at h
    subst h
    cases j with
    | zero => rfl
    | succ j => rw [if_neg (by omega)]; simp only [T.get_e, T.get_n0, T.get_ns]; cases Nat.beq (j % 2) 0 <;> rfl
  | f + 1, t', k + 1, j, h => by
    simp only [T.single] at h
    cases hb : Nat.beq (k % 2) 0 with
    | true =>
      have h1 := Nat.eq_of_beq_eq_true hb
      rw [hb, cond_true] at h
      split at h
      · rename_i t1 ht
        cases h
        cases j with
        | zero => rw [if_neg (by omega)]; rfl
        | succ j =>
          have ih := T.get_single x f t1 (k / 2) (j / 2) ht
          simp only [T.get_e, T.get_n0, T.get_ns]
          cases hj : Nat.beq (j % 2) 0 with
          | true =>
            have h2 := Nat.eq_of_beq_eq_true hj
            simp only [cond_true, ih]
            by_cases hkj : k = j
            · subst hkj; simp
            · rw [if_neg (by omega), if_neg (by omega)]
          | false =>
            have h2 : j % 2 ≠ 0 := fun h => by rw [h] at hj; cases hj
            simp only [cond_false, T.get_e, T.get_n0, T.get_ns]
            rw [if_neg (by omega)]
      · cases h
    | false =>
      have h1 : k % 2 ≠ 0 := fun h => by rw [h] at hb; cases hb
      rw [hb, cond_false] at h
      split at h
      · rename_i t1 ht
        cases h
        cases j with
        | zero => rw [if_neg (by omega)]; rfl
        | succ j =>
          have ih := T.get_single x f t1 (k / 2) (j / 2) ht
          simp only [T.get_e, T.get_n0, T.get_ns]
          cases hj : Nat.beq (j % 2) 0 with
          | true =>
            have h2 := Nat.eq_of_beq_eq_true hj
            simp only [cond_true, T.get_e, T.get_n0, T.get_ns]
            rw [if_neg (by omega)]
          | false =>
            have h2 : j % 2 ≠ 0 := fun h => by rw [h] at hj; cases hj
            simp only [cond_false, ih]
            by_cases hkj : k = j
            · subst hkj; simp
            · rw [if_neg (by omega), if_neg (by omega)]
      · cases h
theorem T.get_put {α : Type} (x : α) (f : Nat) : ∀ (t t' : T α) (k j : Nat), T.put f t k x = some t' → t'.get j = if k = j then some x else t.get j
  | .e, t', k, j, h => T.get_single x f t' k j h
  | .n v l r, t', 0, j, h => by
    simp only [T.put_n0, Option.some.injEq] at h
    subst h
    cases j with
    | zero => rfl
    | succ j => rw [if_neg (by omega)]; rfl
  | .n v l r, t', k + 1, j, h => by
    simp only [T.put_ns] at h
    cases hb : Nat.beq (k % 2) 0 with
    | true =>
      have h1 := Nat.eq_of_beq_eq_true hb
      rw [hb, cond_true] at h
      split at h
      · rename_i t1 ht
        cases h
        cases j with
        | zero => rw [if_neg (by omega)]; rfl
        | succ j =>
          have ih := T.get_put x f l t1 (k / 2) (j / 2) ht
          simp only [T.get_e, T.get_n0, T.get_ns]
          cases hj : Nat.beq (j % 2) 0 with
          | true =>
            have h2 := Nat.eq_of_beq_eq_true hj
            simp only [cond_true, ih]
            by_cases hkj : k = j
            · subst hkj; simp
            · rw [if_neg (by omega), if_neg (by omega)]
          | false =>
            have h2 : j % 2 ≠ 0 := fun h => by rw [h] at hj; cases hj
            simp only [cond_false]
            rw [if_neg (by omega)]
      · cases h
    | false =>
      have h1 : k % 2 ≠ 0 := fun h => by rw [h] at hb; cases hb
      rw [hb, cond_false] at h
      split at h
      · rename_i t1 ht
        cases h
        cases j with
        | zero => rw [if_neg (by omega)]; rfl
        | succ j =>
          have ih := T.get_put x f r t1 (k / 2) (j / 2) ht
          simp only [T.get_e, T.get_n0, T.get_ns]
          cases hj : Nat.beq (j % 2) 0 with
          | true =>
            have h2 := Nat.eq_of_beq_eq_true hj
            simp only [cond_true]
            rw [if_neg (by omega)]
          | false =>
            have h2 : j % 2 ≠ 0 := fun h => by rw [h] at hj; cases hj
            simp only [cond_false, ih]
            by_cases hkj : k = j
            · subst hkj; simp
            · rw [if_neg (by omega), if_neg (by omega)]
      · cases h
def T.all {α : Type} (p : α → Bool) : T α → Bool
  | .e => true
  | .n v l r => (match v with | some x => p x | none => true) && (l.all p && r.all p)
theorem T.all_get {α : Type} {p : α → Bool} : ∀ {t : T α} {k : Nat} {x : α}, t.all p = true → t.get k = some x → p x = true
  | .e, _, _, _, h => by cases h
  | .n v l r, 0, x, ha, h => by
    simp only [T.get_e, T.get_n0, T.get_ns] at h; subst h
    simp only [T.all, Bool.and_eq_true] at ha; exact ha.1
  | .n v l r, k + 1, x, ha, h => by
    simp only [T.all, Bool.and_eq_true] at ha
    simp only [T.get_e, T.get_n0, T.get_ns] at h
    cases hb : Nat.beq (k % 2) 0 with
    | true => rw [hb, cond_true] at h; exact T.all_get ha.2.1 h
    | false => rw [hb, cond_false] at h; exact T.all_get ha.2.2 h
/-- What stands in it: step s, from place b on. -/
def T.list {α : Type} : T α → (Nat → Nat) → List (Nat × α) → List (Nat × α)
  | .e, _, r => r
  | .n v l m, g, r => match v with
    | some x => (g 0, x) :: l.list (fun k => g (2 * k + 1)) (m.list (fun k => g (2 * k + 2)) r)
    | none => l.list (fun k => g (2 * k + 1)) (m.list (fun k => g (2 * k + 2)) r)
theorem T.list_mem {α : Type} : ∀ {t : T α} {g : Nat → Nat} {r : List (Nat × α)} {i : Nat} {x : α}, (i, x) ∈ t.list g r → (∃ k, g k = i ∧ t.get k = some x) ∨ (i, x) ∈ r
  | .e, _, r, _, _, h => .inr h
  | .n v l m, g, r, i, x, h => by
    have step : (i, x) ∈ l.list (fun k => g (2 * k + 1)) (m.list (fun k => g (2 * k + 2)) r) → (∃ k, g k = i ∧ (T.n v l m).get k = some x) ∨ (i, x) ∈ r := fun h => by
      rcases T.list_mem h with ⟨k, h1, h2⟩ | h
      · refine .inl ⟨2 * k + 1, h1, ?_⟩
        simp only [T.get_e, T.get_n0, T.get_ns, show 2 * k % 2 = 0 by omega, show 2 * k / 2 = k by omega]; exact h2
      · rcases T.list_mem h with ⟨k, h1, h2⟩ | h
        · refine .inl ⟨2 * k + 2, h1, ?_⟩
          simp only [T.get_e, T.get_n0, T.get_ns, show (2 * k + 1) % 2 = 1 by omega, show (2 * k + 1) / 2 = k by omega]; exact h2
        · exact .inr h
    simp only [T.list] at h
    split at h
    · rename_i y hy
      rcases List.mem_cons.1 h with h | h
      · cases h; exact .inl ⟨0, rfl, rfl⟩
      · exact step h
    · exact step h
def fcN : Nat → Option Nat
  | 0 => some 0
  | n + 1 => some (n + 1)
theorem fcN_eq {n m : Nat} (h : fcN n = some m) : n = m := by cases n <;> simpa [fcN] using h
def fcI : Int → Option Int
  | .ofNat n => match n with
    | 0 => some (.ofNat 0)
    | m + 1 => some (.ofNat (m + 1))
  | .negSucc n => match n with
    | 0 => some (.negSucc 0)
    | m + 1 => some (.negSucc (m + 1))
theorem fcI_eq {n m : Int} (h : fcI n = some m) : n = m := by
  cases n with
  | ofNat n => cases n <;> simpa [fcI] using h
  | negSucc n => cases n <;> simpa [fcI] using h
def fcU (x : UInt8) : Option UInt8 := match x.toNat with
  | 0 => some (UInt8.ofNat 0)
  | n + 1 => some (UInt8.ofNat (n + 1))
theorem fcU_eq {x y : UInt8} (h : fcU x = some y) : x = y := by
  unfold fcU at h
  have hx : UInt8.ofNat x.toNat = x := UInt8.ofNat_toNat
  split at h
  · rename_i h0; rw [h0] at hx; cases h; exact hx.symm
  · rename_i n h0; rw [h0] at hx; cases h; exact hx.symm
def fcLs {α : Type} (f : α → Option α) : List α → Option (List α)
  | [] => some []
  | x :: l => match f x with
    | some y => match fcLs f l with
      | some r => some (y :: r)
      | none => none
    | none => none
theorem fcLs_eq {α : Type} {f : α → Option α} (hf : ∀ x y, f x = some y → x = y) : ∀ {l r : List α}, fcLs f l = some r → l = r
  | [], r, h => by simpa [fcLs] using h
  | x :: l, r, h => by
    simp only [fcLs] at h
    split at h
    · rename_i y hy
      split at h
      · rename_i r' hr; cases h; rw [hf x y hy, fcLs_eq hf hr]
      · cases h
    · cases h
def fcB (b : ByteArray) : Option ByteArray := match fcLs fcU b.data.toList with
  | some l => some ⟨l.toArray⟩
  | none => none
theorem fcB_eq {b d : ByteArray} (h : fcB b = some d) : b = d := by
  unfold fcB at h
  split at h
  · rename_i l hl
    cases h
    have := fcLs_eq (fun x y h => fcU_eq h) hl
    apply ByteArray.ext
    rw [← this]
  · cases h
def fcX : Value → Option Value
  | .int k i => match fcI i with
    | some j => some (.int k j)
    | none => none
  | .bool b => match b with
    | true => some (.bool true)
    | false => some (.bool false)
  | .string b => match fcB b with
    | some d => some (.string d)
    | none => none
  | x => some x
theorem fcX_eq {x y : Value} (h : fcX x = some y) : x = y := by
  cases x with
  | int k i =>
    simp only [fcX] at h
    split at h
    · rename_i j hj; cases h; rw [fcI_eq hj]
    · cases h
  | bool b => cases b <;> (cases h; rfl)
  | string b =>
    simp only [fcX] at h
    split at h
    · rename_i d hd; cases h; rw [fcB_eq hd]
    · cases h
  | _ => simp only [fcX] at h; cases h; rfl
def fcC : C → Option C
  | .v x => match fcX x with
    | some y => some (.v y)
    | none => none
  | .p n o => match fcN n, fcN o with
    | some n, some o => some (.p n o)
    | _, _ => none
  | .s n o l k => match fcN n, fcN o, fcN l, fcN k with
    | some n, some o, some l, some k => some (.s n o l k)
    | _, _, _, _ => none
  | .g n o l b z => match fcN n, fcN o, fcN l, fcN b with
    | some n, some o, some l, some b => some (.g n o l b z)
    | _, _, _, _ => none
  | .y n => match fcN n with
    | some n => some (.y n)
    | none => none
  | x => some x
theorem fcC_eq {x y : C} (h : fcC x = some y) : x = y := by
  cases x with
  | v x =>
    simp only [fcC] at h
    split at h
    · rename_i y hy; cases h; rw [fcX_eq hy]
    · cases h
  | p n o =>
    simp only [fcC] at h
    split at h
    · rename_i h1 h2; cases h; rw [fcN_eq h1, fcN_eq h2]
    · cases h
  | s n o l k =>
    simp only [fcC] at h
    split at h
    · rename_i h1 h2 h3 h4; cases h; rw [fcN_eq h1, fcN_eq h2, fcN_eq h3, fcN_eq h4]
    · cases h
  | g n o l b z =>
    simp only [fcC] at h
    split at h
    · rename_i h1 h2 h3 h4; cases h; rw [fcN_eq h1, fcN_eq h2, fcN_eq h3, fcN_eq h4]
    · cases h
  | f g ca => simp only [fcC] at h; cases h; rfl
  | y n =>
    simp only [fcC] at h
    split at h
    · rename_i h1; cases h; rw [fcN_eq h1]
    · cases h
def fcP : C ⊕ List C → Option (C ⊕ List C)
  | .inl x => match fcC x with
    | some y => some (.inl y)
    | none => none
  | .inr l => match fcLs fcC l with
    | some r => some (.inr r)
    | none => none
theorem fcP_eq {x y : C ⊕ List C} (h : fcP x = some y) : x = y := by
  cases x with
  | inl x =>
    simp only [fcP] at h
    split at h
    · rename_i y hy; cases h; rw [fcC_eq hy]
    · cases h
  | inr l =>
    simp only [fcP] at h
    split at h
    · rename_i r hr; cases h; rw [fcLs_eq (fun x y h => fcC_eq h) hr]
    · cases h
def fcV : V → Option V
  | .c x => match fcC x with
    | some y => some (.c y)
    | none => none
  | .a l => match fcLs fcC l with
    | some r => some (.a r)
    | none => none
  | .t l => match fcLs fcP l with
    | some r => some (.t r)
    | none => none
theorem fcV_eq {x y : V} (h : fcV x = some y) : x = y := by
  cases x with
  | c x =>
    simp only [fcV] at h
    split at h
    · rename_i y hy; cases h; rw [fcC_eq hy]
    · cases h
  | a l =>
    simp only [fcV] at h
    split at h
    · rename_i r hr; cases h; rw [fcLs_eq (fun x y h => fcC_eq h) hr]
    · cases h
  | t l =>
    simp only [fcV] at h
    split at h
    · rename_i r hr; cases h; rw [fcLs_eq (fun x y h => fcP_eq h) hr]
    · cases h
def lv (s : Sf) (n : Nat) : Bool := match s (.l n) with
  | some (.l b) => b
  | _ => false
theorem lv_eq {s : Sf} {n : Nat} (h : lv s n = true) : s (.l n) = some (.l true) := by
  unfold lv at h
  split at h
  · rename_i b hb; rw [hb, h]
  · cases h
def optI (s : Sf) : Option Operand → Option (Option Int × List Key)
  | none => some (none, [])
  | some x => match opv s x with
    | some (.c (.v (.int _ i))) => some (some i, opk x)
    | _ => none
theorem optI_ok {s : Sf} {x : Option Operand} {i : Option Int} {ks : List Key} (h : optI s x = some (i, ks)) : OptI s x i ks := by
  unfold optI at h
  split at h
  · cases h; exact .no
  · split at h
    · rename_i hx; cases h; exact .yes hx
    · cases h
/-- low, high, most. -/
def bndE (n cap : Nat) (lo hi mx : Option Int) : Option (Nat × Nat × Nat) :=
  match (match mx with | some i => if 0 ≤ i ∧ i ≤ cap then some i.toNat else none | none => some cap) with
  | none => none
  | some m => match (match hi, mx with | some i, _ => if 0 ≤ i ∧ i ≤ m then some i.toNat else none | none, none => some n | none, some _ => none) with
    | none => none
    | some h => match (match lo with | some i => if 0 ≤ i ∧ i ≤ h then some i.toNat else none | none => some 0) with
      | none => none
      | some l => if l ≤ h ∧ h ≤ m then some (l, h, m) else none
theorem bndE_ok {n cap l h m : Nat} {lo hi mx : Option Int} (he : bndE n cap lo hi mx = some (l, h, m)) : bnd n cap lo hi mx l h m ∧ l ≤ h ∧ h ≤ m := by
  unfold bndE at he
  split at he
  · cases he
  · rename_i m' hm
    split at he
    · cases he
    · rename_i h' hh
      split at he
      · cases he
      · rename_i l' hl
        split at he
        · rename_i hle
          cases he
          refine ⟨⟨?_, ?_, ?_⟩, hle⟩
          · cases mx with
            | none => simp only [Option.some.injEq] at hm; exact hm.symm
            | some i =>
              simp only at hm ⊢
              split at hm
              · rename_i hc; cases hm; exact ⟨hc.1, hc.2, rfl⟩
              · cases hm
          · cases hi with
            | none => cases mx with
              | none => simp only [Option.some.injEq] at hh; exact hh.symm
              | some i => cases hh
            | some i =>
              simp only at hh ⊢
              split at hh
              · rename_i hc; cases hh; exact ⟨hc.1, hc.2, rfl⟩
              · cases hh
          · cases lo with
            | none => simp only [Option.some.injEq] at hl; exact hl.symm
            | some i =>
              simp only at hl ⊢
              split at hl
              · rename_i hc; cases hl; exact ⟨hc.1, hc.2, rfl⟩
              · cases hl
        · cases he
def capsE (s : Sf) : List Operand → Option (List (Nat × Nat) × List Key)
  | [] => some ([], [])
  | x :: xs => match opv s x, capsE s xs with
    | some (.c (.p n o)), some (l, ks) => if lv s n = true then some ((n, o) :: l, .l n :: (opk x ++ ks)) else none
    | _, _ => none
theorem capsE_ok {s : Sf} : ∀ {xs : List Operand} {l : List (Nat × Nat)} {ks : List Key}, capsE s xs = some (l, ks) → Caps s xs l ks
  | [], l, ks, h => by simp only [capsE, Option.some.injEq, Prod.mk.injEq] at h; obtain ⟨rfl, rfl⟩ := h; exact .nil
  | x :: xs, l, ks, h => by
    simp only [capsE] at h
    split at h
    · rename_i n o l' ks' hx hl
      split at h
      · rename_i ha; cases h; exact .cons hx (lv_eq ha) (capsE_ok hl)
      · cases h
    · cases h
def valsE (s : Sf) : List Operand → Option (List V × List Key)
  | [] => some ([], [])
  | x :: xs => match opv s x, valsE s xs with
    | some v, some (l, ks) => some (v :: l, opk x ++ ks)
    | _, _ => none
theorem valsE_ok {s : Sf} : ∀ {xs : List Operand} {l : List V} {ks : List Key}, valsE s xs = some (l, ks) → Vals s xs l ks
  | [], l, ks, h => by simp only [valsE, Option.some.injEq, Prod.mk.injEq] at h; obtain ⟨rfl, rfl⟩ := h; exact .nil
  | x :: xs, l, ks, h => by
    simp only [valsE] at h
    split at h
    · rename_i v l' ks' hx hl; cases h; exact .cons hx (valsE_ok hl)
    · cases h
def plainV : List V → Option (List Value)
  | [] => some []
  | .c (.v x) :: l => match plainV l with
    | some r => some (x :: r)
    | none => none
  | _ :: _ => none
theorem plainV_eq : ∀ {l : List V} {r : List Value}, plainV l = some r → l = r.map fun X => V.c (.v X)
  | [], r, h => by simp only [plainV, Option.some.injEq] at h; subst h; rfl
  | .c (.v x) :: l, r, h => by
    simp only [plainV] at h
    split at h
    · rename_i r' hr; cases h; rw [plainV_eq hr]; rfl
    · cases h
  | .c (.p _ _) :: _, _, h => by cases h
  | .c (.s _ _ _ _) :: _, _, h => by cases h
  | .c (.g _ _ _ _ _) :: _, _, h => by cases h
  | .c (.f _ _) :: _, _, h => by cases h
  | .c (.y _) :: _, _, h => by cases h
  | .a _ :: _, _, h => by cases h
  | .t _ :: _, _, h => by cases h
def binE (P : Program) (s : Sf) (op : BinOp) (t : TypeId) (x y : Operand) : Option (V × List Key) := match opv s x, opv s y with
  | some (.c (.v X)), some (.c (.v Y)) => match binC P t op X Y with
    | some Z => some (.c (.v Z), opk x ++ opk y)
    | none => none
  | some (.a l), some (.a m) => match plainL l, plainL m with
    | some L, some M => if eqOkB P t L M = true then (match op with
      | .eql => some (.c (.v (.bool (eqs L M))), opk x ++ opk y)
      | .neq => some (.c (.v (.bool (!eqs L M))), opk x ++ opk y)
      | _ => none) else none
    | _, _ => none
  | some (.c (.p n _)), some (.c (.v (.pointer none))) => match P.underlying t with
    | some (.pointer _) => if lv s n = true then (match op with
      | .eql => some (.c (.v (.bool false)), .l n :: (opk x ++ opk y))
      | .neq => some (.c (.v (.bool true)), .l n :: (opk x ++ opk y))
      | _ => none) else none
    | _ => none
  | _, _ => none
/-- A value held against nil. -/
def nilE (P : Program) (s : Sf) (x : Operand) (t : TypeId) (Y : Value) : Option (Bool × List Key) := match Y, P.underlying t with
  | .nilFunc, some (.func _ _ _) => match opv s x with
    | some (.c (.f _ ca)) => if ca.all (fun q => lv s q.1) = true then some (false, ca.map fun q => .l q.1) else none
    | some (.c (.y n)) => if lv s n = true then some (false, [.l n]) else none
    | some (.c (.v .nilFunc)) => some (true, [])
    | _ => none
  | .slice none 0 0, some (.slice _) => match opv s x with
    | some (.c (.s n _ l k)) => if lv s n = true ∧ 0 < l + k then some (false, [.l n]) else none
    | some (.c (.g n _ l b _)) => if lv s n = true ∧ 0 < l + b then some (false, [.l n]) else none
    | some (.c (.v (.slice p _ _))) => some (p.isNone, [])
    | _ => none
  | .pointer none, some (.pointer _) => match opv s x with
    | some (.c (.v (.pointer (some _)))) => some (false, [])
    | _ => none
  | _, _ => none
def eP_move (P : Program) (s : Sf) (x : Operand) : Option (V × List Key) := match opv s x with
    | some v => some (v, opk x)
    | none => none
def eP_assign (P : Program) (s : Sf) (x : Operand) : Option (V × List Key) := match opv s x with
    | some v => some (v, opk x)
    | none => none
def eP_pick (P : Program) (s : Sf) (x : Operand) (y : Operand) (z : Operand) : Option (V × List Key) := match opv s x with
    | some (.c (.v (.bool true))) => match opv s y with
      | some v => some (v, opk x ++ opk y)
      | none => none
    | some (.c (.v (.bool false))) => match opv s z with
      | some v => some (v, opk x ++ opk z)
      | none => none
    | _ => none
def eP_extract (P : Program) (s : Sf) (x : Operand) (i : Nat) : Option (V × List Key) := match opv s x with
    | some (.t l) => match l[i]? with
      | some (.inl z) => some (.c z, opk x)
      | some (.inr z) => some (.a z, opk x)
      | none => none
    | _ => none
def eP_field (P : Program) (s : Sf) (t : TypeId) (x : Operand) (i : Nat) : Option (V × List Key) := match opv s x, P.underlying t with
    | some (.a l), some (.struct fs) => match fs[i]? with
      | some f => match partC P f.type l f.offset with
        | some v => some (v, opk x)
        | none => none
      | none => none
    | _, _ => none
def eP_index (P : Program) (s : Sf) (t : TypeId) (x : Operand) (y : Operand) : Option (V × List Key) := match opv s x, opv s y, P.underlying t with
    | some (.a l), some (.c (.v (.int _ j))), some (.array len el) => match tS P el with
      | some z => if 0 ≤ j ∧ j < len then (match partC P el l (j.toNat * z) with
        | some v => some (v, opk x ++ opk y)
        | none => none) else none
      | none => none
    | some (.c (.v (.string b))), some (.c (.v (.int _ j))), some .string => if 0 ≤ j then (match b.data.toList[j.toNat]? with
      | some u => some (.c (.v (.int .u8 u.toNat)), opk x ++ opk y)
      | none => none) else none
    | _, _, _ => none
def eP_makeFunc (P : Program) (s : Sf) (g : FuncId) (first : Array Operand) (xs : Array Operand) : Option (V × List Key) := match first.toList, capsE s xs.toList with
    | [], some (l, ks) => some (.c (.f g l), ks)
    | _, _ => none
def eP_fieldAddr (P : Program) (s : Sf) (t : TypeId) (x : Operand) (i : Nat) : Option (V × List Key) := match opv s x, P.underlying t with
    | some (.c (.p n o)), some (.struct fs) => match fs[i]? with
      | some f => match tS P f.type with
        | some k => if lv s n = true ∧ k ≠ 0 then some (.c (.p n (o + f.offset)), .l n :: opk x) else none
        | none => none
      | none => none
    | _, _ => none
def eP_indexAddr (P : Program) (s : Sf) (t : TypeId) (x : Operand) (y : Operand) : Option (V × List Key) := match opv s x, opv s y, P.underlying t with
    | some (.c (.p n o)), some (.c (.v (.int _ j))), some (.array len el) => match tS P el with
      | some z => if lv s n = true ∧ 0 ≤ j ∧ j < len then some (.c (.p n (o + j.toNat * z)), .l n :: (opk x ++ opk y)) else none
      | none => none
    | some (.c (.s n o len _)), some (.c (.v (.int _ j))), some (.slice el) => match tS P el with
      | some z => if lv s n = true ∧ 0 ≤ j ∧ j < len then some (.c (.p n (o + j.toNat * z)), .l n :: (opk x ++ opk y)) else none
      | none => none
    | some (.c (.g n o len _ _)), some (.c (.v (.int _ j))), some (.slice el) => match tS P el with
      | some z => if lv s n = true ∧ 0 ≤ j ∧ j < len then some (.c (.p n (o + j.toNat * z)), .l n :: (opk x ++ opk y)) else none
      | none => none
    | _, _, _ => none
def eP_slice (P : Program) (s : Sf) (t : TypeId) (x : Operand) (lo : Option Operand) (hi : Option Operand) (mx : Option Operand) : Option (V × List Key) := match opv s x, P.underlying t, optI s lo, optI s hi, optI s mx with
    | some (.c (.s n o len cap)), some (.slice el), some (lo', k1), some (hi', k2), some (mx', k3) => match tS P el, bndE len cap lo' hi' mx' with
      | some z, some (l, h, m) => if lv s n = true then some (.c (.s n (o + l * z) (h - l) (m - l)), .l n :: (opk x ++ (k1 ++ (k2 ++ k3)))) else none
      | _, _ => none
    | some (.c (.g n o len lb z)), some (.slice el), some (lo', k1), some (hi', k2), some (mx', k3) => match tS P el, mx with
      | some z', none => match bndE len (Nat.max len lb) lo' hi' none with
        | some (l, h, _) => if lv s n = true ∧ z' = z then some (.c (.g n (o + l * z) (h - l) (Nat.max len lb - l) z), .l n :: (opk x ++ (k1 ++ k2))) else none
        | none => none
      | some z', some _ => match bndE len (Nat.max len lb) lo' hi' mx' with
        | some (l, h, m) => if lv s n = true ∧ z' = z then some (.c (.s n (o + l * z) (h - l) (m - l)), .l n :: (opk x ++ (k1 ++ (k2 ++ k3)))) else none
        | none => none
      | none, _ => none
    | some (.c (.p n o)), some (.array len el), some (lo', k1), some (hi', k2), some (mx', k3) => match tS P el, bndE len len lo' hi' mx' with
      | some z, some (l, h, m) => if lv s n = true then some (.c (.s n (o + l * z) (h - l) (m - l)), .l n :: (opk x ++ (k1 ++ (k2 ++ k3)))) else none
      | _, _ => none
    | some (.c (.v (.slice none 0 0))), some (.slice el), some (lo', k1), some (hi', k2), some (mx', k3) => match tS P el, bndE 0 0 lo' hi' mx' with
      | some _, some _ => some (.c (.v (.slice none 0 0)), opk x ++ (k1 ++ (k2 ++ k3)))
      | _, _ => none
    | some (.c (.v (.string b))), some .string, some (lo', k1), some (hi', k2), some _ => match mx, bndE b.data.size b.data.size lo' hi' none with
      | none, some (l, h, _) => some (.c (.v (.string (b.extract l h))), opk x ++ (k1 ++ k2))
      | _, _ => none
    | _, _, _, _, _ => none
def eP_nilCheck (P : Program) (s : Sf) (x : Operand) : Option (V × List Key) := match opv s x with
    | some (.c (.p n o)) => if lv s n = true then some (.c (.p n o), .l n :: opk x) else none
    | some (.c (.v (.pointer (some b)))) => some (.c (.v (.pointer (some b))), opk x)
    | some (.c (.f g ca)) => if ca.all (fun q => lv s q.1) = true then some (.c (.f g ca), ca.map (fun q => .l q.1) ++ opk x) else none
    | some (.c (.y n)) => if lv s n = true then some (.c (.y n), .l n :: opk x) else none
    | _ => none
def eP_unOp (P : Program) (s : Sf) (op : UnOp) (x : Operand) : Option (V × List Key) := match opv s x with
    | some (.c (.v X)) => match unC op X with
      | some Z => some (.c (.v Z), opk x)
      | none => none
    | _ => none
def eP_binOp (P : Program) (s : Sf) (op : BinOp) (t : TypeId) (x : Operand) (y : Operand) : Option (V × List Key) := match binE P s op t x y with
    | some r => some r
    | none => match opv s y with
      | some (.c (.v Y)) => match nilE P s x t Y, op with
        | some (b, ks), .eql => some (.c (.v (.bool b)), (ks ++ opk x) ++ opk y)
        | some (b, ks), .neq => some (.c (.v (.bool !b)), (ks ++ opk x) ++ opk y)
        | _, _ => none
      | _ => none
def eP_convert (P : Program) (s : Sf) (src : TypeId) (dst : TypeId) (x : Operand) : Option (V × List Key) := match opv s x, P.underlying src, P.underlying dst with
    | some (.c (.v (.int _ n))), some _, some (.int k') => some (.c (.v (.int k' (k'.wrap n))), opk x)
    | some (.c (.v (.string b))), some _, some .string => some (.c (.v (.string b)), opk x)
    | _, _, _ => none
def eP_call (P : Program) (s : Sf) (b : Builtin) (xs : Array Operand) (ts : Array TypeId) : Option (V × List Key) := match b with
    | .len => match xs.toList, ts.toList with
      | [x], [t] => match opv s x, P.underlying t with
        | some (.c (.s n _ len _)), some (.slice _) => if lv s n = true then some (.c (.v (.int .i64 len)), .l n :: opk x) else none
        | some (.c (.g n _ len _ _)), some (.slice _) => if lv s n = true then some (.c (.v (.int .i64 len)), .l n :: opk x) else none
        | some (.c (.v (.string d))), some .string => some (.c (.v (.int .i64 d.data.size)), opk x)
        | some (.c (.v (.slice _ n _))), some (.slice _) => some (.c (.v (.int .i64 n)), opk x)
        | _, _ => none
      | _, _ => none
    | .cap => match xs.toList, ts.toList with
      | [x], [t] => match opv s x, P.underlying t with
        | some (.c (.s n _ _ cap)), some (.slice _) => if lv s n = true then some (.c (.v (.int .i64 cap)), .l n :: opk x) else none
        | _, _ => none
      | _, _ => none
    | .min => match valsE s xs.toList with
      | some (l, ks) => match plainV l with
        | some L => match minL L with
          | some Z => some (.c (.v Z), ks)
          | none => none
        | none => none
      | none => none
    | .max => match valsE s xs.toList with
      | some (l, ks) => match plainV l with
        | some L => match maxL L with
          | some Z => some (.c (.v Z), ks)
          | none => none
        | none => none
      | none => none
    | _ => none
/-- What an operation yields of what slots hold. -/
def evalP (P : Program) (s : Sf) : Op → Option (V × List Key)
  | .move x => eP_move P s x
  | .assign x => eP_assign P s x
  | .pick x y z => eP_pick P s x y z
  | .extract x i => eP_extract P s x i
  | .field t x i => eP_field P s t x i
  | .index t x y => eP_index P s t x y
  | .makeFunc (.func g) first xs => eP_makeFunc P s g first xs
  | .fieldAddr t x i => eP_fieldAddr P s t x i
  | .indexAddr t x y => eP_indexAddr P s t x y
  | .slice t x lo hi mx => eP_slice P s t x lo hi mx
  | .nilCheck x => eP_nilCheck P s x
  | .unOp op _ x => eP_unOp P s op x
  | .binOp op t x y _ => eP_binOp P s op t x y
  | .convert src dst x => eP_convert P s src dst x
  | .call ⟨.builtin b, xs, ts⟩ => eP_call P s b xs ts
  | _ => none
end
end Go.Proofs.YtafhojmnbpegpaaGreat.EV
namespace Go.Proofs.YtafhojmnbpegpaaGreat.EV
open Go.RowKit
/-- What a call reads: what it is handed, and the blocks that are not hidden from it. -/
def rdCall (ks : List Key) (X : Nat → Bool) (hi : Nat) : Key → Bool := fun q => kr ks q || (match q with
  | .l n => !X n && Nat.blt n hi
  | .b n => !X n && Nat.blt n hi
  | .t _ => false)
section
variable {c : Ctx} {F : Fence} {nn : Nat} {σ s : Sf} {e : Env} {a : Act} {w w' : World} {Q : Exit → Act → World → Prop}
theorem Vals.to {xs : List Operand} {vs : List V} {ks : List Key} (h : Vals σ xs vs ks) (hag : ∀ q ∈ ks, s q = σ q) : Vals s xs vs ks := by
  induction h with
  | nil => exact .nil
  | @cons x v xs l ks hx h ih => exact .cons (by rw [opv_agree fun q hq => hag q (by simp [hq])]; exact hx) (ih fun q hq => hag q (by simp [hq]))
theorem Vals.al {xs : List Operand} {vs : List V} {ks : List Key} (h : Vals σ xs vs ks) (hc : Cl σ) : ∀ v ∈ vs, ∀ n ∈ v.names, σ (.l n) ≠ none := by
  induction h with
  | nil => intro v hv; cases hv
  | @cons x v xs l ks hx h ih =>
    intro y hy
    rcases List.mem_cons.1 hy with rfl | hy
    · exact opv_names hx hc
    · exact ih y hy
theorem LocalO.call (hF : WideLike F) {f : FuncId} {ca : List (Nat × Nat)} {x : Operand} {xs : List Operand} {vs : List V} {ks : List Key} {tys : Array TypeId} {lo hi : Nat} {v : V} {h' : Sf} {X : Nat → Bool} {ws : Ws} {d : Option Tmp} {rt : TypeId} {pos : String} {af : Array Edge} {g : Option (Nat × Bool)}
    (he : ∀ args w, (callFunc f args).run c.P w = .ok (.enter f args) w) (hx : opv σ x = some (.c (.f f ca))) (hca : ∀ q ∈ ca, σ (.l q.1) = some (.l true) ∧ X q.1 = false) (hv : Vals σ xs vs ks) (hN : dOk c.N d = true)
    (hct : CT c.P f (vs ++ capV ca) (mask σ X) lo hi v h') (hC : CallOk c σ X lo hi v h' ws) :
    LocalO c F nn ⟨d, .call ⟨.value x, xs.toArray, tys⟩, rt, pos, af, g⟩ σ ⟨rdCall (opk x ++ ks) X hi, putW d v ++ ws⟩ := by
  intro hcl Q s e a w K hag hR hK
  have hk : ∀ q ∈ opk x ++ ks, s q = σ q := fun q hq => hag q (by simp only [rdCall, kr_iff.2 hq, Bool.true_or])
  have hnm : ∀ n, n < hi → X n = false → s (.l n) = σ (.l n) ∧ s (.b n) = σ (.b n) := fun n h1 h2 => by
    have h3 : Nat.blt n hi = true := by simpa using h1
    exact ⟨hag _ (by simp [rdCall, h2, h3]), hag _ (by simp [rdCall, h2, h3])⟩
  have hlt : ∀ n, σ (.l n) ≠ none → n < hi := fun n hn => by
    rcases Nat.lt_or_ge n hi with h | h
    · exact h
    · exact absurd (hC.fr n (Nat.le_trans hC.le h)) hn
  have hca' : ∀ q ∈ ca, s (.l q.1) = some (.l true) := fun q hq => by
    obtain ⟨h1, h2⟩ := hca q hq
    rw [(hnm q.1 (hlt q.1 (by rw [h1]; simp)) h2).1]; exact h1
  have hx' : opv s x = some (.c (.f f ca)) := by rw [opv_agree fun q hq => hk q (by simp [hq])]; exact hx
  have ex := eval_f hx' hca' hR
  have hv' : Vals s xs vs ks := hv.to fun q hq => hk q (by simp [hq])
  obtain ⟨g1, _⟩ := hv'.ok hR
  obtain ⟨c3, hP, hgv, hM, hback⟩ := hR.called hcl hC hnm
  obtain ⟨_, hlv⟩ := hR.W.mask hcl (X := X) hnm (fun n hn => hC.fr n (Nat.le_trans hC.le hn))
  refine ⟨fun f _ => hF.fn f, ?_⟩
  rw [Oper.semAt_eq _ _ _ (noDefer rfl)]
  simp only [execOp, resolve, ex, invoke, Deferred.ofValue, List.map_toArray, Sem.run_bind, Sem.run_pure, Result.andThen_ok]
  simp only [List.append_toArray, List.nil_append, he, Oper.uponIn]
  have hargs : OkVs (mask σ X) e (vs ++ capV ca) (xs.map a.eval ++ capU e ca) := OkVs.append (OkVs.mono (s := s) (s' := mask σ X) (fun v _ n _ => ⟨fun h => (hlv n h).1, .rfl⟩) g1) (caps_ok ca)
  have hnames : ∀ v ∈ vs ++ capV ca, ∀ n ∈ v.names, mask σ X (.l n) ≠ none := fun v hv2 n hn => by
    rcases List.mem_append.1 hv2 with hv2 | hv2
    · exact mask_ne (hv.al hcl v hv2 n hn)
    · obtain ⟨q, hq, rfl⟩ := capV_names hv2 hn
      exact mask_ne (by rw [(hca q hq).1]; simp)
  refine ⟨fun h => absurd h (by rw [hF.depth]; simp), hF.calls ((hct c3 e w _ hP hgv hM hargs hnames).mono ?_)⟩
  rintro en w' ⟨u, e', rfl, hW', hu, hun⟩
  obtain ⟨r1, r2, r3⟩ := hback u e' w' hW' hu hun
  refine hK e' _ _ ?_
  have := r1.putW (dst := d) hN r2 r3
  rw [← upd_append] at this
  exact this
/-- A call that the model carries out here and now, of plain values: several plain results. -/
theorem LocalO.ext (hF : WideLike F) {f : FuncId} {x : Operand} {xs : List Operand} {L Z : List Value} {ks : List Key} {tys : Array TypeId} {d : Option Tmp} {rt : TypeId} {pos : String} {af : Array Edge} {g : Option (Nat × Bool)}
    (hN : dOk c.N d = true) (hx : opv σ x = some (.c (.f f []))) (hv : Vals σ xs (L.map fun X => V.c (.v X)) ks) (hr : ∀ w, (callFunc f L.toArray).run c.P w = .ok (.value (.tuple Z.toArray)) w) :
    LocalO c F nn ⟨d, .call ⟨.value x, xs.toArray, tys⟩, rt, pos, af, g⟩ σ ⟨kr (opk x ++ ks), putW d (.t (Z.map fun X => .inl (.v X)))⟩ := by
  refine LocalO.val hF hN (noDefer rfl) fun s e a w hag hR => ⟨.tuple Z.toArray, ?_, ⟨Z, rfl, ?_⟩, fun n hn => ?_⟩
  · have hx' : opv s x = some (.c (.f f [])) := by rw [opv_agree fun q hq => hag q (kr_iff.2 (by simp [hq]))]; exact hx
    have ex : a.eval x = .func (.func f) #[] #[] := eval_f hx' (fun q hq => by cases hq) hR
    have hl := hv.agree (fun q hq => hag q (kr_iff.2 (by simp [hq]))) hR
    simp only [execOp, resolve, ex, invoke, Deferred.ofValue, List.map_toArray, Sem.run_bind, Sem.run_pure, Result.andThen_ok, hl]
    simp only [List.append_toArray, List.nil_append, List.append_nil, hr]
  · clear hr hv
    induction Z with
    | nil => rfl
    | cons z Z ih => exact ⟨z, Z, rfl, Ok.of, ih⟩
  · have : (V.t (Z.map fun X => .inl (.v X))).names = [] := by
      clear hr hv
      induction Z with
      | nil => rfl
      | cons z Z ih => simp [V.names, namesP, C.names]
    rw [this] at hn; cases hn
end
end Go.Proofs.YtafhojmnbpegpaaGreat.EV
namespace Go.Proofs.YtafhojmnbpegpaaGreat.EV
noncomputable section
open Go.RowKit
open SX (eqs)
section
variable {P : Program} {s : Sf}
theorem arr0 {α : Type} {x : Array α} (h : x.toList = []) : x = #[] := by cases x; simp at h; subst h; rfl
theorem arr1 {α : Type} {x : Array α} {y : α} (h : x.toList = [y]) : x = #[y] := by cases x; simp at h; subst h; rfl
theorem evalP_slice {t : TypeId} {x : Operand} {lo hi mx : Option Operand} {v : V} {ks : List Key} (h : evalP P s (.slice t x lo hi mx) = some (v, ks)) : PO P s (.slice t x lo hi mx) v ks := by
  simp only [evalP, eP_slice] at h
  split at h
  · rename_i hx hu h1 h2 h3
    split at h
    · rename_i hz hb
      split at h
      · rename_i ha
        cases h
        obtain ⟨b1, b2, b3⟩ := bndE_ok hb
        exact .sliceS hx (lv_eq ha) (optI_ok h1) (optI_ok h2) (optI_ok h3) hu hz b1 b2 b3
      · cases h
    · cases h
  · rename_i hx hu h1 h2 h3
    split at h
    · rename_i z' hz
      split at h
      · rename_i l h' m' hb
        split at h
        · rename_i ha
          obtain ⟨ha, rfl⟩ := ha
          cases h
          obtain ⟨b1, b2, b3⟩ := bndE_ok hb
          have hm := b1.1
          simp only at hm
          subst hm
          exact .sliceG hx (lv_eq ha) (optI_ok h1) (optI_ok h2) hu hz b1 b2
        · cases h
      · cases h
    · rename_i z' z0 hz
      split at h
      · rename_i l h' m' hb
        split at h
        · rename_i ha
          obtain ⟨ha, rfl⟩ := ha
          cases h
          obtain ⟨b1, b2, b3⟩ := bndE_ok hb
          exact .sliceG3 hx (lv_eq ha) (optI_ok h1) (optI_ok h2) (optI_ok h3) hu hz b1 b2 b3
        · cases h
      · cases h
    · cases h
  · rename_i hx hu h1 h2 h3
    split at h
    · rename_i hz hb
      split at h
      · rename_i ha
        cases h
        obtain ⟨b1, b2, b3⟩ := bndE_ok hb
        exact .sliceP hx (lv_eq ha) (optI_ok h1) (optI_ok h2) (optI_ok h3) hu hz b1 b2 b3
      · cases h
    · cases h
  · rename_i hx hu h1 h2 h3
    split at h
    · rename_i hz hb
      cases h
      obtain ⟨b1, b2, b3⟩ := bndE_ok hb
      exact .sliceN hx (optI_ok h1) (optI_ok h2) (optI_ok h3) hu hz b1 b2 b3
    · cases h
  · rename_i hx hu h1 h2 h3
    split at h
    · rename_i hb
      cases h
      obtain ⟨b1, b2, b3⟩ := bndE_ok hb
      have hm := b1.1
      simp only at hm
      subst hm
      exact .sliceT hx (optI_ok h1) (optI_ok h2) hu b1
    · cases h
  · cases h
theorem evalP_call {q : Call} {v : V} {ks : List Key} (h : evalP P s (.call q) = some (v, ks)) : PO P s (.call q) v ks := by
  obtain ⟨cal, xs, ts⟩ := q
  cases cal with
  | builtin b =>
    cases b <;> simp only [evalP, eP_call] at h <;> try cases h
    case len =>
      split at h
      · rename_i x t hx ht
        obtain rfl := arr1 hx
        obtain rfl := arr1 ht
        split at h
        · rename_i h1 h2
          split at h
          · rename_i ha; cases h; exact .lenS h1 (lv_eq ha) h2
          · cases h
        · rename_i h1 h2
          split at h
          · rename_i ha; cases h; exact .lenG h1 (lv_eq ha) h2
          · cases h
        · rename_i h1 h2; cases h; exact .lenT h1 h2
        · rename_i h1 h2; cases h; exact .lenN h1 h2
        · cases h
      · cases h
    case cap =>
      split at h
      · rename_i x t hx ht
        obtain rfl := arr1 hx
        obtain rfl := arr1 ht
        split at h
        · rename_i h1 h2
          split at h
          · rename_i ha; cases h; exact .capS h1 (lv_eq ha) h2
          · cases h
        · cases h
      · cases h
    case min =>
      split at h
      · rename_i l ks' hv
        split at h
        · rename_i L hL
          split at h
          · rename_i Z hZ
            cases h
            have := valsE_ok hv
            rw [plainV_eq hL] at this
            have h2 := PO.mins (P := P) (ty := ts) this hZ
            rwa [Array.toArray_toList] at h2
          · cases h
        · cases h
      · cases h
    case max =>
      split at h
      · rename_i l ks' hv
        split at h
        · rename_i L hL
          split at h
          · rename_i Z hZ
            cases h
            have := valsE_ok hv
            rw [plainV_eq hL] at this
            have h2 := PO.maxs (P := P) (ty := ts) this hZ
            rwa [Array.toArray_toList] at h2
          · cases h
        · cases h
      · cases h
  | _ => cases h
theorem binE_ok {op : BinOp} {t ty : TypeId} {x y : Operand} {v : V} {ks : List Key} (h : binE P s op t x y = some (v, ks)) : PO P s (.binOp op t x y ty) v ks := by
  unfold binE at h
  split at h
  · rename_i hx hy
    split at h
    · rename_i hz; cases h; exact .bin hx hy hz
    · cases h
  · rename_i hx hy
    split at h
    · rename_i hL hM
      split at h
      · rename_i he
        split at h
        · cases h; exact .eqA hx hy hL hM he
        · cases h; exact .neA hx hy hL hM he
        · cases h
      · cases h
    · cases h
  · rename_i hx hy
    split at h
    · rename_i hu
      split at h
      · rename_i ha
        split at h
        · cases h; exact .eqN hx (lv_eq ha) hy hu
        · cases h; exact .neN hx (lv_eq ha) hy hu
        · cases h
      · cases h
    · cases h
  · cases h
theorem nilE_ok {x : Operand} {t : TypeId} {Y : Value} {b : Bool} {ks : List Key} (h : nilE P s x t Y = some (b, ks)) : NilT P s x t Y b ks := by
  unfold nilE at h
  split at h
  · rename_i hu
    split at h
    · rename_i hx
      split at h
      · rename_i ha; cases h
        exact .f hx (fun q hq => ⟨lv_eq (by simpa using List.all_eq_true.1 ha q hq), List.mem_map.2 ⟨q, hq, rfl⟩⟩) hu
      · cases h
    · rename_i hx
      split at h
      · rename_i ha; cases h; exact .y hx (lv_eq ha) hu
      · cases h
    · rename_i hx; cases h; exact .vF hx hu
    · cases h
  · rename_i hu
    split at h
    · rename_i hx
      split at h
      · rename_i ha; cases h; exact .s hx (lv_eq ha.1) ha.2 hu
      · cases h
    · rename_i hx
      split at h
      · rename_i ha; cases h; exact .g hx (lv_eq ha.1) ha.2 hu
      · cases h
    · rename_i hx; cases h; exact .vS hx hu
    · cases h
  · rename_i hu
    split at h
    · rename_i hx; cases h; exact .vP hx hu
    · cases h
  · cases h
theorem evalP_ok {op : Op} {v : V} {ks : List Key} (h : evalP P s op = some (v, ks)) : PO P s op v ks := by
  cases op with
  | slice t x lo hi mx => exact evalP_slice h
  | call q => exact evalP_call h
  | move x =>
    simp only [evalP, eP_move] at h
    split at h
    · rename_i hx; cases h; exact .move hx
    · cases h
  | assign x =>
    simp only [evalP, eP_assign] at h
    split at h
    · rename_i hx; cases h; exact .assign hx
    · cases h
  | pick x y z =>
    simp only [evalP, eP_pick] at h
    split at h
    · rename_i hx
      split at h
      · rename_i hy; cases h; exact .pickT hx hy
      · cases h
    · rename_i hx
      split at h
      · rename_i hy; cases h; exact .pickF hx hy
      · cases h
    · cases h
  | extract x i =>
    simp only [evalP, eP_extract] at h
    split at h
    · rename_i hx
      split at h
      · rename_i hy; cases h; exact .extC hx hy
      · rename_i hy; cases h; exact .extA hx hy
      · cases h
    · cases h
  | field t x i =>
    simp only [evalP, eP_field] at h
    split at h
    · rename_i hx hu
      split at h
      · rename_i hf
        split at h
        · rename_i hp; cases h; exact .field hx hu hf hp
        · cases h
      · cases h
    · cases h
  | index t x y =>
    simp only [evalP, eP_index] at h
    split at h
    · rename_i hx hy hu
      split at h
      · rename_i hz
        split at h
        · rename_i hj
          split at h
          · rename_i hp; cases h; exact .index hx hy hu hz hj hp
          · cases h
        · cases h
      · cases h
    · rename_i hx hy hu
      split at h
      · rename_i hj
        split at h
        · rename_i hp; cases h; exact .indexS hx hy hu hj hp
        · cases h
      · cases h
    · cases h
  | makeFunc f first xs =>
    cases f with
    | func g =>
      simp only [evalP, eP_makeFunc] at h
      split at h
      · rename_i h1 h2
        cases h
        obtain rfl := arr0 h1
        have := PO.func (P := P) (g := g) (capsE_ok h2)
        rwa [Array.toArray_toList] at this
      · cases h
    | _ => cases h
  | fieldAddr t x i =>
    simp only [evalP, eP_fieldAddr] at h
    split at h
    · rename_i hx hu
      split at h
      · rename_i hf
        split at h
        · rename_i hk
          split at h
          · rename_i ha; cases h; exact .fieldAddr hx (lv_eq ha.1) hu hf hk ha.2
          · cases h
        · cases h
      · cases h
    · cases h
  | indexAddr t x y =>
    simp only [evalP, eP_indexAddr] at h
    split at h
    · rename_i hx hy hu
      split at h
      · rename_i hz
        split at h
        · rename_i ha; cases h; exact .indexAddr hx (lv_eq ha.1) hy hu hz ha.2
        · cases h
      · cases h
    · rename_i hx hy hu
      split at h
      · rename_i hz
        split at h
        · rename_i ha; cases h; exact .indexAddrS hx (lv_eq ha.1) hy hu hz ha.2
        · cases h
      · cases h
    · rename_i hx hy hu
      split at h
      · rename_i hz
        split at h
        · rename_i ha; cases h; exact .indexAddrG hx (lv_eq ha.1) hy hu hz ha.2
        · cases h
      · cases h
    · cases h
  | nilCheck x =>
    simp only [evalP, eP_nilCheck] at h
    split at h
    · rename_i hx
      split at h
      · rename_i ha; cases h; exact .nilCheck hx (lv_eq ha)
      · cases h
    · rename_i hx; cases h; exact .nilCheckP hx
    · rename_i hx
      split at h
      · rename_i ha
        cases h
        refine .nilCheckF hx fun q hq => ⟨?_, List.mem_map.2 ⟨q, hq, rfl⟩⟩
        have := List.all_eq_true.1 ha q hq
        exact lv_eq (by simpa using this)
      · cases h
    · rename_i hx
      split at h
      · rename_i ha; cases h; exact .nilCheckY hx (lv_eq ha)
      · cases h
    · cases h
  | unOp op t x =>
    simp only [evalP, eP_unOp] at h
    split at h
    · rename_i hx
      split at h
      · rename_i hz; cases h; exact .un hx hz
      · cases h
    · cases h
  | binOp op t x y ty =>
    simp only [evalP, eP_binOp] at h
    split at h
    · rename_i hb; cases h; exact binE_ok hb
    · split at h
      · rename_i hy
        split at h
        · rename_i hn hb2; cases h; exact .nilEq (nilE_ok hn) hy
        · rename_i hn hb2; cases h; exact .nilNe (nilE_ok hn) hy
        · cases h
      · cases h
  | convert src dst x =>
    simp only [evalP, eP_convert] at h
    split at h
    · rename_i hx hs hd; cases h; exact .conv hx hs hd
    · rename_i hx hs hd; cases h; exact .convS hx hs hd
    · cases h
  | _ => cases h
end
end
end Go.Proofs.YtafhojmnbpegpaaGreat.EV
namespace Go.Proofs.YtafhojmnbpegpaaGreat.EV
noncomputable section
open Go.RowKit
/-- What becomes of blocks: nothing; a new one; one that is changed; one that is given up for a new one. -/
inductive Eff where
  | no
  | new (b : B)
  | chg (n : Nat) (b : B)
  | steal (n : Nat) (b : B)
def Eff.ws (m : Nat) : Eff → Ws
  | .no => []
  | .new b => wsNew m b
  | .chg n b => [(.b n, .b b)]
  | .steal n b => wsSteal n m b
def Eff.fresh : Eff → Bool
  | .new _ => true
  | .steal _ _ => true
  | _ => false
/-- The cells of a value. -/
def cvE (s : Sf) : V → Option (List C × List Key)
  | .c x => match x with
    | .v X => if X.oneCell' = true then some ([.v X], []) else none
    | .f g ca => if ca.all (fun q => lv s q.1) = true then some ([.f g ca], ca.map fun q => .l q.1) else none
    | .p n o => if lv s n = true then some ([.p n o], [.l n]) else none
    | .s n o l k => if lv s n = true then some ([.s n o l k], [.l n]) else none
    | .g n o l b z => if lv s n = true then some ([.g n o l b z], [.l n]) else none
    | .y n => if lv s n = true then some ([.y n], [.l n]) else none
  | .a l => some (l, [])
  | .t _ => none
theorem cvE_ok {s : Sf} {v : V} {l : List C} {ks : List Key} (h : cvE s v = some (l, ks)) : CV s v l ks := by
  cases v with
  | c x =>
    cases x with
    | v X =>
      simp only [cvE] at h
      split at h
      · rename_i h1; cases h; exact .v h1
      · cases h
    | f g ca =>
      simp only [cvE] at h
      split at h
      · rename_i h1; cases h
        exact .f fun q hq => ⟨lv_eq (by simpa using List.all_eq_true.1 h1 q hq), List.mem_map.2 ⟨q, hq, rfl⟩⟩
      · cases h
    | p n o =>
      simp only [cvE] at h
      split at h
      · rename_i h1; cases h; exact .n rfl (lv_eq h1)
      · cases h
    | s n o l k =>
      simp only [cvE] at h
      split at h
      · rename_i h1; cases h; exact .n rfl (lv_eq h1)
      · cases h
    | g n o l b z =>
      simp only [cvE] at h
      split at h
      · rename_i h1; cases h; exact .n rfl (lv_eq h1)
      · cases h
    | y n =>
      simp only [cvE] at h
      split at h
      · rename_i h1; cases h; exact .n rfl (lv_eq h1)
      · cases h
  | a l => simp only [cvE, Option.some.injEq, Prod.mk.injEq] at h; obtain ⟨rfl, rfl⟩ := h; exact .a
  | t l => cases h
/-- A block that may be used. -/
def bl (s : Sf) (n : Nat) : Option B := if lv s n = true then (match s (.b n) with
  | some (.b b) => some b
  | _ => none) else none
theorem bl_ok {s : Sf} {n : Nat} {b : B} (h : bl s n = some b) : s (.l n) = some (.l true) ∧ s (.b n) = some (.b b) := by
  unfold bl at h
  split at h
  · rename_i h1
    split at h
    · rename_i h2; cases h; exact ⟨lv_eq h1, h2⟩
    · cases h
  · cases h
/-- Its cells. -/
def cl (s : Sf) (n : Nat) : Option (Bool × List C) := match bl s n with
  | some b => b.cellsC
  | none => none
theorem cl_ok {s : Sf} {n : Nat} {own : Bool} {l : List C} (h : cl s n = some (own, l)) : ∃ b, s (.l n) = some (.l true) ∧ s (.b n) = some (.b b) ∧ b.cellsC = some (own, l) := by
  unfold cl at h
  split at h
  · rename_i b hb; exact ⟨b, (bl_ok hb).1, (bl_ok hb).2, h⟩
  · cases h
/-- Stored into a block. -/
def storeB (b : B) (o : Nat) (vs : List C) : Option B := match b with
  | .m true l => if o + vs.length ≤ l.length then some (.m true (putL o vs l)) else none
  | .w true l => if o + vs.length ≤ l.length then (match plainL vs with
    | some L => some (.w true (putL o L l))
    | none => some (.m true (putL o vs (l.map C.v)))) else none
  | _ => none
theorem storeB_ok {b b' : B} {o : Nat} {vs : List C} (h : storeB b o vs = some b') : ∃ l, b.cellsC = some (true, l) ∧ b'.cellsC = some (true, putL o vs l) ∧ o + vs.length ≤ l.length := by
  unfold storeB at h
  split at h
  · split at h
    · rename_i hle; cases h; exact ⟨_, rfl, rfl, hle⟩
    · cases h
  · split at h
    · rename_i hle
      split at h
      · rename_i L hL
        cases h
        refine ⟨_, rfl, ?_, by simpa using hle⟩
        rw [plainL_eq hL, ← putL_map]; rfl
      · cases h; exact ⟨_, rfl, rfl, by simpa using hle⟩
    · cases h
  · cases h
def partsE (s : Sf) : List (Nat × Operand) → Option (List (Nat × List C) × List Key)
  | [] => some ([], [])
  | (i, x) :: ps => match opv s x with
    | some v => match cvE s v, partsE s ps with
      | some (l, k1), some (r, ks) => some ((i, l) :: r, k1 ++ (opk x ++ ks))
      | _, _ => none
    | none => none
theorem partsE_ok {s : Sf} : ∀ {ps : List (Nat × Operand)} {r : List (Nat × List C)} {ks : List Key}, partsE s ps = some (r, ks) → Parts s ps r ks
  | [], r, ks, h => by simp only [partsE, Option.some.injEq, Prod.mk.injEq] at h; obtain ⟨rfl, rfl⟩ := h; exact .nil
  | (i, x) :: ps, r, ks, h => by
    simp only [partsE] at h
    split at h
    · rename_i hx
      split at h
      · rename_i hl hr; cases h; exact .cons hx (cvE_ok hl) (partsE_ok hr)
      · cases h
    · cases h
/-- What is appended. -/
def srcE (s : Sf) (x : Operand) (z : Nat) : Option (Nat × List C × List Key) := match opv s x with
  | some (.c (.v (.slice none 0 _))) => some (0, [], opk x)
  | some (.c (.s n o k _)) => match cl s n with
    | some (_, l) => if o + k * z ≤ l.length then some (k, (l.drop o).take (k * z), .l n :: .b n :: opk x) else none
    | none => none
  | some (.c (.g n o k _ _)) => match cl s n with
    | some (_, l) => if o + k * z ≤ l.length then some (k, (l.drop o).take (k * z), .l n :: .b n :: opk x) else none
    | none => none
  | some (.c (.v (.string b))) => if z = 1 then some (b.data.toList.length, (b.data.toList.map u8V).map C.v, opk x) else none
  | _ => none
theorem srcE_ok {c : Ctx} {s : Sf} {x : Operand} {z k : Nat} {vs : List C} {ks : List Key} (h : srcE s x z = some (k, vs, ks)) : SrcOk c s x k z vs ks := by
  unfold srcE at h
  split at h
  · rename_i hx; cases h; exact src_nil hx
  · rename_i hx
    split at h
    · rename_i hl
      split at h
      · rename_i hle; cases h; obtain ⟨b, h1, h2, h3⟩ := cl_ok hl; exact src_s hx h1 h2 h3 hle
      · cases h
    · cases h
  · rename_i hx
    split at h
    · rename_i hl
      split at h
      · rename_i hle; cases h; obtain ⟨b, h1, h2, h3⟩ := cl_ok hl; exact src_g hx h1 h2 h3 hle
      · cases h
    · cases h
  · rename_i hx
    split at h
    · rename_i hz; cases h; subst hz; exact src_str hx
    · cases h
  · cases h
/-- Types of an append: the elements', its size, how many bytes. -/
def appE (P : Program) (t t2 : TypeId) : Option (TypeId × Nat × Nat) := match P.underlying t with
  | some (.slice el) => match (match P.underlying t2 with | some .string => true | some (.slice _) => true | _ => false), P.info? el with
    | true, some i => match i.zero with
      | some zv => if zv.cells.size = i.size then some (el, i.size, i.bytes) else none
      | none => none
    | _, _ => none
  | _ => none
theorem appE_ok {P : Program} {t t2 el : TypeId} {z by' : Nat} (h : appE P t t2 = some (el, z, by')) : ∃ i zv, ∀ need, need * by' ≤ 140737488355328 ∧ need ≤ 140737488355328 → AppT P t t2 el z i zv need := by
  unfold appE at h
  split at h
  · rename_i ht
    split at h
    · rename_i i h2 hi
      split at h
      · rename_i zv hz
        split at h
        · rename_i zl
          cases h
          refine ⟨i, zv, fun need hn => ⟨ht, ?_, hi, rfl, hz, zl, hn⟩⟩
          split at h2
          · rename_i hq; exact .inl hq
          · rename_i hq; exact .inr ⟨_, hq⟩
          · cases h2
        · cases h
      · cases h
    · cases h
  · cases h
def bytesL : List C → Option (List UInt8)
  | [] => some []
  | .v (.int .u8 (.ofNat n)) :: l => if n < 256 then (match bytesL l with
    | some r => some (UInt8.ofNat n :: r)
    | none => none) else none
  | _ :: _ => none
theorem bytesL_ok : ∀ {l : List C} {r : List UInt8}, bytesL l = some r → l = (r.map u8V).map C.v
  | [], r, h => by simp only [bytesL, Option.some.injEq] at h; subst h; rfl
  | x :: l, r, h => by
    unfold bytesL at h
    split at h
    · cases h; rename_i h; cases h
    · rename_i n l' he
      cases he
      split at h
      · rename_i hn
        split at h
        · rename_i r' hr
          cases h
          rw [bytesL_ok hr]
          have e : (UInt8.ofNat n).toNat = n := by rw [UInt8.toNat_ofNat']; exact Nat.mod_eq_of_lt hn
          simp only [List.map_cons]
          rw [show u8V (UInt8.ofNat n) = .int .u8 (.ofNat n) by unfold u8V; rw [e]; rfl]
        · cases h
      · cases h
    · cases h
/-- A slice's block, first cell, length. -/
def sl : V → Option (Nat × Nat × Nat)
  | .c (.s n o l _) => some (n, o, l)
  | .c (.g n o l _ _) => some (n, o, l)
  | _ => none
theorem sl_ok {v : V} {n o l : Nat} (h : sl v = some (n, o, l)) : ∃ y, v = .c y ∧ ((∃ cap, y = .s n o l cap) ∨ ∃ lb z, y = .g n o l lb z) := by
  unfold sl at h
  split at h
  · cases h; exact ⟨_, rfl, .inl ⟨_, rfl⟩⟩
  · cases h; exact ⟨_, rfl, .inr ⟨_, _, rfl⟩⟩
  · cases h
def eM_append (P : Program) (s : Sf) (m : Nat) (xs : Array Operand) (ts : Array TypeId) : Option (V × Eff × List Key) := match xs.toList, ts.toList with
  | [x, y], [t, t2] => match appE P t t2 with
    | some (_, z, by') => match srcE s y z, opv s x with
      | some (k, vs, ks), some (.c (.g n o len _ z')) => match cl s n with
        | some (true, l) => if z = z' ∧ o + len * z ≤ l.length ∧ (len + k) * by' ≤ 140737488355328 ∧ len + k ≤ 140737488355328 then
          some (.c (.g m 0 (len + k) (len + k) z), .steal n (.m true ((l.drop o).take (len * z) ++ vs)), .l m :: .l n :: .b n :: (ks ++ opk x)) else none
        | _ => none
      | some (k, vs, ks), some (.c (.s n o len cap)) => match len, cap with
        | 0, 0 => if lv s n = true ∧ (0 + k) * by' ≤ 140737488355328 ∧ 0 + k ≤ 140737488355328 then some (.c (.g m 0 k k z), .new (.m true vs), .l m :: .l n :: (ks ++ opk x)) else none
        | _, _ => match cl s n with
          | some (true, l) => if len ≤ cap ∧ cap ≤ 140737488355328 ∧ o + cap * z ≤ l.length ∧ (len + k) * by' ≤ 140737488355328 ∧ len + k ≤ 140737488355328 then
            some (.c (.g m 0 (len + k) (len + k) z), .steal n (.m true ((l.drop o).take (len * z) ++ vs)), .l m :: .l n :: .b n :: (ks ++ opk x)) else none
          | _ => none
      | some (k, vs, ks), some (.c (.v (.slice _ 0 0))) => if (0 + k) * by' ≤ 140737488355328 ∧ 0 + k ≤ 140737488355328 then some (.c (.g m 0 k k z), .new (.m true vs), .l m :: (ks ++ opk x)) else none
      | _, _ => none
    | none => none
  | _, _ => none
/-- Zeros, as a text. -/
def zrs (n : Nat) : ByteArray := ⟨(List.replicate n (0 : UInt8)).toArray⟩
/-- The type of texts. -/
def strT (P : Program) : Option TypeId := (List.range 300).find? fun i => match P.underlying i with
  | some .string => true
  | _ => false
/-- Zeros that are put behind bytes: as if they were a text. -/
def mkY (P : Program) (xs : Array Operand) (ts : Array TypeId) : Option (Operand × Nat × TypeId × TypeId) := match xs.toList, ts.toList with
  | [x, .const (.int .i64 n)], [t, t2] => match P.underlying t, P.underlying t2, strT P with
    | some (.slice el), some (.int _), some tz => match P.info? el with
      | some i => match i.zero with
        | some (.int .u8 0) => if i.size = 1 ∧ i.bytes = 1 ∧ 1 ≤ n ∧ n ≤ 1000 then some (x, n.toNat, t, tz) else none
        | _ => none
      | none => none
    | _, _, _ => none
  | _, _ => none
def eM_appendZ (P : Program) (s : Sf) (m : Nat) (xs : Array Operand) (ts : Array TypeId) : Option (V × Eff × List Key) := match mkY P xs ts with
  | some (x, n, t, tz) => eM_append P s m #[x, .const (.string (zrs n))] #[t, tz]
  | none => eM_append P s m xs ts
def eM_copy (P : Program) (s : Sf) (m : Nat) (xs : Array Operand) (ts : Array TypeId) : Option (V × Eff × List Key) := match xs.toList, ts.toList with
  | [x, y], [t, _] => match P.underlying t with
    | some (.slice el) => match tS P el, opv s x, opv s y with
      | some z, some v, some v2 => match v2 with
        | .c (.v (.slice none 0 _)) => match sl v with
          | some (n, o, _) => match bl s n with
            | some b => match storeB b o [] with
              | some b' => some (.c (.v (.int .i64 (0 : Nat))), .chg n b', .l n :: .b n :: (opk y ++ opk x))
              | none => none
            | none => none
          | none => none
        | v2 => match sl v, sl v2 with
          | some (n, o, len), some (n2, o2, k) => match bl s n, cl s n2 with
            | some b, some (_, l2) => match storeB b o ((l2.drop o2).take (Nat.min k len * z)) with
              | some b' => if o2 + Nat.min k len * z ≤ l2.length then some (.c (.v (.int .i64 (Nat.min k len))), .chg n b', .l n :: .b n :: ((.l n2 :: .b n2 :: opk y) ++ opk x)) else none
              | none => none
            | _, _ => none
          | _, _ => none
      | _, _, _ => none
    | _ => none
  | _, _ => none
def eM_alloc (P : Program) (s : Sf) (m : Nat) (d : Option Tmp) (t : TypeId) : Option (V × Eff × List Key) := match zeroC P t with
    | some zs => some (.c (.p m 0), .new (.m true (zs.map C.v)), [.l m])
    | none => none
def eM_box (P : Program) (s : Sf) (m : Nat) (d : Option Tmp) (x : Operand) : Option (V × Eff × List Key) := match opv s x with
    | some v => match cvE s v with
      | some (l, ks) => some (.c (.p m 0), .new (.m true l), .l m :: (ks ++ opk x))
      | none => none
    | none => none
def eM_load (P : Program) (s : Sf) (m : Nat) (d : Option Tmp) (t : TypeId) (x : Operand) : Option (V × Eff × List Key) := match opv s x with
    | some (.c (.p n o)) => match cl s n, tRow P t with
      | some (_, l), some false => match l[o]? with
        | some z => some (.c z, .no, .l n :: .b n :: opk x)
        | none => none
      | some (_, l), some true => match tS P t with
        | some k => if o + k ≤ l.length then some (.a ((l.drop o).take k), .no, .l n :: .b n :: opk x) else none
        | none => none
      | _, _ => none
    | _ => none
def eM_store (P : Program) (s : Sf) (m : Nat) (d : Option Tmp) (t : TypeId) (x : Operand) (y : Operand) : Option (V × Eff × List Key) := match d, opv s x, opv s y with
    | none, some (.c (.p n o)), some v => match bl s n, cvE s v, tS P t with
      | some b, some (vs, ks), some k => match storeB b o vs with
        | some b' => if k = vs.length ∧ vs ≠ [] then some (v, .chg n b', .l n :: .b n :: (ks ++ (opk x ++ opk y))) else none
        | none => none
      | _, _, _ => none
    | _, _, _ => none
def eM_build (P : Program) (s : Sf) (m : Nat) (d : Option Tmp) (t : TypeId) (ps : Array (Nat × Operand)) : Option (V × Eff × List Key) := match buildC P t, partsE s ps.toList with
    | some (zs, place), some (r, ks) => match fillC place (zs.map C.v) r with
      | some out => some (.a out, .no, ks)
      | none => none
    | _, _ => none
def eM_buildSlice (P : Program) (s : Sf) (m : Nat) (d : Option Tmp) (t : TypeId) (len : Nat) (ps : Array (Nat × Operand)) : Option (V × Eff × List Key) := match P.underlying t, partsE s ps.toList with
    | some (.slice el), some (r, ks) => match zeroC P el, tS P el with
      | some zs, some k => match fillC (fun i => some (i * k, k)) ((timesL zs len).map C.v) r with
        | some out => if zs.length = k ∧ k ≠ 0 ∧ len * k ≤ 16777216 then some (.c (.s m 0 len len), .new (.m true out), .l m :: ks) else none
        | none => none
      | _, _ => none
    | _, _ => none
def eM_makeSlice (P : Program) (s : Sf) (m : Nat) (d : Option Tmp) (t : TypeId) (x : Operand) (y : Operand) : Option (V × Eff × List Key) := match opv s x, opv s y, P.underlying t with
    | some (.c (.v (.int _ li))), some (.c (.v (.int _ ci))), some (.slice el) => match zeroC P el, tS P el, P.info? el with
      | some zs, some k, some i => if zs.length = k ∧ k ≠ 0 ∧ 0 ≤ li ∧ li ≤ ci ∧ ci ≤ 281474976710656 ∧ i.bytes * ci ≤ 281474976710656 then some (.c (.s m 0 li.toNat ci.toNat), .new (.w true (timesL zs ci.toNat)), .l m :: (opk x ++ opk y)) else none
      | _, _, _ => none
    | _, _, _ => none
def eM_convert (P : Program) (s : Sf) (m : Nat) (d : Option Tmp) (src : TypeId) (dst : TypeId) (x : Operand) : Option (V × Eff × List Key) := match evalP P s (.convert src dst x) with
    | some (v, ks) => some (v, .no, ks)
    | none => match opv s x, P.underlying src, P.underlying dst with
      | some (.c (.v (.slice none 0 _))), some (.slice el), some .string => match P.underlying el with
        | some (.int .u8) => some (.c (.v (.string ⟨#[]⟩)), .no, opk x)
        | _ => none
      | some (.c (.v (.string b))), some _, some (.slice el) => match P.underlying el with
        | some (.int .u8) => if b.data.toList.length ≤ 140737488355328 then some (.c (.g m 0 b.data.toList.length b.data.toList.length 1), .new (.w true (b.data.toList.map u8V)), .l m :: opk x) else none
        | _ => none
      | some (.c (.s n o len cap)), some (.slice _), some (.slice el) => match Nat.beq src dst, P.underlying el, bl s n with
        | true, some (.int .u8), some b => match b.cellsC with
          | some (true, _ :: _) => if 0 < len + cap then some (.c (.s n o len cap), .chg n b, .l n :: .b n :: opk x) else none
          | _ => none
        | _, _, _ => none
      | some v, some (.slice el), some .string => match P.underlying el, sl v with
        | some (.int .u8), some (n, o, len) => match cl s n with
          | some (_, l) => match bytesL ((l.drop o).take len) with
            | some bs => if o + len ≤ l.length then some (.c (.v (.string ⟨bs.toArray⟩)), .no, .l n :: .b n :: opk x) else none
            | none => none
          | none => none
        | _, _ => none
      | _, _, _ => none
def eM_call (P : Program) (s : Sf) (m : Nat) (d : Option Tmp) (b : Builtin) (xs : Array Operand) (ts : Array TypeId) : Option (V × Eff × List Key) := match b with
    | .append => eM_appendZ P s m xs ts
    | .copy => eM_copy P s m xs ts
    | b => match evalP P s (.call ⟨.builtin b, xs, ts⟩) with
      | some (v, ks) => some (v, .no, ks)
      | none => none
/-- What an operation yields, what becomes of blocks, what it reads; m is the next name. -/
def evalM (P : Program) (s : Sf) (m : Nat) (d : Option Tmp) : Op → Option (V × Eff × List Key)
  | .alloc t => eM_alloc P s m d t
  | .box _ x => eM_box P s m d x
  | .load t x => eM_load P s m d t x
  | .store t x y => eM_store P s m d t x y
  | .build t ps => eM_build P s m d t ps
  | .buildSlice t len ps => eM_buildSlice P s m d t len ps
  | .makeSlice t x y => eM_makeSlice P s m d t x y
  | .convert src dst x => eM_convert P s m d src dst x
  | .call ⟨.builtin b, xs, ts⟩ => eM_call P s m d b xs ts
  | op => match evalP P s op with
    | some (v, ks) => some (v, .no, ks)
    | none => none
end
end Go.Proofs.YtafhojmnbpegpaaGreat.EV
