/- States by names: code, results, what a function comes to. No program in sight. -/
import Derived.Test.YtbjogekhedglgaaEvB
import Derived.LoopNIn
import Derived.RangeFuncLeaves
namespace Go.Proofs.Ytbjogekhedglgaa.EV
open Go.RowKit

section
variable {c : Ctx} {F : Fence} {nn : Nat} {σ s : Sf} {e : Env} {a : Act} {w w' : World} {Q : Exit → Act → World → Prop}
/-! ### Code -/
theorem wpIn_scope {P : Program} {x : Code} (h : x.wpIn F nn P (Exit.noGoto Q) a w) : (Code.scope x).wpIn F nn P Q a w := by
  intro b k cs hro hb hr
  have s1 : ∀ {a w}, step P (lone (b.atR a (.code (.scope x) :: k)) cs w) = .next (lone (b.atR a (.code x :: .inScope x :: k)) cs w) := fun {a w} => step_lone_go (by simp [stepG, stepG.exec, Frame.atR])
  have s2 : ∀ {a w}, step P (lone (b.atR a (.inScope x :: k)) cs w) = .next (lone (b.atR a k) cs w) := fun {a w} => step_lone_go (by simp [stepG, stepG.exec, Frame.atR])
  have h0 : (lone (b.atR a (.code (.scope x) :: k)) cs w).fenced P F := fenced_calm hb hr rfl
  obtain ⟨e, a₁, w₁, hq, harr⟩ := h b (.inScope x :: k) cs hro hb hr
  cases e with
  | normal => exact ⟨.normal, a₁, w₁, hq, .head h0 s1 (StepsIn.trans harr (.one (fenced_calm hb hr rfl) s2))⟩
  | exit id =>
    have hx : exitTo id (.inScope x :: k) = exitTo id k := by simp [exitTo]
    exact ⟨.exit id, a₁, w₁, hq, fun k' hk => .head h0 s1 (harr.1 k' (by rw [hx]; exact hk)), fun hr' hk => let ⟨k₁, h1, h2⟩ := harr.2 hr' (by rw [hx]; exact hk); ⟨k₁, h1, .head h0 s1 h2⟩⟩
  | goto l => exact hq.elim
  | ret => exact ⟨_, a₁, w₁, hq, .of_steps (.one h0 s1) harr⟩
  | panic ch => exact ⟨_, a₁, w₁, hq, .of_steps (.one h0 s1) harr⟩
  | outgrown => exact ⟨_, a₁, w₁, hq, .of_steps (.one h0 s1) harr⟩
theorem CW_seq {x y : Code} (h : CW c F nn x (Exit.then (y.wpIn F nn c.P Q) Q) σ) : CW c F nn (.seq x y) Q σ := ⟨fun e a w hR => wpIn_seq (h.go e a w hR)⟩
theorem KW_then {y : Code} (h : CW c F nn y Q σ) : KW c (Exit.then (y.wpIn F nn c.P Q) Q .normal) σ := ⟨h.go⟩
theorem CW_skip (h : KW c (Q .normal) σ) : CW c F nn .skip Q σ := ⟨fun e a w hR => wpIn_skip (h.go e a w hR)⟩
theorem CW_label {l : Nat} (h : KW c (Q .normal) σ) : CW c F nn (.label l) Q σ := ⟨fun e a w hR => wpIn_label (h.go e a w hR)⟩
theorem CW_ret (h : KW c (Q .ret) σ) : CW c F nn .ret Q σ := ⟨fun e a w hR => wpIn_ret (h.go e a w hR)⟩
theorem CW_exit {k : Nat} (h : KW c (Q (.exit k)) σ) : CW c F nn (.exit k) Q σ := ⟨fun e a w hR => wpIn_exit (h.go e a w hR)⟩
theorem CW_block {k : Nat} {x : Code} (h : CW c F nn x (Exit.inBlock k Q) σ) : CW c F nn (.block k x) Q σ := ⟨fun e a w hR => wpIn_block (h.go e a w hR)⟩
theorem CW_scope {x : Code} (h : CW c F nn x (Exit.noGoto Q) σ) : CW c F nn (.scope x) Q σ := ⟨fun e a w hR => wpIn_scope (h.go e a w hR)⟩
theorem CW_yes {x : Operand} {p q : Code} (hx : opv σ x = some (.c (.v (.bool true)))) (h : CW c F nn p Q σ) : CW c F nn (.cond x p q) Q σ := ⟨fun e a w hR => wpIn_cond_true (Ok.plain (eval_opv hx hR)) (h.go e a w hR)⟩
theorem CW_no {x : Operand} {p q : Code} (hx : opv σ x = some (.c (.v (.bool false)))) (h : CW c F nn q Q σ) : CW c F nn (.cond x p q) Q σ := ⟨fun e a w hR => wpIn_cond_false (Ok.plain (eval_opv hx hR)) (h.go e a w hR)⟩
theorem CW_cond {x : Operand} {p q : Code} {b : Bool} (hx : opv σ x = some (.c (.v (.bool b)))) (h1 : b = true → CW c F nn p Q σ) (h2 : b = false → CW c F nn q Q σ) : CW c F nn (.cond x p q) Q σ := by
  cases b with
  | true => exact CW_yes hx (h1 rfl)
  | false => exact CW_no hx (h2 rfl)
theorem CW_rounds {x : Code} (m : Nat) (h : KW c (Code.roundsIn F nn c.P x Q m) σ) : CW c F nn (.loop x) Q σ := ⟨fun e a w hR => wpIn_loop_rounds m (h.go e a w hR)⟩
theorem KW_round {x : Code} {m : Nat} (h : CW c F nn x (Exit.then (Code.roundsIn F nn c.P x Q m) Q) σ) : KW c (Code.roundsIn F nn c.P x Q (m + 1)) σ := ⟨h.go⟩

/-! ### Results -/
/-- What an own block holds is lost. -/
theorem RealW.drop (h : RealW c s e w) {n : Nat} {b : B} (ha : s (.l n) = some (.l true)) (hb : s (.b n) = some (.b b)) (ho : b.own = true) (hr : e.rm n ≠ 0) (hw : ∀ k, k ≠ e.id n → w'.heap[k]? = w.heap[k]?) (hsz : w.heap.size ≤ w'.heap.size)
    (hos : w'.os = w.os) (htape : w'.tape = w.tape) (hout : w'.output = w.output) : RealW c (upd s [(.l n, .l false)]) e w' := by
  have hk := h.kill (n := n)
  have hown := h.own n b ha hb ho
  have hlv : ∀ k, upd s [(.l n, .l false)] (.l k) = some (.l true) → s (.l k) = some (.l true) ∧ n ≠ k := fun k hx => by
    rw [upd_cons, upd_nil] at hx
    split at hx
    · cases hx
    · rename_i hne; exact ⟨hx, by simpa using hne⟩
  have hbb : ∀ k, upd s [(.l n, .l false)] (.b k) = s (.b k) := fun k => by rw [upd_cons_ne _ _ _ (by simp), upd_nil]
  refine ⟨fun k b2 h1 h2 => ?_, hk.sep, hk.own, hk.cl, h.given, hos.trans h.os, htape.trans h.tape, hout.trans h.output, Nat.le_trans h.size hsz, fun k hkB ht => ?_⟩
  · obtain ⟨g1, g2⟩ := hlv k h1
    refine (hk.blk k b2 h1 h2).mono (fun m _ => ⟨id, .rfl⟩) .rfl (fun h0 => hw _ ?_)
    rw [hbb] at h2
    rcases h.sep n k b b2 ha hb g1 h2 g2 ho with h3 | h3 | h3
    · exact absurd h3 hr
    · exact absurd h3 h0
    · exact fun e => h3 e.symm
  · rw [hw k (fun e => by
      rcases hown with h1 | h1 | h1
      · exact hr h1
      · have : k < c.B := hkB
        omega
      · exact ht (e ▸ h1))]
    exact h.old k hkB ht
/-- One result. -/
def resC (P : Program) (s : Sf) : ResultVar → Option V
  | .tmp t => opv s (.tmp t)
  | .cell a t => match opv s (.tmp a) with
    | some (.c (.p n o)) => match s (.l n), s (.b n) with
      | some (.l true), some (.b b) => match b.cellsC with
        | some (_, l) => match tRow P t with
          | some false => match l[o]? with
            | some x => some (.c x)
            | none => none
          | some true => match tS P t with
            | some k => if o + k ≤ l.length then some (.a ((l.drop o).take k)) else none
            | none => none
          | none => none
        | none => none
      | _, _ => none
    | _ => none
def resL (P : Program) (s : Sf) : List ResultVar → Option (List V)
  | [] => some []
  | r :: rs => match resC P s r, resL P s rs with
    | some v, some vs => some (v :: vs)
    | _, _ => none
def partV : V → Option (C ⊕ List C)
  | .c x => some (.inl x)
  | .a l => some (.inr l)
  | .t _ => none
def partsV : List V → Option (List (C ⊕ List C))
  | [] => some []
  | v :: vs => match partV v, partsV vs with
    | some p, some ps => some (p :: ps)
    | _, _ => none
def tupC : List V → Option V
  | [v] => some v
  | vs => match partsV vs with
    | some ps => some (.t ps)
    | none => none
def resOne (tmps : Array Value) : ResultVar → Sem Value
  | .tmp t => pure (tmps.getD t undef)
  | .cell a t => do loadVar t (← asAddr (tmps.getD a undef))
theorem results_eq {fn : Func} {tmps : Array Value} : results fn tmps = (do let vs ← fn.results.mapM (resOne tmps); pure (if h : vs.size = 1 then vs[0] else .tuple vs)) := by
  unfold results
  congr 2
/-- The slots, without what is owed of deferred calls. -/
structure Slots (c : Ctx) (s : Sf) (e : Env) (tmps : Array Value) : Prop where
  tmp : ∀ i v, s (.t i) = some (.v v) → ∃ u, tmps[i]? = some u ∧ OkV s e v u
theorem resC_ok {r : ResultVar} {v : V} (h : resC c.P s r = some v) {tmps : Array Value} (hS : Slots c s e tmps) (hW : RealW c s e w) : ∃ u, (resOne tmps r).run c.P w = .ok u w ∧ OkV s e v u ∧ ∀ n ∈ v.names, s (.l n) ≠ none := by
  have slot : ∀ {i v}, opv s (.tmp i) = some v → OkV s e v (tmps.getD i undef) ∧ ∀ n ∈ v.names, s (.l n) ≠ none := fun {i v} hx => by
    refine ⟨?_, opv_names hx hW.cl⟩
    simp only [opv] at hx
    split at hx
    · rename_i u hu
      cases hx
      obtain ⟨u, h1, h2⟩ := hS.tmp i _ hu
      simpa [Array.getD_eq_getD_getElem?, h1] using h2
    · cases hx
  cases r with
  | tmp t => exact ⟨_, rfl, (slot h).1, (slot h).2⟩
  | cell a t =>
    simp only [resC] at h
    split at h
    · rename_i n o hx
      split at h
      · rename_i b ha hb
        split at h
        · rename_i own l hl
          have ex : tmps.getD a undef = .pointer (some ⟨e.id n, e.bs n + o, none⟩) := (slot hx).1 fun m hm => by
            simp only [C.names, List.mem_singleton] at hm; subst hm; exact ha
          have hM := hW.cells ha hb hl
          have hnm : ∀ x ∈ l, ∀ m ∈ x.names, s (.l m) ≠ none := fun x hx m hm => by
            refine hW.cl.1 (.b n) (.b b) hb m ?_
            show m ∈ b.names
            rw [← B.cellsC_names hl]
            exact List.mem_flatMap.2 ⟨x, hx, hm⟩
          cases hr : tRow c.P t with
          | none => rw [hr] at h; cases h
          | some row =>
            rw [hr] at h
            cases row with
            | false =>
              simp only at h
              split at h
              · rename_i x hx2
                cases h
                obtain ⟨u, h1, h2⟩ := hM.cell hx2
                refine ⟨u, ?_, h2.ok, fun m hm => hnm x (List.mem_of_getElem? hx2) m hm⟩
                simp only [resOne, ex, asAddr, Sem.run_bind, Sem.run_pure, Result.andThen_ok, loadVar, run_row hr]
                simp [run_load, h1]
              · cases h
            | true =>
              simp only at h
              split at h
              · rename_i k hk
                split at h
                · rename_i hle
                  cases h
                  obtain ⟨us, h1, h2, h3⟩ := hM.range o k hle
                  refine ⟨.agg us.toArray, ?_, ⟨us, rfl, h2⟩, fun m hm => ?_⟩
                  · have hl' : (loadCells ⟨e.id n, e.bs n + o, none⟩ us.length).run c.P w = .ok us.toArray w :=
                      run_loadCells_list (P := c.P) w ⟨e.id n, e.bs n + o, none⟩ us (fun j v hv => by rw [Addr.add_mid]; exact h3 j v hv)
                    simp only [resOne, ex, asAddr, Sem.run_bind, Sem.run_pure, Result.andThen_ok, loadVar, run_row hr, if_true, run_sz hk, ← h1, hl']
                  · simp only [V.names, List.mem_flatMap] at hm
                    obtain ⟨y, hy, hm⟩ := hm
                    exact hnm y (List.mem_of_mem_drop (List.mem_of_mem_take hy)) m hm
                · cases h
              · cases h
        · cases h
      · cases h
    · cases h
def OkVs (s : Sf) (e : Env) : List V → List Value → Prop
  | [], us => us = []
  | v :: vs, us => ∃ u r, us = u :: r ∧ OkV s e v u ∧ OkVs s e vs r
theorem resL_ok {tmps : Array Value} (hS : Slots c s e tmps) (hW : RealW c s e w) : ∀ {rs : List ResultVar} {vs : List V}, resL c.P s rs = some vs → ∃ us : List Value, (rs.mapM (m := Sem) (resOne tmps)).run c.P w = .ok us w ∧ OkVs s e vs us ∧ ∀ v ∈ vs, ∀ n ∈ v.names, s (.l n) ≠ none
  | [], vs, h => by simp only [resL, Option.some.injEq] at h; subst h; exact ⟨[], rfl, rfl, fun v hv => by cases hv⟩
  | r :: rs, vs, h => by
    simp only [resL] at h
    split at h
    · rename_i v vs' hv hvs
      cases h
      obtain ⟨u, h1, h2, h3⟩ := resC_ok hv hS hW
      obtain ⟨us, h4, h5, h6⟩ := resL_ok hS hW hvs
      refine ⟨u :: us, ?_, ⟨u, us, rfl, h2, h5⟩, fun y hy => ?_⟩
      · rw [List.mapM_cons]; simp only [Sem.run_bind, h1, Result.andThen_ok, h4, Sem.run_pure]
      · rcases List.mem_cons.1 hy with rfl | hy
        · exact h3
        · exact h6 y hy
    · cases h
theorem OkVs.length : ∀ {vs : List V} {us : List Value}, OkVs s e vs us → us.length = vs.length
  | [], _, h => by rw [h]; rfl
  | v :: vs, _, ⟨u, r, hu, _, h⟩ => by rw [hu]; simp [h.length]
theorem partsV_ok : ∀ {vs : List V} {ps : List (C ⊕ List C)} {us : List Value}, partsV vs = some ps → OkVs s e vs us → OkT s e ps us ∧ ∀ n ∈ ps.flatMap namesP, ∃ v ∈ vs, n ∈ v.names
  | [], ps, us, h, hv => by simp only [partsV, Option.some.injEq] at h; subst h; exact ⟨hv, fun n hn => by cases hn⟩
  | v :: vs, ps, us, h, ⟨u, r, hu, h1, h2⟩ => by
    simp only [partsV] at h
    split at h
    · rename_i p ps' hp hps
      cases h
      obtain ⟨h3, h4⟩ := partsV_ok hps h2
      refine ⟨⟨u, r, hu, ?_, h3⟩, fun n hn => ?_⟩
      · cases v with
        | c x => cases hp; exact h1
        | a l => cases hp; exact h1
        | t l => cases hp
      · rw [List.flatMap_cons] at hn
        rcases List.mem_append.1 hn with hn | hn
        · refine ⟨v, List.mem_cons_self, ?_⟩
          cases v with
          | c x => cases hp; exact hn
          | a l => cases hp; exact hn
          | t l => cases hp
        · obtain ⟨y, hy, hn⟩ := h4 n hn; exact ⟨y, List.mem_cons_of_mem _ hy, hn⟩
    · cases h
theorem results_ok {fn : Func} {tmps : Array Value} {vs : List V} {v : V} (hS : Slots c s e tmps) (hW : RealW c s e w) (hr : resL c.P s fn.results.toList = some vs) (hv : tupC vs = some v) :
    ∃ u, (results fn tmps).run c.P w = .ok u w ∧ OkV s e v u ∧ ∀ n ∈ v.names, s (.l n) ≠ none := by
  obtain ⟨us, h1, h2, h3⟩ := resL_ok hS hW hr
  have hm : (fn.results.mapM (m := Sem) (resOne tmps)).run c.P w = .ok us.toArray w := by
    rw [Array.mapM_eq_mapM_toList]
    rw [show (List.toArray <$> List.mapM (m := Sem) (resOne tmps) fn.results.toList : Sem (Array Value)) = (do let r ← List.mapM (m := Sem) (resOne tmps) fn.results.toList; pure r.toArray) from rfl]
    rw [Sem.run_bind, h1]; rfl
  have hlen := h2.length
  have hrun : (results fn tmps).run c.P w = .ok (if h : us.toArray.size = 1 then us.toArray[0] else .tuple us.toArray) w := by
    rw [results_eq, Sem.run_bind, hm]; rfl
  unfold tupC at hv
  split at hv
  · rename_i v0
    cases hv
    obtain ⟨u, r, rfl, h4, h5⟩ := h2
    have : r = [] := h5
    subst this
    exact ⟨u, by rw [hrun]; simp, h4, h3 v (by simp)⟩
  · rename_i hne
    split at hv
    · rename_i ps hps
      cases hv
      obtain ⟨h4, h5⟩ := partsV_ok hps h2
      have hs : us.toArray.size ≠ 1 := fun h => by
        simp only [List.size_toArray] at h
        have : vs.length = 1 := by omega
        match vs, this with
        | [v], _ => exact hne v rfl
      refine ⟨.tuple us.toArray, by rw [hrun, dif_neg hs], ⟨us, rfl, h4⟩, fun n hn => ?_⟩
      obtain ⟨y, hy, hn⟩ := h5 n hn
      exact h3 y hy n hn
    · cases hv

/-! ### A function -/
/-- What a call comes to: of these arguments, where h stands, whatever else there is. -/
def CT (P : Program) (f : FuncId) (args : List V) (h : Sf) (lo hi : Nat) (v : V) (h' : Sf) : Prop :=
  ∀ (c : Ctx) (e : Env) (w : World) (us : List Value), c.P = P → (∀ n, lo ≤ n → n < hi → ¬ c.gv n) → RealW c h e w → OkVs h e args us → (∀ v ∈ args, ∀ n ∈ v.names, h (.l n) ≠ none) →
    Calls P f us.toArray w fun en w' => ∃ u e', en = .returned u ∧ RealW c h' e' w' ∧ OkV h' e' v u ∧ ∀ n ∈ v.names, h' (.l n) ≠ none
/-- The heap part of a state. -/
def hp (s : Sf) : Sf
  | .t _ => none
  | q => s q
/-- The state in which a function begins. -/
def argS (args : List V) (h : Sf) : Sf
  | .t i => (args[i]?).map KV.v
  | q => h q
theorem OkVs.get : ∀ {vs : List V} {us : List Value} {i : Nat} {v : V}, OkVs s e vs us → vs[i]? = some v → ∃ u, us[i]? = some u ∧ OkV s e v u
  | [], _, _, _, _, hx => by simp at hx
  | y :: l, _, 0, x, ⟨u, r, hu, h1, _⟩, hx => by
    simp only [List.getElem?_cons_zero, Option.some.injEq] at hx
    subst hx; rw [hu]; exact ⟨u, rfl, h1⟩
  | y :: l, _, i + 1, x, ⟨u, r, hu, _, h2⟩, hx => by
    rw [hu]; simpa using h2.get (i := i) (by simpa using hx)
/-- The marks are taken, then the results. -/
def killM (s : Sf) : List Nat → Sf
  | [] => s
  | n :: l => killM (upd s [(.l n, .l false)]) l
theorem killM_b : ∀ (l : List Nat) (s : Sf) (n : Nat), killM s l (.b n) = s (.b n)
  | [], s, n => rfl
  | k :: l, s, n => by rw [killM, killM_b l, upd_cons_ne _ _ _ (by simp), upd_nil]
theorem killM_t : ∀ (l : List Nat) (s : Sf) (i : Nat), killM s l (.t i) = s (.t i)
  | [], s, n => rfl
  | k :: l, s, n => by rw [killM, killM_t l, upd_cons_ne _ _ _ (by simp), upd_nil]
theorem killM_l : ∀ (l : List Nat) (s : Sf) (n : Nat), killM s l (.l n) = if n ∈ l then some (.l false) else s (.l n)
  | [], s, n => by simp [killM]
  | k :: l, s, n => by
    rw [killM, killM_l l, upd_cons, upd_nil]
    by_cases h1 : n ∈ l
    · simp [h1]
    · by_cases h2 : k = n
      · simp [h2]
      · have h3 : ¬ n = k := fun e => h2 e.symm
        simp [h1, h2, h3]
theorem leaves_marks {P : Program} {fn : Func} {tmps : Array Value} {R : Ending → World → Prop} : ∀ (l : List Nat) (s : Sf) (w : World), c.P = P → RealW c s e w → l.Nodup → (∀ n ∈ l, s (.l n) = some (.l true) ∧ s (.b n) = some (.b .df)) →
    (∀ w', RealW c (killM s l) e w' → ∃ v, (results fn tmps).run P w' = .ok v w' ∧ R (.returned v) w') → LeavesInM Fence.wide nn P fn tmps R (l.map fun n => mark1 (e.id n)) .returning w
  | [], s, w, hP, hW, _, _, hK => hK w hW
  | n :: l, s, w, hP, hW, hnd, hm, hK => by
    obtain ⟨ha, hb⟩ := hm n List.mem_cons_self
    obtain ⟨hrm, hD⟩ := hW.blk n .df ha hb
    have hlt : e.id n < w.heap.size := (Array.getElem?_eq_some_iff.1 hD).1
    rw [List.nodup_cons] at hnd
    refine ⟨by simp, .inl ⟨e.id n, _, rfl, run_takeDeferred hD, ?_⟩⟩
    refine leaves_marks l (upd s [(.l n, .l false)]) _ hP (hW.drop ha hb rfl (by omega) (fun k hk => World.putObj_heap_other hk) (by simp [World.putObj]) rfl rfl rfl) hnd.2 (fun k hk => ?_) hK
    have hne : n ≠ k := fun h => hnd.1 (h ▸ hk)
    rw [upd_cons_ne _ _ _ (by simpa using hne), upd_nil, upd_cons_ne _ _ _ (by simp), upd_nil]
    exact hm k (List.mem_cons_of_mem _ hk)
/-- Where a body ends. -/
theorem KW_leave {P : Program} {fn : Func} {R : Ending → World → Prop} {vs : List V} {v : V} {x : Exit} (hx : x = .ret ∨ x = .normal) (hP : c.P = P) (hnd : c.fm.Nodup) (hr : resL P (killM σ c.fm) fn.results.toList = some vs) (hv : tupC vs = some v)
    (h : ∀ e u w, RealW c (killM σ c.fm) e w → OkV (killM σ c.fm) e v u → (∀ n ∈ v.names, killM σ c.fm (.l n) ≠ none) → R (.returned u) w) : KW c (bodyPostM Fence.wide nn P fn R x) σ := ⟨fun e a w hR => by
  have key : LeavesInM Fence.wide nn P fn a.tmps R a.defers .returning w := by
    rw [hR.defers]
    refine leaves_marks c.fm σ w hP hR.W hnd hR.fml fun w' hW => ?_
    subst hP
    have hS : Slots c (killM σ c.fm) e a.tmps := ⟨fun i v hx => by
      rw [killM_t] at hx
      obtain ⟨u, h1, h2⟩ := hR.tmp i v hx
      exact ⟨u, h1, h2.mono fun m hm => ⟨fun hl => by
        unfold live at *
        rw [killM_l] at hl
        split at hl
        · cases hl
        · exact hl, .rfl⟩⟩⟩
    obtain ⟨u, h1, h2, h3⟩ := results_ok hS hW hr hv
    exact ⟨u, h1, h e u w' hW h2 h3⟩
  rcases hx with rfl | rfl <;> exact key⟩
/-- A function's contract out of its body. -/
theorem CT.enter {P : Program} {f : FuncId} {fn : Func} {code : Code} {args : List V} {h h' : Sf} {lo hi : Nat} {v : V} (hf : P.funcs[f]? = some fn) (hb : fn.body = some code) (hle : args.length ≤ fn.ntmps)
    (hC : ∀ (c : Ctx) (R : Ending → World → Prop), c.P = P → (∀ n, lo ≤ n → n < hi → ¬ c.gv n) → c.N = fn.ntmps → c.fm = [] → (∀ e u w, RealW c h' e w → OkV h' e v u → (∀ n ∈ v.names, h' (.l n) ≠ none) → R (.returned u) w) → CW c Fence.wide 0 code (bodyPostM Fence.wide 0 P fn R) (argS args h)) :
    CT P f args h lo hi v h' := by
  intro c e w us hP hm hW hu hn
  refine (callsIn_wide (n := 0)).1 (callsIn_of_wp_marks hf hb trivial ?_)
  have hlen := hu.length
  have hC' := hC ⟨P, c.w0, c.tch, c.gv, c.ini, fn.ntmps, []⟩ (fun en w' => ∃ u e', en = .returned u ∧ RealW c h' e' w' ∧ OkV h' e' v u ∧ ∀ n ∈ v.names, h' (.l n) ≠ none) rfl hm rfl rfl
    (fun e' u w' hW' hu' hn' => ⟨u, e', rfl, ⟨hW'.blk, hW'.sep, hW'.own, hW'.cl, hW'.given, hW'.os, hW'.tape, hW'.output, hW'.size, hW'.old⟩, hu', hn'⟩)
  subst hP
  refine hC'.go e _ w ⟨?_, rfl, (fun n hn => by cases hn), (by simp; omega), fun i x hx => ?_⟩
  · have hW2 : RealW ⟨c.P, c.w0, c.tch, c.gv, c.ini, fn.ntmps, []⟩ h e w := ⟨hW.blk, hW.sep, hW.own, hW.cl, hW.given, hW.os, hW.tape, hW.output, hW.size, hW.old⟩
    refine hW2.slots (fun n => rfl) (fun n => rfl) ⟨fun q x hx n hn' => ?_, fun n hx => hW.cl.2 n hx⟩
    cases q with
    | t i =>
      simp only [argS, Option.map_eq_some_iff] at hx
      obtain ⟨y, hy, rfl⟩ := hx
      exact hn y (List.mem_of_getElem? hy) n hn'
    | b k => exact hW.cl.1 (.b k) x hx n hn'
    | l k => exact hW.cl.1 (.l k) x hx n hn'
  · simp only [argS, Option.map_eq_some_iff] at hx
    obtain ⟨y, hy, he⟩ := hx
    cases he
    obtain ⟨u, h1, h2⟩ := hu.get hy
    have hlt : i < us.length := (List.getElem?_eq_some_iff.1 h1).1
    refine ⟨u, ?_, OkV.mono (s := h) (s' := argS args h) (fun m _ => ⟨fun hl => hl, .rfl⟩) h2⟩
    rw [Array.getElem?_append_left (by simpa using hlt)]
    simpa using h1
end
end Go.Proofs.Ytbjogekhedglgaa.EV
