/- Walking over named blocks: rounds of loops over functions as contracts over few blocks; the loops. No program in sight. -/
import Derived.Test.YtbjogekhedglgaaEw4
namespace Go.Proofs.Ytbjogekhedglgaa.EW
set_option linter.unusedSimpArgs false
set_option linter.unusedVariables false
open Go.RowKit EV
open SX (Is)

/-- The loops over functions in a text: parameters, assignments, body. -/
def ranges : Code → List (Array Tmp × Code × Code)
  | .seq a b => ranges a ++ ranges b
  | .cond _ a b => ranges a ++ ranges b
  | .block _ a => ranges a
  | .loop a => ranges a
  | .scope a => ranges a
  | .rangeFunc _ ps a b => [(ps, a, b)]
  | _ => []
def rangeAt (fn : Func) (i : Nat) : Array Tmp × Code × Code := match fn.body with
  | some c => match (ranges c)[i]? with
    | some r => r
    | none => (#[], .skip, .skip)
  | none => (#[], .skip, .skip)
/-- The record of a loop, ready. -/
abbrev lpOf (fn : Func) (i : Nat) (ts : List (Nat × V)) (D : Nat) : LoopK := { st := .ready, pending := none, N := fn.ntmps, ts := ts, params := (rangeAt fn i).1, assign := (rangeAt fn i).2.1, body := (rangeAt fn i).2.2, D := D }
/-- What a round comes to: of these values handed over, where h stands (its loop is block 0). -/
def YT (P : Program) (vs : List V) (h : Sf) (lo hi : Nat) (pe : Option Code) (h' : Sf) : Prop :=
  ∀ (c : Ctx) (e : Env) (w : World) (us : List Value) (F : Fence) (nn : Nat) (r : LoopK) (fn : FuncId) (tm : Array Value), c.P = P → (∀ n, lo ≤ n → n < hi → ¬ c.gv n) → c.gv 0 → RealW c h e w → OkVs h e vs us → (∀ v ∈ vs, ∀ n ∈ v.names, h (.l n) ≠ none) →
    (∀ l, F.inRound l = Fence.wide.inRound l) → F.fn fn → h (.l 0) = some (.l true) → h (.b 0) = some (.b (.lp r)) → tm.size = r.N → (∀ i v, (i, v) ∈ r.ts → ∃ u, tm[i]? = some u ∧ OkV h e v u) →
    us.length = r.params.size ∧ r.st = .ready ∧ RoundIn F nn P (e.id 0) fn ((r.params.zip us.toArray).foldl (fun t (p, v) => t.setIfInBounds p v) tm) r.assign r.body w fun en w' => ∃ e', en = .returned (.bool pe.isNone) ∧ RealW c h' e' w'
section
variable {k hi m : Nat} {W0 Wc : Ws} {ns : List Nat} {c : Ctx} {F : Fence} {nn : Nat} {σ s : Sf} {e : Env} {a : Act} {w w' : World}
theorem LocalO.yieldAt (hF : WideLike F) (hFr : ∀ l, F.inRound l = Fence.wide.inRound l) {x : Operand} {xs : List Operand} {tys : Array TypeId} {args vs : List V} {ks : List Key} {d : Option Tmp} {rt : TypeId} {pos : String} {af : Array Edge} {g : Option (Nat × Bool)} {pe : Option Code} {l : Nat} {r : LoopK}
    (hyt : YT c.P args (upd emp W0) ns.length hi pe (upd (upd emp W0) Wc)) (hx : opv σ x = some (.c (.y l))) (hl0 : rn ns m 0 = l) (h0k : Nat.blt 0 ns.length = true) (hr : upd emp W0 (.b 0) = some (.b (.lp r))) (hv : Vals σ xs vs ks) (ha : Is (args.map (Vren (rn ns m))) vs) (hN : dOk c.N d = true)
    (hle : Nat.ble ns.length hi = true) (hw0 : w0Ok ns.length W0 = true) (hwc : wcOk ns.length hi Wc = true) (hnd : rnOk m ns = true) (hat : atW σ (rn ns m) W0) (hfr : freeB σ m (hi - ns.length) = true) (hgv : ∀ n, m ≤ n → n < m + (hi - ns.length) → ¬ c.gv n) (hal : argsLt ns.length args = true)
    (hfm : c.fm.all (fun n => !inL ns n) = true) :
    LocalO c F nn ⟨d, .call ⟨.value x, xs.toArray, tys⟩, rt, pos, af, g⟩ σ ⟨kr (opk x ++ (ks ++ (atK ns ++ freeK m (hi - ns.length)))), putW d (.c (.v (.bool pe.isNone))) ++ renW (rn ns m) Wc⟩ := by
  intro hcl Q s e a w K hag hR hK
  have hk : ∀ q ∈ opk x ++ (ks ++ (atK ns ++ freeK m (hi - ns.length))), s q = σ q := fun q hq => hag q (kr_iff.2 hq)
  have hA : AtOk c s ns.length hi m W0 Wc ns := ⟨rfl, Nat.le_of_ble_eq_true hle, hw0, hwc, hnd, atW_mono (fun x hx => hk _ (by simp [w0_keys (m := m) hw0 x hx])) hat, fun n h1 h2 => by
      obtain ⟨g1, g2⟩ := freeB_ok hfr n h1 h2
      rw [hk (.l n) (by simp [g2])]; exact g1, hgv, fun n hn hn' => by
      have := List.all_eq_true.1 hfm n hn
      simp [inL_iff.2 hn'] at this⟩
  obtain ⟨hW0, hargs, hback⟩ := Real.at hR hA
  have S := w0_spec hw0
  have h0 : 0 < ns.length := by simpa [Nat.blt_eq] using h0k
  obtain ⟨_, y0, hy0⟩ := S.l 0 h0
  have hsl : s (.l l) = some (.l true) := by have := atW_l hA.at_ hy0; rwa [hl0] at this
  have hsb : s (.b l) = some (.b (Bren (rn ns m) (.lp r))) := by
    obtain ⟨b, g1, g2, _⟩ := S.b 0 h0
    rw [hr] at g1; cases g1
    have := atW_b hA.at_ g2; rwa [hl0] at this
  have hx' : opv s x = some (.c (.y l)) := by rw [opv_agree fun q hq => hk q (by simp [hq])]; exact hx
  have ex : a.eval x = .func (.yield (e.id l)) #[] #[] := eval_opv hx' hR fun n hn => by
    simp only [C.names, List.mem_singleton] at hn; subst hn; exact hsl
  have hvs := Vals.evals hv (fun q hq => hk q (by simp [hq])) hR
  obtain ⟨k1, fn, tm, k2, k3, k4⟩ := hR.W.blk l _ hsl hsb
  have hin : OkVs (upd emp W0) (eAt e (rn ns m)) args (xs.map a.eval) := hargs args _ (fun v hv n hn => by
    have := List.all_eq_true.1 (List.all_eq_true.1 hal v hv) n hn
    simpa [Nat.blt_eq] using this) (by rw [ha.eq]; exact hvs)
  have hnm : ∀ v ∈ args, ∀ n ∈ v.names, upd emp W0 (.l n) ≠ none := fun v hv n hn => by
    have := List.all_eq_true.1 (List.all_eq_true.1 hal v hv) n hn
    rw [(S.l n (by simpa [Nat.blt_eq] using this)).1]; simp
  have htm : ∀ i v, (i, v) ∈ r.ts → ∃ u, tm[i]? = some u ∧ OkV (upd emp W0) (eAt e (rn ns m)) v u := fun i v hv => by
    obtain ⟨u, g1, g2⟩ := k4 i (Vren (rn ns m) v) (List.mem_map.2 ⟨(i, v), hv, rfl⟩)
    refine ⟨u, g1, ?_⟩
    have h1 := hargs [v] [u] (fun v' hv' n hn => by
      rw [List.mem_singleton] at hv'; subst hv'
      obtain ⟨b, q1, _, q2⟩ := S.b 0 h0
      rw [hr] at q1; cases q1
      exact q2 n (by show n ∈ r.D :: r.ts.flatMap fun x => x.2.names; exact List.mem_cons_of_mem _ (List.mem_flatMap.2 ⟨_, hv, hn⟩))) ⟨u, [], rfl, g2, rfl⟩
    obtain ⟨u', r', he, h2, _⟩ := h1
    cases he; exact h2
  obtain ⟨y1, y2, y3⟩ := hyt ⟨c.P, w, tch0 ns.length (upd emp W0) e (rn ns m), fun n => n < ns.length, eAt e (rn ns m), 0, []⟩ (eAt e (rn ns m)) w _ F (nn - 1) r fn tm rfl (fun n h1 h2 (h3 : n < ns.length) => absurd h3 (Nat.not_lt.2 h1)) h0 hW0 hin hnm hFr (hF.fn _) (S.l 0 h0).1 hr k3 htm
  have eid : (eAt e (rn ns m)).id 0 = e.id l := by show e.id (rn ns m 0) = _; rw [hl0]
  rw [eid] at y3
  have hrun := run_yield (P := c.P) (args := (xs.map a.eval).toArray) k2 (by simpa [Bren] using y1)
  refine ⟨fun f _ => hF.fn f, ?_⟩
  rw [Oper.semAt_eq _ _ _ (noDefer rfl)]
  simp only [execOp, resolve, ex, invoke, Deferred.ofValue, List.map_toArray, Sem.run_bind, Sem.run_pure, Result.andThen_ok]
  have earr : #[] ++ (List.map a.eval xs).toArray = (List.map a.eval xs).toArray := by simp
  rw [earr, hrun]
  refine ⟨fun h => absurd h (by rw [hF.depth]; simp), RoundIn.mono y3 ?_⟩
  rintro en w' ⟨e', rfl, hW'⟩
  obtain ⟨r1, _⟩ := hback e' w' hW'
  have h5 := r1.putW (dst := d) (v := .c (.v (.bool pe.isNone))) hN Ok.of (fun n hn => by cases hn)
  rw [← upd_append] at h5
  exact hK _ _ _ h5
end
/-! ### A round, walked -/
/-- Where the assignments end. -/
def beginK (P : Program) (l : Nat) (n : Nat) (body : Code) (R : Ending → World → Prop) (a₁ : Act) (w₁ : World) : Prop := ∃ w₂, (Instr.beginRound l).run P w₁ = .ok () w₂ ∧ body.wpIn (Fence.wide.inRound l) n P (roundPost P l R) a₁ w₂
def zipW : List Tmp → List V → Ws
  | p :: ps, v :: vs => (.t p, .v v) :: zipW ps vs
  | _, _ => []
def tsW (ts : List (Nat × V)) : Ws := ts.map fun x => (.t x.1, .v x.2)
def nodupN : List Nat → Bool
  | [] => true
  | n :: l => !inL l n && nodupN l
section
variable {s : Sf} {e : Env}
theorem fold_size : ∀ (ps : List Tmp) (us : List Value) (tm : Array Value), ((ps.zip us).foldl (fun t (p, v) => t.setIfInBounds p v) tm).size = tm.size
  | [], us, tm => rfl
  | p :: ps, [], tm => rfl
  | p :: ps, u :: us, tm => by rw [List.zip_cons_cons, List.foldl_cons, fold_size ps us]; simp
theorem fold_off : ∀ (ps : List Tmp) (us : List Value) (tm : Array Value) (i : Nat), i ∉ ps → ((ps.zip us).foldl (fun t (p, v) => t.setIfInBounds p v) tm)[i]? = tm[i]?
  | [], us, tm, i, _ => rfl
  | p :: ps, [], tm, i, _ => rfl
  | p :: ps, u :: us, tm, i, h => by
    rw [List.zip_cons_cons, List.foldl_cons, fold_off ps us _ i (fun h' => h (List.mem_cons_of_mem _ h')), Array.getElem?_setIfInBounds, if_neg (fun e => h (by simp [e]))]
theorem fold_on : ∀ {ps : List Tmp} {vs : List V} {us : List Value} {tm : Array Value}, OkVs s e vs us → nodupN ps = true → (∀ p ∈ ps, p < tm.size) → ∀ i y, lookW (zipW ps vs) (.t i) = some y → ∃ v u, y = .v v ∧ ((ps.zip us).foldl (fun t (p, v) => t.setIfInBounds p v) tm)[i]? = some u ∧ OkV s e v u ∧ v ∈ vs
  | [], vs, us, tm, hv, _, _, i, y, h => by simp [zipW, lookW] at h
  | p :: ps, [], us, tm, hv, _, _, i, y, h => by simp [zipW, lookW] at h
  | p :: ps, v :: vs, _, tm, ⟨u, r, rfl, h1, h2⟩, hd, hp, i, y, h => by
    simp only [nodupN, Bool.and_eq_true, Bool.not_eq_true'] at hd
    simp only [zipW, lookW] at h
    cases hk : Key.beq (.t p) (.t i) with
    | true =>
      rw [hk] at h; cases h
      have : p = i := by simpa [Key.beq] using hk
      subst this
      refine ⟨v, u, rfl, ?_, h1, List.mem_cons_self⟩
      rw [List.zip_cons_cons, List.foldl_cons, fold_off ps r _ p (fun h' => by rw [inL_iff.2 h'] at hd; exact absurd hd.1 (by simp)), Array.getElem?_setIfInBounds, if_pos rfl, if_pos (hp p List.mem_cons_self)]
    | false =>
      rw [hk] at h
      obtain ⟨v', u', q1, q2, q3, q4⟩ := fold_on h2 hd.2 (tm := tm.setIfInBounds p u) (fun q hq => by simpa using hp q (List.mem_cons_of_mem _ hq)) i y h
      exact ⟨v', u', q1, by rw [List.zip_cons_cons, List.foldl_cons]; exact q2, q3, List.mem_cons_of_mem _ q4⟩
theorem zipW_none : ∀ {ps : List Tmp} {vs : List V} {i : Nat}, ps.length = vs.length → lookW (zipW ps vs) (.t i) = none → i ∉ ps
  | [], vs, i, _, _ => by simp
  | p :: ps, [], i, hl, _ => by simp at hl
  | p :: ps, v :: vs, i, hl, h => by
    simp only [zipW, lookW] at h
    cases hk : Key.beq (.t p) (.t i) with
    | true => rw [hk] at h; cases h
    | false =>
      rw [hk] at h
      have := zipW_none (by simpa using hl) h
      have hne : ¬ p = i := fun e => by subst e; rw [Key.beq_refl] at hk; cases hk
      simp only [List.mem_cons, not_or]; exact ⟨fun e => hne e.symm, this⟩
theorem zipW_b : ∀ (ps : List Tmp) (vs : List V) (q : Key), (∀ i, q ≠ .t i) → lookW (zipW ps vs) q = none
  | [], vs, q, _ => by simp [zipW, lookW]
  | p :: ps, [], q, _ => by simp [zipW, lookW]
  | p :: ps, v :: vs, q, h => by
    simp only [zipW, lookW, Key.beq_ne (fun e => h p e.symm)]
    exact zipW_b ps vs q h
theorem tsW_look : ∀ {ts : List (Nat × V)} {q : Key} {y : KV}, lookW (tsW ts) q = some y → ∃ i v, q = .t i ∧ y = .v v ∧ (i, v) ∈ ts
  | [], q, y, h => by simp [tsW, lookW] at h
  | (j, v) :: ts, q, y, h => by
    simp only [tsW, List.map_cons, lookW] at h
    cases hk : Key.beq (.t j) q with
    | true => rw [hk] at h; cases h; exact ⟨j, v, ((Key.beq_iff _ _).1 hk).symm, rfl, List.mem_cons_self⟩
    | false =>
      rw [hk] at h
      obtain ⟨i, v', h1, h2, h3⟩ := tsW_look (ts := ts) h
      exact ⟨i, v', h1, h2, List.mem_cons_of_mem _ h3⟩
end
section
variable {k hi m : Nat} {W0 Wc : Ws} {ns : List Nat} {c : Ctx} {F : Fence} {nn : Nat} {σ s : Sf} {e : Env} {a : Act} {w w' : World} {sup : List Nat}
/-- A round's contract out of its walk. -/
theorem ytEnter {P : Program} {vs : List V} {ws : Ws} {h' : Sf} {r : LoopK} {pe : Option Code} (sup : List Nat) (hw0 : w0Ok k W0 = true) (hk : Nat.blt 0 k = true) (hh : NL hi h') (hle : Nat.ble k hi = true) (hr : upd emp W0 (.b 0) = some (.b (.lp r))) (hst : r.st = .ready) (hps : r.params.toList.length = vs.length) (hpN : r.params.toList.all (fun p => Nat.blt p r.N) = true) (hnd : nodupN r.params.toList = true)
    (hws : Is (zipW r.params.toList vs ++ tsW r.ts) ws)
    (hC : ∀ (w0 : World) (tch : Nat → Prop) (ini : Env) (nn : Nat) (R : Ending → World → Prop), (∀ e w, RealW ⟨P, w0, tch, GV k 1000000, ini, r.N, []⟩ h' e w → R (.returned (.bool pe.isNone)) w) →
      CX ⟨P, w0, tch, GV k 1000000, ini, r.N, []⟩ (Fence.wide.inRound (ini.id 0)) nn r.assign (Exit.then (beginK P (ini.id 0) nn r.body R) (fun _ _ _ => False)) (upd (upd emp W0) ws) sup) : YT P vs (upd emp W0) k hi pe h' := by
  obtain ⟨rfl⟩ := hws
  have S := w0_spec hw0
  intro c e w us F nn r' fn tm hP hm hg0 hW hu hn hFr hFn hl hb htmN htm
  rw [hr] at hb; cases hb
  have hlen := hu.length
  refine ⟨by rw [hlen, ← hps]; simp, hst, ?_⟩
  have h0 : 0 < k := by simpa [Nat.blt_eq] using hk
  have hW2 : RealW ⟨P, c.w0, c.tch, GV k 1000000, e, r.N, []⟩ (upd emp W0) e w := ⟨hW.blk, hW.sep, hW.own, hW.cl, fun _ _ => .rfl, hW.os, hW.tape, hW.output, hW.size, hW.old⟩
  have hfold : ((r.params.zip us.toArray).foldl (fun t (p, v) => t.setIfInBounds p v) tm) = ((r.params.toList.zip us).foldl (fun t (p, v) => t.setIfInBounds p v) tm) := by
    rw [← Array.foldl_toList, Array.toList_zip]
  have hpN' : ∀ p ∈ r.params.toList, p < tm.size := fun p hp => by
    rw [htmN]; simpa [Nat.blt_eq] using List.all_eq_true.1 hpN p hp
  have app : ∀ (a b : Ws) q, lookW (a ++ b) q = (lookW a q).or (lookW b q) := fun a b q => by
    induction a with
    | nil => rfl
    | cons x a ih =>
      obtain ⟨k0, x0⟩ := x
      simp only [List.cons_append, lookW]
      cases Key.beq k0 q with
      | true => rfl
      | false => simpa using ih
  have lbl : ∀ q, (∀ i, q ≠ .t i) → upd (upd emp W0) (zipW r.params.toList vs ++ tsW r.ts) q = upd emp W0 q := fun q hq => by
    have h1 := zipW_b r.params.toList vs q hq
    have h2 : lookW (tsW r.ts) q = none := by
      cases hl : lookW (tsW r.ts) q with
      | none => rfl
      | some y => obtain ⟨i, v, h3, _⟩ := tsW_look hl; exact absurd h3 (hq i)
    show (lookW (zipW r.params.toList vs ++ tsW r.ts) q).or (upd emp W0 q) = _
    rw [app, h1, h2]; rfl
  have hslot : ∀ i y, upd (upd emp W0) (zipW r.params.toList vs ++ tsW r.ts) (.t i) = some y → ∃ v u, y = .v v ∧ ((r.params.toList.zip us).foldl (fun t (p, v) => t.setIfInBounds p v) tm)[i]? = some u ∧ OkV (upd emp W0) e v u ∧ ∀ n ∈ v.names, upd emp W0 (.l n) ≠ none := fun i y hy => by
    have hy' : ((lookW (zipW r.params.toList vs) (.t i)).or (lookW (tsW r.ts) (.t i))).or (upd emp W0 (.t i)) = some y := by rw [← app]; exact hy
    cases hz : lookW (zipW r.params.toList vs) (.t i) with
    | some y' =>
      rw [hz] at hy'; cases hy'
      obtain ⟨v, u, q1, q2, q3, q4⟩ := fold_on hu hnd hpN' i y hz
      exact ⟨v, u, q1, q2, q3, hn v q4⟩
    | none =>
      rw [hz, Option.none_or] at hy'
      have hoff := zipW_none hps hz
      cases ht : lookW (tsW r.ts) (.t i) with
      | none => rw [ht, Option.none_or, S.t0] at hy'; cases hy'
      | some y' =>
        rw [ht] at hy'; cases hy'
        obtain ⟨j, v, q1, q2, q3⟩ := tsW_look ht
        cases q1
        obtain ⟨u, q4, q5⟩ := htm i v q3
        refine ⟨v, u, q2, by rw [fold_off _ _ _ _ hoff]; exact q4, q5, fun n hn' => hW.cl.1 (.b 0) _ hr n ?_⟩
        show n ∈ r.D :: r.ts.flatMap fun x => x.2.names
        exact List.mem_cons_of_mem _ (List.mem_flatMap.2 ⟨_, q3, hn'⟩)
  have hend : ∀ e' w', RealW ⟨P, c.w0, c.tch, GV k 1000000, e, r.N, []⟩ h' e' w' → ∃ e0, RealW c h' e0 w' := fun e' w' h => by
    let e0 : Env := ⟨fun n => if n < hi then e'.id n else e.id n, fun n => if n < hi then e'.bs n else e.bs n, fun n => if n < hi then e'.rm n else e.rm n⟩
    have lt : ∀ n, h' (.l n) ≠ none → n < hi := fun n hn => by
      rcases Nat.lt_or_ge n hi with h | h
      · exact h
      · exact absurd (hh.no n h) hn
    have sm : ∀ n, n < hi → e'.same e0 n := fun n hn => ⟨(if_pos hn).symm, (if_pos hn).symm, (if_pos hn).symm⟩
    have h1 : RealW ⟨c.P, c.w0, c.tch, fun n => c.gv n ∧ False, c.ini, c.N, c.fm⟩ h' e' w' := ⟨h.blk, h.sep, h.own, h.cl, fun _ hx => hx.2.elim, h.os, h.tape, h.output, h.size, h.old⟩
    have h2 := RealW.reenv h1 (e' := e0) (fun n hn => sm n (lt n hn)) (fun _ hx => hx.2.elim)
    refine ⟨e0, h2.blk, h2.sep, h2.own, h2.cl, fun n hn => ?_, h2.os, h2.tape, h2.output, h2.size, h2.old⟩
    rcases Nat.lt_or_ge n hi with h3 | h3
    · have h4 : n < k := by
        rcases Nat.lt_or_ge n k with h4 | h4
        · exact h4
        · exact absurd hn (hm n h4 h3)
      exact (sm n h3).symm.trans ((h.given n (.inl h4)).trans (hW.given n hn))
    · have h5 : e0.same e n := ⟨if_neg (by omega), if_neg (by omega), if_neg (by omega)⟩
      exact h5.trans (hW.given n hn)
  refine roundIn_of_wpIn hFn ?_
  rw [hFr, hfold]
  refine (hC c.w0 c.tch e nn (fun en w' => ∃ e', en = .returned (.bool pe.isNone) ∧ RealW c h' e' w') (fun e' w' h => by
    obtain ⟨e0, h0⟩ := hend e' w' h; exact ⟨e0, rfl, h0⟩)).go.go e _ w ⟨?_, rfl, (fun n hn => by cases hn), ?_, fun i v hx => ?_⟩
  · refine hW2.slots (fun n => lbl _ (by simp)) (fun n => lbl _ (by simp)) ⟨fun q x hx n hn' => ?_, fun n hx => ?_⟩
    · rw [lbl (.l n) (by simp)]
      cases q with
      | t i => obtain ⟨v, u, q1, _, _, q4⟩ := hslot i x hx; subst q1; exact q4 n hn'
      | b j => rw [lbl (.b j) (by simp)] at hx; exact hW.cl.1 (.b j) x hx n hn'
      | l j => rw [lbl (.l j) (by simp)] at hx; exact hW.cl.1 (.l j) x hx n hn'
    · rw [lbl (.l n) (by simp)]; rw [lbl (.b n) (by simp)] at hx; exact hW.cl.2 n hx
  · show ((r.params.toList.zip us).foldl (fun t (p, v) => t.setIfInBounds p v) tm).size = r.N
    rw [fold_size]; exact htmN
  · obtain ⟨v', u, q1, q2, q3, _⟩ := hslot i _ hx
    cases q1
    exact ⟨u, q2, OkV.mono (s := upd emp W0) (fun m _ => ⟨fun hl => by unfold live at *; rwa [lbl (.l m) (by simp)] at hl, .rfl⟩) q3⟩
/-- The body begins. -/
theorem eBegin {P : Program} {w0 : World} {tch : Nat → Prop} {ini : Env} {N n : Nat} {body : Code} {r1 : LoopK} {R : Ending → World → Prop} (hk : Nat.blt 0 k = true) (ha : σ (.l 0) = some (.l true)) (hb : σ (.b 0) = some (.b (.lp r1))) (hs : r1.st = .ready)
    (h : CX ⟨P, w0, tch, GV k 1000000, ini, N, []⟩ (Fence.wide.inRound (ini.id 0)) n body (roundPost P (ini.id 0) R) (upd σ [(.b 0, .b (.lp { r1 with st := .busy }))]) sup) :
    KX ⟨P, w0, tch, GV k 1000000, ini, N, []⟩ (Exit.then (beginK P (ini.id 0) n body R) (fun _ _ _ => False) .normal) σ sup := ⟨⟨fun e1 a1 w1 hR1 => by
  have h0 : 0 < k := by simpa [Nat.blt_eq] using hk
  have id1 : e1.id 0 = ini.id 0 := (hR1.W.given 0 (.inl h0)).id
  obtain ⟨rec, m1, m2, m3, m4⟩ := hR1.W.loopSet ha hb .busy r1.pending
  rw [id1] at m1 m4
  refine ⟨_, run_beginRound m1 (by rw [m2]; exact hs), ?_⟩
  have hrec : ({ rec with state := .busy } : Loop) = { rec with state := .busy, pending := r1.pending } := by rw [← m3]
  refine h.go.go e1 a1 _ ?_
  rw [hrec]
  exact hR1.withW m4 (fun i => by rw [upd_cons_ne _ _ _ (by simp), upd_nil]) (fun k hk => ⟨fun hv => by unfold live at *; rwa [upd_cons_ne _ _ _ (by simp), upd_nil] at hv, .rfl⟩) (fun n hn => by cases hn)⟩⟩
/-- A round ends. -/
theorem eRoundEnd {P : Program} {w0 : World} {tch : Nat → Prop} {ini : Env} {N : Nat} {r2 : LoopK} {R : Ending → World → Prop} {xt : Exit} {pe : Option Code} (l : List Nat) (hR : ∀ e w, RealW ⟨P, w0, tch, GV k 1000000, ini, N, []⟩ (upd (upd emp W0) Wc) e w → R (.returned (.bool pe.isNone)) w)
    (hk : Nat.blt 0 k = true) (hj : jumpOf xt = some pe) (ha : σ (.l 0) = some (.l true)) (hb : σ (.b 0) = some (.b (.lp r2)))
    (hat : atE (upd σ [(.b 0, .b (.lp { r2 with st := if pe.isNone then .ready else .done, pending := pe }))]) (rl k l) (endW W0 Wc)) (hl : rlOk k l = true) (hbl : Nat.ble (k + l.length) 1000000 = true) (hn : NL (k + l.length) (upd (upd emp W0) Wc)) (hcl : clB emp (endW W0 Wc) = true) :
    KX ⟨P, w0, tch, GV k 1000000, ini, N, []⟩ (roundPost P (ini.id 0) R xt) σ sup := ⟨⟨fun e2 a2 w2 hR2 => by
  have h0 : 0 < k := by simpa [Nat.blt_eq] using hk
  have id2 : e2.id 0 = ini.id 0 := (hR2.W.given 0 (.inl h0)).id
  obtain ⟨rec2, n1, n2, n3, n4⟩ := hR2.W.loopSet ha hb (if pe.isNone then .ready else .done) pe
  rw [id2] at n1 n4
  have hend := run_endRound (P := P) pe n1
  obtain ⟨r1, _⟩ := RealW.pull n4 hl hbl hn hat hcl
  have hfin := hR _ _ r1
  cases xt with
  | normal => cases hj; exact ⟨_, _, hend, hfin⟩
  | ret => cases hj; exact ⟨_, _, hend, hfin⟩
  | exit k => cases hj; exact ⟨_, _, hend, hfin⟩
  | goto t => cases hj
  | panic ch => cases hj
  | outgrown => cases hj⟩⟩
/-! ### A contract over few blocks, over many -/
theorem CT.frame {P : Program} {f : FuncId} {args : List V} {v : V} (hct : CT P f args (upd emp W0) ns.length hi v (upd (upd emp W0) Wc)) (ht : ∀ i, s (.t i) = none)
    (hle : Nat.ble ns.length hi = true) (hw0 : w0Ok ns.length W0 = true) (hwc : wcOk ns.length hi Wc = true) (hnd : rnOk m ns = true) (hat : atW s (rn ns m) W0) (hfr : freeB s m (hi - ns.length) = true) (hal : argsLt ns.length args = true) :
    CT P f (args.map (Vren (rn ns m))) s m (m + (hi - ns.length)) (Vren (rn ns m) v) (upd s (renW (rn ns m) Wc)) := by
  intro c e w us hP hm hW hu hn
  have S := w0_spec hw0
  have hR : Real ⟨c.P, c.w0, c.tch, c.gv, c.ini, 0, []⟩ s e { tmps := #[], defers := [] } w := ⟨⟨hW.blk, hW.sep, hW.own, hW.cl, hW.given, hW.os, hW.tape, hW.output, hW.size, hW.old⟩, rfl, (fun n hn => by cases hn), rfl, fun i v h => by rw [ht] at h; cases h⟩
  have hA : AtOk ⟨c.P, c.w0, c.tch, c.gv, c.ini, 0, []⟩ s ns.length hi m W0 Wc ns := ⟨rfl, Nat.le_of_ble_eq_true hle, hw0, hwc, hnd, hat, fun n h1 h2 => (freeB_ok hfr n h1 h2).1, hm, fun n hn => by cases hn⟩
  obtain ⟨hW0, hargs, hback⟩ := Real.at hR hA
  have hin := hargs args us (fun v hv n hn => by
    have := List.all_eq_true.1 (List.all_eq_true.1 hal v hv) n hn
    simpa [Nat.blt_eq] using this) hu
  have hnm : ∀ v ∈ args, ∀ n ∈ v.names, upd emp W0 (.l n) ≠ none := fun v hv n hn => by
    have := List.all_eq_true.1 (List.all_eq_true.1 hal v hv) n hn
    rw [(S.l n (by simpa [Nat.blt_eq] using this)).1]; simp
  refine (hct ⟨c.P, w, tch0 ns.length (upd emp W0) e (rn ns m), fun n => n < ns.length, eAt e (rn ns m), 0, []⟩ (eAt e (rn ns m)) w us hP (fun n h1 h2 h3 => absurd h3 (Nat.not_lt.2 h1)) hW0 hin hnm).mono ?_
  rintro en w' ⟨u, e', rfl, hW', hu', hun⟩
  obtain ⟨r1, r2⟩ := hback e' w' hW'
  obtain ⟨r3, r4⟩ := r2 v u hu' hun
  exact ⟨u, _, rfl, ⟨r1.W.blk, r1.W.sep, r1.W.own, r1.W.cl, r1.W.given, r1.W.os, r1.W.tape, r1.W.output, r1.W.size, r1.W.old⟩, r3, r4⟩
/-- A loop over a function. -/
theorem NL.mix {n0 : Nat} {h : Sf} (hh : NL n0 h) : NL n0 (EV.mix σ h) := ⟨fun n hn => hh.no n hn⟩
theorem eRange {Q : Exit → Act → World → Prop} {g : Operand} {ps : Array Tmp} {assign body : Code} {gf nD nL : Nat} {ca : List (Nat × Nat)} {args : List V} {v : V} {r' : LoopK} (ts : List (Nat × V)) (ns : List Nat) [hF : WideLike F] (he : ∀ args w, (callFunc gf args).run c.P w = .ok (.enter gf args) w)
    (hct : CT c.P gf args (upd emp W0) ns.length hi v (upd (upd emp W0) Wc))
    (hK : KX { c with fm := nD :: c.fm } (Q .normal) (EV.mix σ (upd (upd (EV.hp (upd (upd σ (wsNew nD .df)) (wsNew nL (.lp (loop0 c.N ts ps assign body nD))))) (renW (rn ns m) Wc)) [(.b nL, .b (.lp { r' with st := .exhausted }))])) sup)
    (hro : F.round = none := by rfl) (hg : opv σ g = some (.c (.f gf ca)) := by rfl) (hca : ca.all (fun q => lv σ q.1) = true := by rfl) (hts : autoParam (subW σ (tsW ts)) aSUBT._auto_1) (hD : autoParam (¬ c.gv nD) aGVN._auto_1) (hD0 : σ (.l nD) = none := by rfl) (hL : autoParam (¬ c.gv nL) aGVN._auto_1) (hL0 : σ (.l nL) = none := by rfl) (hne : Nat.beq nD nL = false := by rfl) (hDm : Nat.blt nD m = true := by rfl) (hLm : Nat.blt nL m = true := by rfl) (hNL : autoParam (NL m σ) aNLT._auto_1)
    (ha : Is (args.map (Vren (rn ns m))) (.c (.y nL) :: capV ca) := by (exact Is.mk rfl)) (hle : Nat.ble ns.length hi = true := by rfl) (hw0 : w0Ok ns.length W0 = true := by rfl) (hwc : wcOk ns.length hi Wc = true := by rfl) (hnd : rnOk m ns = true := by rfl) (hat : autoParam (atW (EV.hp (upd (upd σ (wsNew nD .df)) (wsNew nL (.lp (loop0 c.N ts ps assign body nD))))) (rn ns m) W0) aATW._auto_1) (hgv : autoParam (∀ n, m ≤ n → n < m + (hi - ns.length) → ¬ c.gv n) aGVR._auto_1) (hal : argsLt ns.length args = true := by rfl)
    (hlb : upd (EV.hp (upd (upd σ (wsNew nD .df)) (wsNew nL (.lp (loop0 c.N ts ps assign body nD))))) (renW (rn ns m) Wc) (.b nL) = some (.b (.lp r')) := by rfl) (hl : upd (EV.hp (upd (upd σ (wsNew nD .df)) (wsNew nL (.lp (loop0 c.N ts ps assign body nD))))) (renW (rn ns m) Wc) (.l nL) = some (.l true) := by rfl) (hst : r'.st = .ready := by rfl) (hp : r'.pending = none := by rfl)
    (hfm : autoParam (∀ n ∈ nD :: c.fm, upd (EV.hp (upd (upd σ (wsNew nD .df)) (wsNew nL (.lp (loop0 c.N ts ps assign body nD))))) (renW (rn ns m) Wc) (.l n) = some (.l true) ∧ upd (EV.hp (upd (upd σ (wsNew nD .df)) (wsNew nL (.lp (loop0 c.N ts ps assign body nD))))) (renW (rn ns m) Wc) (.b n) = some (.b .df) ∧ n ≠ nL) aFMR._auto_1) : CX c F nn (.rangeFunc g ps assign body) Q σ sup := by
  have hne' : nD ≠ nL := fun e => by subst e; simp at hne
  have hDm' : nD < m := by simpa [Nat.blt_eq] using hDm
  have hLm' : nL < m := by simpa [Nat.blt_eq] using hLm
  generalize hσ1 : upd (upd σ (wsNew nD .df)) (wsNew nL (.lp (loop0 c.N ts ps assign body nD))) = σ1 at *
  have hNL1 : NL m σ1 := ⟨fun n hn => by
    rw [← hσ1, wsNew_l, if_neg (by omega), wsNew_l, if_neg (by omega)]; exact hNL.no n hn⟩
  have free : ∀ j, freeB (EV.hp σ1) m j = true := fun j => by
    induction j with
    | zero => rfl
    | succ j ih => simp only [freeB, ih, Bool.and_true]; rw [show EV.hp σ1 (.l (m + j)) = none from hNL1.no (m + j) (by omega)]; rfl
  have hfr := CT.frame hct (s := EV.hp σ1) (fun i => rfl) hle hw0 hwc hnd hat (free _) hal
  rw [ha.eq] at hfr
  have hap := w0_spec hw0
  refine ⟨CW_rangeOuter (lo := m) (hi := m + (hi - ns.length)) (r' := r') (ts := ts) (nD := nD) (nL := nL) hF hro he hg (fun q hq => lv_eq (List.all_eq_true.1 hca q hq)) (fun i v hiv => ?_) hD hD0 hL hL0 hne' (by rw [hσ1]; exact hfr) ?_ hl hlb (by rw [hst]; simp) ?_⟩
  · have key : ∀ (l : List (Nat × V)), subW σ (tsW l) → (i, v) ∈ l → σ (.t i) = some (.v v) := fun l => by
      induction l with
      | nil => intro _ h; cases h
      | cons x l ih =>
        intro h hm
        rcases List.mem_cons.1 hm with rfl | hm
        · exact h.1
        · exact ih h.2 hm
    exact key ts hts hiv
  · rw [hσ1]
    have e1 : ∀ n, upd (upd (EV.hp σ1) (renW (rn ns m) Wc)) [(.b nL, .b (.lp { r' with st := .exhausted, pending := r'.pending }))] (.l n) = upd (EV.hp σ1) (renW (rn ns m) Wc) (.l n) := fun n => by rw [upd_cons_ne _ _ _ (by simp), upd_nil]
    refine ⟨hgv, fun n hn => hNL1.no n hn, fun n hn hx => ?_, fun n hn => ?_, fun n hn => ?_⟩
    · rw [e1] at hx
      simp only [upd] at hx
      cases hq : lookW (renW (rn ns m) Wc) (.l n) with
      | none => rw [hq, Option.none_or] at hx; exact hx
      | some y =>
        obtain ⟨⟨q0, x0⟩, hx1, he'⟩ := look_renW_img hq
        have := List.all_eq_true.1 hwc _ hx1
        cases q0 with
        | l i =>
          simp only [Kren, Key.l.injEq] at he'
          rcases Nat.lt_or_ge i ns.length with h | h
          · obtain ⟨_, z, hz⟩ := hap.l i h
            have := atW_l hat hz
            rw [he'] at this; exact this
          · rw [rn_ge h] at he'; omega
        | b i => simp [Kren] at he'
        | t i => simp [Kren] at he'
    · obtain ⟨h1, h2, h3⟩ := hfm n hn
      refine ⟨by rw [e1]; exact h1, ?_⟩
      rw [upd_cons_ne _ _ _ (by simpa using fun e => h3 e.symm), upd_nil]; exact h2
    · rw [e1]
      simp only [upd]
      cases lookW (renW (rn ns m) Wc) (.l n) with
      | some y => simp
      | none => rw [Option.none_or]; exact hn
  · rw [hp]
    have h9 := hK.go
    rw [hp] at h9
    exact h9
/-- A loop over a function that is left. -/
theorem eRangeB {jc : Code} {Q : Exit → Act → World → Prop} {g : Operand} {ps : Array Tmp} {assign body : Code} {gf nD nL : Nat} {ca : List (Nat × Nat)} {args : List V} {v : V} {r' : LoopK} (ts : List (Nat × V)) (ns : List Nat) [hF : WideLike F] (he : ∀ args w, (callFunc gf args).run c.P w = .ok (.enter gf args) w)
    (hct : CT c.P gf args (upd emp W0) ns.length hi v (upd (upd emp W0) Wc))
    (hK : CX { c with fm := nD :: c.fm } F nn jc Q (EV.mix σ (upd (upd (EV.hp (upd (upd σ (wsNew nD .df)) (wsNew nL (.lp (loop0 c.N ts ps assign body nD))))) (renW (rn ns m) Wc)) [(.b nL, .b (.lp { r' with st := .exhausted }))])) sup)
    (hro : F.round = none := by rfl) (hg : opv σ g = some (.c (.f gf ca)) := by rfl) (hca : ca.all (fun q => lv σ q.1) = true := by rfl) (hts : autoParam (subW σ (tsW ts)) aSUBT._auto_1) (hD : autoParam (¬ c.gv nD) aGVN._auto_1) (hD0 : σ (.l nD) = none := by rfl) (hL : autoParam (¬ c.gv nL) aGVN._auto_1) (hL0 : σ (.l nL) = none := by rfl) (hne : Nat.beq nD nL = false := by rfl) (hDm : Nat.blt nD m = true := by rfl) (hLm : Nat.blt nL m = true := by rfl) (hNL : autoParam (NL m σ) aNLT._auto_1)
    (ha : Is (args.map (Vren (rn ns m))) (.c (.y nL) :: capV ca) := by (exact Is.mk rfl)) (hle : Nat.ble ns.length hi = true := by rfl) (hw0 : w0Ok ns.length W0 = true := by rfl) (hwc : wcOk ns.length hi Wc = true := by rfl) (hnd : rnOk m ns = true := by rfl) (hat : autoParam (atW (EV.hp (upd (upd σ (wsNew nD .df)) (wsNew nL (.lp (loop0 c.N ts ps assign body nD))))) (rn ns m) W0) aATW._auto_1) (hgv : autoParam (∀ n, m ≤ n → n < m + (hi - ns.length) → ¬ c.gv n) aGVR._auto_1) (hal : argsLt ns.length args = true := by rfl)
    (hlb : upd (EV.hp (upd (upd σ (wsNew nD .df)) (wsNew nL (.lp (loop0 c.N ts ps assign body nD))))) (renW (rn ns m) Wc) (.b nL) = some (.b (.lp r')) := by rfl) (hl : upd (EV.hp (upd (upd σ (wsNew nD .df)) (wsNew nL (.lp (loop0 c.N ts ps assign body nD))))) (renW (rn ns m) Wc) (.l nL) = some (.l true) := by rfl) (hst : r'.st = .done := by rfl) (hp : r'.pending = some jc := by rfl)
    (hfm : autoParam (∀ n ∈ nD :: c.fm, upd (EV.hp (upd (upd σ (wsNew nD .df)) (wsNew nL (.lp (loop0 c.N ts ps assign body nD))))) (renW (rn ns m) Wc) (.l n) = some (.l true) ∧ upd (EV.hp (upd (upd σ (wsNew nD .df)) (wsNew nL (.lp (loop0 c.N ts ps assign body nD))))) (renW (rn ns m) Wc) (.b n) = some (.b .df) ∧ n ≠ nL) aFMR._auto_1) : CX c F nn (.rangeFunc g ps assign body) Q σ sup := by
  have hne' : nD ≠ nL := fun e => by subst e; simp at hne
  have hDm' : nD < m := by simpa [Nat.blt_eq] using hDm
  have hLm' : nL < m := by simpa [Nat.blt_eq] using hLm
  generalize hσ1 : upd (upd σ (wsNew nD .df)) (wsNew nL (.lp (loop0 c.N ts ps assign body nD))) = σ1 at *
  have hNL1 : NL m σ1 := ⟨fun n hn => by
    rw [← hσ1, wsNew_l, if_neg (by omega), wsNew_l, if_neg (by omega)]; exact hNL.no n hn⟩
  have free : ∀ j, freeB (EV.hp σ1) m j = true := fun j => by
    induction j with
    | zero => rfl
    | succ j ih => simp only [freeB, ih, Bool.and_true]; rw [show EV.hp σ1 (.l (m + j)) = none from hNL1.no (m + j) (by omega)]; rfl
  have hfr := CT.frame hct (s := EV.hp σ1) (fun i => rfl) hle hw0 hwc hnd hat (free _) hal
  rw [ha.eq] at hfr
  have hap := w0_spec hw0
  refine ⟨CW_rangeOuter (lo := m) (hi := m + (hi - ns.length)) (r' := r') (ts := ts) (nD := nD) (nL := nL) hF hro he hg (fun q hq => lv_eq (List.all_eq_true.1 hca q hq)) (fun i v hiv => ?_) hD hD0 hL hL0 hne' (by rw [hσ1]; exact hfr) ?_ hl hlb (by rw [hst]; simp) ?_⟩
  · have key : ∀ (l : List (Nat × V)), subW σ (tsW l) → (i, v) ∈ l → σ (.t i) = some (.v v) := fun l => by
      induction l with
      | nil => intro _ h; cases h
      | cons x l ih =>
        intro h hm
        rcases List.mem_cons.1 hm with rfl | hm
        · exact h.1
        · exact ih h.2 hm
    exact key ts hts hiv
  · rw [hσ1]
    have e1 : ∀ n, upd (upd (EV.hp σ1) (renW (rn ns m) Wc)) [(.b nL, .b (.lp { r' with st := .exhausted, pending := r'.pending }))] (.l n) = upd (EV.hp σ1) (renW (rn ns m) Wc) (.l n) := fun n => by rw [upd_cons_ne _ _ _ (by simp), upd_nil]
    refine ⟨hgv, fun n hn => hNL1.no n hn, fun n hn hx => ?_, fun n hn => ?_, fun n hn => ?_⟩
    · rw [e1] at hx
      simp only [upd] at hx
      cases hq : lookW (renW (rn ns m) Wc) (.l n) with
      | none => rw [hq, Option.none_or] at hx; exact hx
      | some y =>
        obtain ⟨⟨q0, x0⟩, hx1, he'⟩ := look_renW_img hq
        have := List.all_eq_true.1 hwc _ hx1
        cases q0 with
        | l i =>
          simp only [Kren, Key.l.injEq] at he'
          rcases Nat.lt_or_ge i ns.length with h | h
          · obtain ⟨_, z, hz⟩ := hap.l i h
            have := atW_l hat hz
            rw [he'] at this; exact this
          · rw [rn_ge h] at he'; omega
        | b i => simp [Kren] at he'
        | t i => simp [Kren] at he'
    · obtain ⟨h1, h2, h3⟩ := hfm n hn
      refine ⟨by rw [e1]; exact h1, ?_⟩
      rw [upd_cons_ne _ _ _ (by simpa using fun e => h3 e.symm), upd_nil]; exact h2
    · rw [e1]
      simp only [upd]
      cases lookW (renW (rn ns m) Wc) (.l n) with
      | some y => simp
      | none => rw [Option.none_or]; exact hn
  · rw [hp]
    have h9 := hK.go
    rw [hp] at h9
    exact h9
theorem isRange {Q : Exit → Act → World → Prop} {g : Operand} {ps : Array Tmp} {assign body : Code} (h : CX c F nn (.rangeFunc g ps assign body) Q σ sup) : CX c F nn (.rangeFunc g ps assign body) Q σ sup := h
class FRd (F : Fence) : Prop where
  r : ∀ l, F.inRound l = Fence.wide.inRound l
instance frd_wide : FRd Fence.wide := ⟨fun _ => rfl⟩
instance frd_round (l : Nat) : FRd (Fence.wide.inRound l) := ⟨fun _ => rfl⟩
/-- A call of the function that a loop hands over, by the round's contract. -/
theorem eYieldN {id : Nat} {ops : Array Oper} {draw : Bool} {Q : Exit → Act → World → Prop} {σ0 : Sf} {i : Nat} {rest : List Oper} {tr : List Tr} {d : Tmp} {ws : Ws} {x : Operand} {xs : List Operand} {tys : Array TypeId} {args vs : List V} {ks : List Key} {rt : TypeId} {pos : String} {af : Array Edge} {g : Option (Nat × Bool)} {gk : List Key} {pe : Option Code} {l : Nat} {r : LoopK} {b : Bool} (ns : List Nat) [hF : WideLike F]
    (hyt : YT c.P args (upd emp W0) ns.length hi pe (upd (upd emp W0) Wc))
    (hr' : RX c F nn id ops draw Q σ0 (i + 1) rest (upd σ ((.t d, .v (.c (.v (.bool b)))) :: ws)) (⟨orR gk (kr (opk x ++ (ks ++ (atK ns ++ freeK m (hi - ns.length))))), (.t d, .v (.c (.v (.bool b)))) :: ws⟩ :: tr) sup)
    (hFr : FRd F := by first | exact EW.frd_wide | exact EW.frd_round _) (hG : autoParam (GOk ops σ g gk) aGOK._auto_1) (hx : opv σ x = some (.c (.y l)) := by rfl) (hl0 : rn ns m 0 = l := by rfl) (h0k : Nat.blt 0 ns.length = true := by rfl) (hr : upd emp W0 (.b 0) = some (.b (.lp r)) := by rfl) (hv : autoParam (Vals σ xs vs ks) aVALS._auto_1) (ha : Is (args.map (Vren (rn ns m))) vs := by (exact Is.mk rfl)) (hN : dOk c.N (some d) = true := by rfl)
    (hle : Nat.ble ns.length hi = true := by rfl) (hw0 : w0Ok ns.length W0 = true := by rfl) (hwc : wcOk ns.length hi Wc = true := by rfl) (hnd : rnOk m ns = true := by rfl) (hat : autoParam (atW σ (rn ns m) W0) aATW._auto_1) (hfr : freeB σ m (hi - ns.length) = true := by rfl) (hgv : autoParam (∀ n, m ≤ n → n < m + (hi - ns.length) → ¬ c.gv n) aGVR._auto_1) (hal : argsLt ns.length args = true := by rfl)
    (hfm : c.fm.all (fun n => !inL ns n) = true := by rfl) (hb : Is pe.isNone b := by (exact Is.mk rfl)) (hws : autoParam (Is (renW (rn ns m) Wc) ws) aREN._auto_1) :
    RX c F nn id ops draw Q σ0 i (⟨some d, .call ⟨.value x, xs.toArray, tys⟩, rt, pos, af, g⟩ :: rest) σ tr (m :: sup) := by
  obtain ⟨rfl⟩ := hb; obtain ⟨rfl⟩ := hws
  exact RX_o (t := ⟨kr (opk x ++ (ks ++ (atK ns ++ freeK m (hi - ns.length)))), (.t d, .v (.c (.v (.bool pe.isNone)))) :: renW (rn ns m) Wc⟩) hr' hG (LocalO.yieldAt hF hFr.r hyt hx hl0 h0k hr hv ha hN hle hw0 hwc hnd hat hfr hgv hal hfm)
end
end Go.Proofs.Ytbjogekhedglgaa.EW
