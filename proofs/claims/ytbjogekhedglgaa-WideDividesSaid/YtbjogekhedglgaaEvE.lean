/- States by names: calls in the order of the text, rounds, ranges over functions. No program in sight. -/
import Derived.Test.YtbjogekhedglgaaEvD
namespace Go.Proofs.Ytbjogekhedglgaa.EV
open Go.RowKit

/-- A frame's slots beside blocks. -/
def mix (s h : Sf) : Sf
  | .t i => s (.t i)
  | q => h q
def assoc : List (Nat × V) → Nat → Option V
  | [], _ => none
  | (k, v) :: r, i => bif Nat.beq k i then some v else assoc r i
theorem assoc_mem : ∀ {l : List (Nat × V)} {i : Nat} {v : V}, assoc l i = some v → (i, v) ∈ l
  | (k, x) :: r, i, v, h => by
    simp only [assoc] at h
    cases hk : Nat.beq k i with
    | true => rw [hk] at h; simp only [cond_true, Option.some.injEq] at h; rw [← Nat.eq_of_beq_eq_true hk, h]; exact List.mem_cons_self
    | false => rw [hk] at h; exact List.mem_cons_of_mem _ (assoc_mem h)
/-- The state in which a round begins. -/
def roundS (ts : List (Nat × V)) (h : Sf) : Sf
  | .t i => (assoc ts i).map KV.v
  | q => h q
section
variable {c : Ctx} {F : Fence} {nn : Nat} {σ s : Sf} {e : Env} {a : Act} {w w' : World} {Q : Exit → Act → World → Prop}
/-- Back in a frame. -/
theorem Real.back (hR : Real c s e a w) {c' : Ctx} {lo hi : Nat} {h' : Sf} {e' : Env} (hP : c'.w0 = c.w0) (ht : c'.tch = c.tch) (hg : ∀ n, (n < lo ∨ hi ≤ n) → c'.gv n) (hi' : c'.ini = e) (hgv : ∀ n, lo ≤ n → n < hi → ¬ c.gv n) (hfr : ∀ n, lo ≤ n → s (.l n) = none)
    (hrev : ∀ n, n < lo → h' (.l n) = some (.l true) → s (.l n) = some (.l true)) (hfm : ∀ n ∈ c.fm, h' (.l n) = some (.l true) ∧ h' (.b n) = some (.b .df)) (hal : ∀ n, s (.l n) ≠ none → h' (.l n) ≠ none) (hW : RealW c' h' e' w') : Real c (mix s h') e' a w' := by
  have lt : ∀ n, s (.l n) ≠ none → n < lo := fun n hn => by
    rcases Nat.lt_or_ge n lo with h | h
    · exact h
    · exact absurd (hfr n h) hn
  have same : ∀ n, n < lo → e.same e' n := fun n hn => by have := hW.given n (hg n (.inl hn)); rw [hi'] at this; exact this.symm
  have hb : c'.B = c.B := by show c'.w0.heap.size = c.w0.heap.size; rw [hP]
  have hW1 : RealW c h' e' w' := ⟨hW.blk, hW.sep, fun n b h1 h2 h3 => by have := hW.own n b h1 h2 h3; rw [hb, ht] at this; exact this, hW.cl, fun n hn => by
    have h1 : n < lo ∨ hi ≤ n := by
      rcases Nat.lt_or_ge n lo with h | h
      · exact .inl h
      · rcases Nat.lt_or_ge n hi with h2 | h2
        · exact absurd hn (hgv n h h2)
        · exact .inr h2
    have h2 := hW.given n (hg n h1)
    rw [hi'] at h2
    exact h2.trans (hR.W.given n hn), hW.os.trans (by rw [hP]), hW.tape.trans (by rw [hP]), hW.output.trans (by rw [hP]), by rw [← hb]; exact hW.size, fun k hk hn => by
      have := hW.old k (by rw [hb]; exact hk) (by rw [ht]; exact hn)
      rw [hP] at this; exact this⟩
  have hcl : Cl (mix s h') := by
    refine ⟨fun q x hx n hn => ?_, fun n hn => hW.cl.2 n hn⟩
    cases q with
    | t i => exact hal n (hR.W.cl.1 (.t i) x hx n hn)
    | b k => exact hW.cl.1 (.b k) x hx n hn
    | l k => exact hW.cl.1 (.l k) x hx n hn
  refine ⟨hW1.slots (fun _ => rfl) (fun _ => rfl) hcl, ?_, hfm, hR.slots, fun i v hx => ?_⟩
  · rw [hR.defers]
    exact List.map_congr_left fun n hn => by rw [(same n (lt n (by rw [(hR.fml n hn).1]; simp))).id]
  · obtain ⟨u, h1, h2⟩ := hR.tmp i v hx
    exact ⟨u, h1, OkV.mono (s := s) (s' := mix s h') (fun m hm => by
      have hne := hR.W.cl.1 (.t i) _ hx m hm
      exact ⟨fun hl => hrev m (lt m hne) hl, same m (lt m hne)⟩) h2⟩
theorem Vals.ok {xs : List Operand} {vs : List V} {ks : List Key} (h : Vals σ xs vs ks) (hR : Real c σ e a w) : OkVs σ e vs (xs.map a.eval) ∧ ∀ v ∈ vs, ∀ n ∈ v.names, σ (.l n) ≠ none := by
  induction h with
  | nil => exact ⟨rfl, fun v hv => by cases hv⟩
  | @cons x v xs l ks hx h ih =>
    refine ⟨⟨_, _, rfl, eval_opv hx hR, ih.1⟩, fun y hy => ?_⟩
    rcases List.mem_cons.1 hy with rfl | hy
    · exact opv_names hx hR.W.cl
    · exact ih.2 y hy
theorem OkVs.mono {s' : Sf} {e' : Env} : ∀ {vs : List V} {us : List Value}, (∀ v ∈ vs, ∀ n ∈ v.names, Mo s e s' e' n) → OkVs s e vs us → OkVs s' e' vs us
  | [], _, _, h => h
  | v :: vs, _, hn, ⟨u, r, hu, h1, h2⟩ => ⟨u, r, hu, h1.mono (hn v List.mem_cons_self), h2.mono fun y hy => hn y (List.mem_cons_of_mem _ hy)⟩
theorem OkVs.append : ∀ {vs ws : List V} {us xs : List Value}, OkVs s e vs us → OkVs s e ws xs → OkVs s e (vs ++ ws) (us ++ xs)
  | [], _, _, _, h, k => by rw [show _ = [] from h]; exact k
  | v :: vs, ws, _, xs, ⟨u, r, hu, h1, h2⟩, k => by subst hu; exact ⟨u, r ++ xs, rfl, h1, h2.append k⟩
def capV (ca : List (Nat × Nat)) : List V := ca.map fun q => .c (.p q.1 q.2)
def capU (e : Env) (ca : List (Nat × Nat)) : List Value := ca.map fun q => Value.pointer (some ⟨e.id q.1, e.bs q.1 + q.2, none⟩)
theorem caps_ok : ∀ (ca : List (Nat × Nat)), OkVs s e (capV ca) (capU e ca)
  | [] => rfl
  | q :: ca => ⟨_, _, rfl, fun _ => rfl, caps_ok ca⟩
theorem capV_names {ca : List (Nat × Nat)} {v : V} (hv : v ∈ capV ca) {n : Nat} (hn : n ∈ v.names) : ∃ q ∈ ca, n = q.1 := by
  simp only [capV, List.mem_map] at hv
  obtain ⟨q, hq, rfl⟩ := hv
  exact ⟨q, hq, by simpa [V.names, C.names] using hn⟩
theorem eval_f {x : Operand} {g : FuncId} {ca : List (Nat × Nat)} (hx : opv σ x = some (.c (.f g ca))) (hca : ∀ q ∈ ca, σ (.l q.1) = some (.l true)) (hR : Real c σ e a w) : a.eval x = .func (.func g) #[] (capU e ca).toArray :=
  eval_opv hx hR fun n hn => by
    simp only [C.names, List.mem_map] at hn
    obtain ⟨q, hq, rfl⟩ := hn
    exact hca q hq
/-- What a call in the order of the text leaves in order. -/
structure BackOk (c : Ctx) (σ : Sf) (lo hi : Nat) (h' : Sf) : Prop where
  gv : ∀ n, lo ≤ n → n < hi → ¬ c.gv n
  fr : ∀ n, lo ≤ n → σ (.l n) = none
  rev : ∀ n, n < lo → h' (.l n) = some (.l true) → σ (.l n) = some (.l true)
  fm : ∀ n ∈ c.fm, h' (.l n) = some (.l true) ∧ h' (.b n) = some (.b .df)
  al : ∀ n, σ (.l n) ≠ none → h' (.l n) ≠ none
/-- The context of a callee. -/
def Ctx.sub (c : Ctx) (lo hi : Nat) (e : Env) (N : Nat) : Ctx := ⟨c.P, c.w0, c.tch, fun n => n < lo ∨ hi ≤ n, e, N, []⟩
theorem RealW.sub (h : RealW c s e w) (lo hi N : Nat) : RealW (c.sub lo hi e N) s e w := ⟨h.blk, h.sep, h.own, h.cl, fun _ _ => .rfl, h.os, h.tape, h.output, h.size, h.old⟩
theorem RealW.heap (h : RealW c s e w) : RealW c (hp s) e w :=
  h.slots (fun _ => rfl) (fun _ => rfl) ⟨fun q x hx n hn => by
    cases q with
    | t i => cases hx
    | b k => exact h.cl.1 (.b k) x hx n hn
    | l k => exact h.cl.1 (.l k) x hx n hn, fun n hn => h.cl.2 n hn⟩
/-- A call, in the order of the text. -/
theorem wpIn_callT (hF : WideLike F) (hR : Real c σ e a w) {f : FuncId} {ca : List (Nat × Nat)} {x : Operand} {xs : List Operand} {vs : List V} {ks : List Key} {tys : Array TypeId} {lo hi : Nat} {v : V} {h' : Sf} {d : Option Tmp} {rt : TypeId} {pos : String} {af : Array Edge} {g : Option (Nat × Bool)} {K : Act → World → Prop}
    (he : ∀ args w, (callFunc f args).run c.P w = .ok (.enter f args) w) (hx : opv σ x = some (.c (.f f ca))) (hca : ∀ q ∈ ca, σ (.l q.1) = some (.l true)) (hv : Vals σ xs vs ks) (hN : dOk c.N d = true)
    (hct : CT c.P f (vs ++ capV ca) (hp σ) lo hi v h') (hB : BackOk c σ lo hi h') (hK : KW c K (upd (mix σ h') (putW d v))) : (⟨d, .call ⟨.value x, xs.toArray, tys⟩, rt, pos, af, g⟩ : Oper).wpIn F nn c.P a w K Q := by
  have ex := eval_f hx hca hR
  obtain ⟨g1, g2⟩ := hv.ok hR
  refine ⟨fun f _ => hF.fn f, ?_⟩
  rw [Oper.semAt_eq _ _ _ (noDefer rfl)]
  simp only [execOp, resolve, ex, invoke, Deferred.ofValue, List.map_toArray, Sem.run_bind, Sem.run_pure, Result.andThen_ok]
  simp only [List.append_toArray, List.nil_append, he, Oper.uponIn]
  have hargs : OkVs (hp σ) e (vs ++ capV ca) (xs.map a.eval ++ capU e ca) := OkVs.append (OkVs.mono (s := σ) (s' := hp σ) (fun v _ n _ => ⟨fun h => h, .rfl⟩) g1) (caps_ok ca)
  have hnames : ∀ v ∈ vs ++ capV ca, ∀ n ∈ v.names, hp σ (.l n) ≠ none := fun v hv n hn => by
    rcases List.mem_append.1 hv with hv | hv
    · exact g2 v hv n hn
    · obtain ⟨q, hq, rfl⟩ := capV_names hv hn
      show σ (.l q.1) ≠ none
      rw [hca q hq]; simp
  refine ⟨fun h => absurd h (by rw [hF.depth]; simp), hF.calls ((hct (c.sub lo hi e 0) e w _ rfl (fun n h1 h2 h3 => by (have : n < lo ∨ hi ≤ n := h3; omega)) (hR.W.heap.sub lo hi 0) hargs hnames).mono ?_)⟩
  rintro en w' ⟨u, e', rfl, hW', hu, hun⟩
  have hb := hR.back (c' := c.sub lo hi e 0) rfl rfl (fun n hn => hn) rfl hB.gv hB.fr hB.rev hB.fm hB.al hW'
  exact hK.go e' _ _ (hb.putW hN (OkV.mono (s := h') (s' := mix σ h') (fun m _ => ⟨fun h => h, .rfl⟩) hu) hun)

/-! ### The order of the text -/
structure TW (c : Ctx) (F : Fence) (nn : Nat) (ops : Array Oper) (Q : Exit → Act → World → Prop) (i : Nat) (σ : Sf) : Prop where
  go : ∀ e a w, Real c σ e a w → wpOpsIn F nn c.P ops Q (List.range' i (ops.size - i)) a w
theorem CW_text {id : Nat} {ops : Array Oper} (h : TW c F nn ops Q 0 σ) : CW c F nn (.region id ops false) Q σ := ⟨fun e a w hR => by
  refine wpIn_region ?_
  have := h.go e a w hR
  rw [List.range_eq_range']; exact this⟩
theorem TW_end {ops : Array Oper} {i : Nat} (hi : ops.size ≤ i) (h : KW c (Q .normal) σ) : TW c F nn ops Q i σ := ⟨fun e a w hR => by
  rw [show ops.size - i = 0 by omega]; exact h.go e a w hR⟩
theorem TW_step {ops : Array Oper} {i : Nat} {t : Tr} (hi : i < ops.size) (hL : LocalI c F nn ops i σ t) (h : TW c F nn ops Q (i + 1) (upd σ t.ws)) : TW c F nn ops Q i σ := ⟨fun e a w hR => by
  rw [show ops.size - i = ops.size - (i + 1) + 1 by omega, List.range'_succ, wpOpsIn_cons]
  exact hL hR.W.cl Q σ e a w _ (fun _ _ => rfl) hR fun e' a' w' hR' => h.go e' a' w' hR'⟩
theorem TW_cps {ops : Array Oper} {i : Nat} {o : Oper} (ho : ops[i]? = some o) (hw : ∀ e a w, Real c σ e a w → Region.wanted o (yielded ops a.tmps) = true) (h : ∀ e a w, Real c σ e a w → o.wpIn F nn c.P a w (wpOpsIn F nn c.P ops Q (List.range' (i + 1) (ops.size - (i + 1)))) Q) : TW c F nn ops Q i σ := ⟨fun e a w hR => by
  have hi : i < ops.size := (Array.getElem?_eq_some_iff.1 ho).1
  rw [show ops.size - i = ops.size - (i + 1) + 1 by omega, List.range'_succ, wpOpsIn_cons]
  unfold wpOpIn
  simp only [ho, hw e a w hR, if_true]
  exact h e a w hR⟩
theorem TW.kw {ops : Array Oper} {i : Nat} (h : TW c F nn ops Q i σ) : KW c (wpOpsIn F nn c.P ops Q (List.range' i (ops.size - i))) σ := ⟨h.go⟩
theorem wanted_ok {ops : Array Oper} {o : Oper} {ks : List Key} (hg : GOk ops σ o.guard ks) (hR : Real c σ e a w) : Region.wanted o (yielded ops a.tmps) = true := by
  unfold Region.wanted
  generalize o.guard = g at hg
  cases hg with
  | none => rfl
  | some hd hv hb =>
    subst hb
    simp only [yielded_of hd hv hR]
    simp
end
end Go.Proofs.Ytbjogekhedglgaa.EV
