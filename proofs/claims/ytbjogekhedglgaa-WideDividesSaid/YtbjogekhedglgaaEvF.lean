/- States by names: rounds, ranges over functions. No program in sight. -/
import Derived.Test.YtbjogekhedglgaaEvE
import Derived.RangeFuncRecord
import Derived.RangeFuncNested
namespace Go.Proofs.Ytbjogekhedglgaa.EV
open Go.RowKit

section
variable {c : Ctx} {F : Fence} {nn : Nat} {σ s : Sf} {e : Env} {a : Act} {w w' : World} {Q : Exit → Act → World → Prop}
/-- A loop's record is set anew. -/
theorem RealW.loopSet (h : RealW c s e w) {l : Nat} {r : LoopK} (ha : s (.l l) = some (.l true)) (hb : s (.b l) = some (.b (.lp r))) (st : LoopState) (pe : Option Code) :
    ∃ rec : Loop, w.heap[e.id l]? = some (.loop rec) ∧ rec.state = r.st ∧ rec.pending = r.pending ∧ RealW c (upd s [(.b l, .b (.lp { r with st := st, pending := pe }))]) e (w.putObj (e.id l) (.loop { rec with state := st, pending := pe })) := by
  obtain ⟨h1, fn, tm, h2, h3, h4⟩ := h.blk l (.lp r) ha hb
  have hlt : e.id l < w.heap.size := (Array.getElem?_eq_some_iff.1 h2).1
  refine ⟨_, h2, rfl, rfl, h.chg ha hb rfl (by omega) (fun k hk => World.putObj_heap_other hk) (by simp [World.putObj]) rfl rfl rfl ?_ (fun k hk => h.cl.1 (.b l) _ hb k hk)⟩
  have hl : ∀ k, upd s [(.b l, .b (.lp { r with st := st, pending := pe }))] (.l k) = s (.l k) := fun k => by rw [upd_cons_ne _ _ _ (by simp), upd_nil]
  refine ⟨h1, fn, tm, World.putObj_heap_same hlt, h3, fun i v hv => ?_⟩
  obtain ⟨u, h5, h6⟩ := h4 i v hv
  exact ⟨u, h5, h6.mono fun m _ => ⟨fun hx => by unfold live at *; rw [← hl]; exact hx, .rfl⟩⟩
/-- Which jump a way out leaves, and what the function that tells is told. -/
def jumpOf : Exit → Option (Option Code)
  | .normal => some none
  | .ret => some (some .ret)
  | .exit k => some (some (.exit k))
  | _ => none
/-- A call of the function that a loop hands over: one round. -/
theorem wpIn_yield (hF : WideLike F) (hFr : ∀ l, F.inRound l = Fence.wide.inRound l) (hR : Real c σ e a w) {l : Nat} {r r1 r2 : LoopK} {x : Operand} {xs : List Operand} {vs : List V} {ks : List Key} {tys : Array TypeId} {lo hi : Nat} {σ1 σ2 : Sf} {ts : List (Nat × V)} {xt : Exit} {pe : Option Code} {d : Option Tmp} {rt : TypeId} {pos : String} {af : Array Edge} {g : Option (Nat × Bool)} {K : Act → World → Prop}
    (hx : opv σ x = some (.c (.y l))) (ha : σ (.l l) = some (.l true)) (hb : σ (.b l) = some (.b (.lp r))) (hst : r.st = .ready) (hv : Vals σ xs vs ks) (hN : dOk c.N d = true) (hlo : l < lo) (hfr : ∀ n, lo ≤ n → σ (.l n) = none)
    (hts : ∀ (us : List Value) (tm : Array Value), OkVs (hp σ) e vs us → tm.size = r.N → (∀ i v, (i, v) ∈ r.ts → ∃ u, tm[i]? = some u ∧ OkV (hp σ) e v u) →
      ((r.params.zip us.toArray).foldl (fun t (p, v) => t.setIfInBounds p v) tm).size = r.N ∧ ∀ i v, assoc ts i = some v → (∃ u, ((r.params.zip us.toArray).foldl (fun t (p, v) => t.setIfInBounds p v) tm)[i]? = some u ∧ OkV (hp σ) e v u) ∧ ∀ n ∈ v.names, σ (.l n) ≠ none)
    (hps : r.params.size = vs.length)
    (hA : ∀ (c' : Ctx) (Q' : Exit → Act → World → Prop), c'.P = c.P → (∀ n, lo ≤ n → n < hi → ¬ c'.gv n) → c'.gv l → c'.N = r.N → c'.fm = [] → KW c' (Q' .normal) σ1 → CW c' (Fence.wide.inRound (c'.ini.id l)) (nn - 1) r.assign Q' (roundS ts (hp σ)))
    (h1a : σ1 (.l l) = some (.l true)) (h1b : σ1 (.b l) = some (.b (.lp r1))) (h1s : r1.st = .ready)
    (hB : ∀ (c' : Ctx) (Q' : Exit → Act → World → Prop), c'.P = c.P → (∀ n, lo ≤ n → n < hi → ¬ c'.gv n) → c'.gv l → c'.N = r.N → c'.fm = [] → KW c' (Q' xt) σ2 → CW c' (Fence.wide.inRound (c'.ini.id l)) (nn - 1) r.body Q' (upd σ1 [(.b l, .b (.lp { r1 with st := .busy, pending := r1.pending }))]))
    (h2a : σ2 (.l l) = some (.l true)) (h2b : σ2 (.b l) = some (.b (.lp r2))) (hj : jumpOf xt = some pe)
    (hBk : BackOk c σ lo hi (upd (hp σ2) [(.b l, .b (.lp { r2 with st := if pe.isNone then .ready else .done, pending := pe }))]))
    (hK : KW c K (upd (mix σ (upd (hp σ2) [(.b l, .b (.lp { r2 with st := if pe.isNone then .ready else .done, pending := pe }))])) (putW d (.c (.v (.bool pe.isNone)))))) :
    (⟨d, .call ⟨.value x, xs.toArray, tys⟩, rt, pos, af, g⟩ : Oper).wpIn F nn c.P a w K Q := by
  have ex : a.eval x = .func (.yield (e.id l)) #[] #[] := eval_opv hx hR fun n hn => by
    simp only [C.names, List.mem_singleton] at hn; subst hn; exact ha
  obtain ⟨g1, g2⟩ := hv.ok hR
  obtain ⟨k1, fn, tm, k2, k3, k4⟩ := hR.W.blk l (.lp r) ha hb
  have hlen : (xs.map a.eval).length = vs.length := g1.length
  have g1' : OkVs (hp σ) e vs (xs.map a.eval) := OkVs.mono (s := σ) (s' := hp σ) (fun v _ n _ => ⟨fun h => h, .rfl⟩) g1
  have k4' : ∀ i v, (i, v) ∈ r.ts → ∃ u, tm[i]? = some u ∧ OkV (hp σ) e v u := fun i v hv => by
    obtain ⟨u, h1, h2⟩ := k4 i v hv
    exact ⟨u, h1, OkV.mono (s := σ) (s' := hp σ) (fun m _ => ⟨fun h => h, .rfl⟩) h2⟩
  obtain ⟨t1, t2⟩ := hts _ tm g1' k3 k4'
  have hrun := run_yield (P := c.P) (args := (xs.map a.eval).toArray) k2 (by simp [hlen]; exact hps.symm)
  refine ⟨fun f _ => hF.fn f, ?_⟩
  rw [Oper.semAt_eq _ _ _ (noDefer rfl)]
  simp only [execOp, resolve, ex, invoke, Deferred.ofValue, List.map_toArray, Sem.run_bind, Sem.run_pure, Result.andThen_ok]
  have earr : #[] ++ (List.map a.eval xs).toArray = (List.map a.eval xs).toArray := by simp
  rw [earr, hrun]
  refine ⟨fun h => absurd h (by rw [hF.depth]; simp), roundIn_of_wpIn (hF.fn _) ?_⟩
  -- the round's frame
  let c' : Ctx := c.sub lo hi e r.N
  have hgl : c'.gv l := .inl hlo
  have hgn : ∀ n, lo ≤ n → n < hi → ¬ c'.gv n := fun n h1 h2 h3 => by (have : n < lo ∨ hi ≤ n := h3; omega)
  have hW0 : RealW c' (hp σ) e w := hR.W.heap.sub lo hi r.N
  have hR0 : Real c' (roundS ts (hp σ)) e { tmps := (r.params.zip (List.map a.eval xs).toArray).foldl (fun t (p, v) => t.setIfInBounds p v) tm, defers := [] } w := by
    refine ⟨hW0.slots (fun _ => rfl) (fun _ => rfl) ⟨fun q y hy n hn => ?_, fun n hn => hR.W.cl.2 n hn⟩, rfl, (fun n hn => by cases hn), t1, fun i v hi' => ?_⟩
    · cases q with
      | t i =>
        simp only [roundS, Option.map_eq_some_iff] at hy
        obtain ⟨v, hv', rfl⟩ := hy
        exact (t2 i v hv').2 n hn
      | b k => exact hR.W.cl.1 (.b k) y hy n hn
      | l k => exact hR.W.cl.1 (.l k) y hy n hn
    · simp only [roundS, Option.map_eq_some_iff] at hi'
      obtain ⟨v', hv', he⟩ := hi'
      cases he
      obtain ⟨u, h1, h2⟩ := (t2 i v hv').1
      exact ⟨u, h1, OkV.mono (s := hp σ) (s' := roundS ts (hp σ)) (fun m _ => ⟨fun h => h, .rfl⟩) h2⟩
  have hAw := (hA c' (Exit.then (fun a₁ w₁ => ∃ w₂, (Instr.beginRound (e.id l)).run c.P w₁ = .ok () w₂ ∧ r.body.wpIn (Fence.wide.inRound (e.id l)) (nn - 1) c.P (roundPost c.P (e.id l) (fun
      | .returned v, w'' => K (a.put d v) w''
      | .panicked chain, w'' => Q (.panic chain) a w''
      | .outgrown, _ => LetsOut Q)) a₁ w₂) (fun _ _ _ => False)) rfl hgn hgl rfl rfl ?_).go e _ w hR0
  · rw [hFr]; exact hAw
  refine ⟨fun e1 a1 w1 hR1 => ?_⟩
  have id1 : e1.id l = e.id l := (hR1.W.given l hgl).id
  obtain ⟨rec, m1, m2, m3, m4⟩ := hR1.W.loopSet h1a h1b .busy r1.pending
  rw [id1] at m1 m4
  refine ⟨_, run_beginRound m1 (by rw [m2]; exact h1s), ?_⟩
  have hrec : ({ rec with state := .busy } : Loop) = { rec with state := .busy, pending := r1.pending } := by rw [← m3]
  have hR1' : Real c' (upd σ1 [(.b l, .b (.lp { r1 with st := .busy, pending := r1.pending }))]) e1 a1 (w1.putObj (e.id l) (.loop { rec with state := .busy })) := by
    rw [hrec]
    exact hR1.withW m4 (fun i => by rw [upd_cons_ne _ _ _ (by simp), upd_nil]) (fun k hk => ⟨fun hv => by unfold live at *; rwa [upd_cons_ne _ _ _ (by simp), upd_nil] at hv, .rfl⟩) (fun n hn => by cases hn)
  refine (hB c' (roundPost c.P (e.id l) (fun
      | .returned v, w'' => K (a.put d v) w''
      | .panicked chain, w'' => Q (.panic chain) a w''
      | .outgrown, _ => LetsOut Q)) rfl hgn hgl rfl rfl ⟨fun e2 a2 w2 hR2 => ?_⟩).go e1 a1 _ hR1'
  have id2 : e2.id l = e.id l := (hR2.W.given l hgl).id
  obtain ⟨rec2, n1, n2, n3, n4⟩ := hR2.W.heap.loopSet (l := l) (r := r2) h2a h2b (if pe.isNone then .ready else .done) pe
  rw [id2] at n1 n4
  have hb2 := hR.back (c' := c') (lo := lo) (hi := hi) rfl rfl (fun n hn => hn) rfl hBk.gv hBk.fr hBk.rev hBk.fm hBk.al n4
  have hend := run_endRound (P := c.P) pe n1
  have hfin := hK.go e2 (a.put d (.bool pe.isNone)) _ (hb2.putW hN Ok.of (fun n hn => by cases hn))
  cases xt with
  | normal => cases hj; exact ⟨_, _, hend, hfin⟩
  | ret => cases hj; exact ⟨_, _, hend, hfin⟩
  | exit k => cases hj; exact ⟨_, _, hend, hfin⟩
  | goto t => cases hj
  | panic ch => cases hj
  | outgrown => cases hj
/-- The record of a loop that begins. -/
def loop0 (N : Nat) (ts : List (Nat × V)) (ps : Array Tmp) (assign body : Code) (D : Nat) : LoopK := { st := .ready, pending := none, N, ts, params := ps, assign, body, D }
theorem run_rangeCall {P : Program} {ρ : Operand → Value} {g : Operand} {gf l : Nat} {us : List Value} (hg : ρ g = .func (.func gf) #[] us.toArray) (hy : ρ (.const (.func (.yield l) #[] #[])) = .func (.yield l) #[] #[]) :
    (resolve ρ (rangeCall g l) 0).run P w = .ok { target := .fn (.func gf) us.toArray, args := #[.func (.yield l) #[] #[]] } w := by
  simp only [resolve, hg, Deferred.ofValue, List.map_toArray, List.map_cons, List.map_nil, hy, Sem.run_pure]
  rfl
/-- A range over a function, where none stands around it. -/
theorem CW_rangeOuter (hF : WideLike F) (hro : F.round = none) {g : Operand} {ps : Array Tmp} {assign body : Code} {gf nD nL lo hi : Nat} {ca : List (Nat × Nat)} {ts : List (Nat × V)} {v : V} {h' : Sf} {r' : LoopK}
    (he : ∀ args w, (callFunc gf args).run c.P w = .ok (.enter gf args) w) (hg : opv σ g = some (.c (.f gf ca))) (hca : ∀ q ∈ ca, σ (.l q.1) = some (.l true)) (hts : ∀ i v, (i, v) ∈ ts → σ (.t i) = some (.v v))
    (hD : ¬ c.gv nD) (hD0 : σ (.l nD) = none) (hL : ¬ c.gv nL) (hL0 : σ (.l nL) = none) (hne : nD ≠ nL)
    (hct : CT c.P gf (.c (.y nL) :: capV ca) (hp (upd (upd σ (wsNew nD .df)) (wsNew nL (.lp (loop0 c.N ts ps assign body nD))))) lo hi v h')
    (hBk : BackOk { c with fm := nD :: c.fm } (upd (upd σ (wsNew nD .df)) (wsNew nL (.lp (loop0 c.N ts ps assign body nD)))) lo hi (upd h' [(.b nL, .b (.lp { r' with st := .exhausted, pending := r'.pending }))]))
    (hl : h' (.l nL) = some (.l true)) (hlb : h' (.b nL) = some (.b (.lp r'))) (hst : r'.st ≠ .busy)
    (hK : match r'.pending with
      | none => KW { c with fm := nD :: c.fm } (Q .normal) (mix σ (upd h' [(.b nL, .b (.lp { r' with st := .exhausted, pending := r'.pending }))]))
      | some j => CW { c with fm := nD :: c.fm } F nn j Q (mix σ (upd h' [(.b nL, .b (.lp { r' with st := .exhausted, pending := r'.pending }))]))) :
    CW c F nn (.rangeFunc g ps assign body) Q σ := by
  refine ⟨fun e a w hR => wpIn_rangeFunc fun fn hfn => ?_⟩
  rw [hro]
  have hca' := eval_f hg hca hR
  have hlt : w.heap.size < (w.alloc (.deferred (some []))).heap.size := by rw [World.size_alloc]; omega
  -- the two new objects
  let c1 : Ctx := { c with fm := nD :: c.fm }
  have hD1 : Real c (upd σ (wsNew nD .df)) (e.set nD w.heap.size 0 1) a (w.alloc (.deferred (some []))) :=
    hR.new hD hD0 _ 1 ⟨Env.set_rm .., by rw [Env.set_id]; exact World.alloc_heap_new w _⟩ (fun k hk => by cases hk)
  have hL1 : upd σ (wsNew nD .df) (.l nL) = none := by rw [wsNew_l, if_neg hne]; exact hL0
  have hTs : ∀ i v, (i, v) ∈ ts → upd σ (wsNew nD .df) (.t i) = some (.v v) := fun i v h => by rw [wsNew_t]; exact hts i v h
  let lp0 := loop0 c.N ts ps assign body nD
  let e1 := e.set nD w.heap.size 0 1
  let w1 := w.alloc (.deferred (some []))
  let s1 := upd σ (wsNew nD .df)
  let e2 := e1.set nL w1.heap.size 0 1
  let rec0 : Loop := { state := .ready, pending := none, fn := fn, tmps := a.tmps, params := ps, assign := assign, body := body, defers := w.heap.size }
  have hs : ∀ n ∈ lp0.D :: (lp0.ts.flatMap fun x => x.2.names), s1 (.l n) ≠ none := fun n hn => by
    rcases List.mem_cons.1 hn with hn | hn
    · have hn : n = nD := hn
      rw [hn]
      show upd σ (wsNew nD .df) (.l nD) ≠ none
      rw [wsNew_l, if_pos rfl]; simp
    · obtain ⟨x, hx, hn⟩ := List.mem_flatMap.1 hn
      exact hD1.W.cl.1 (.t x.1) _ (hTs x.1 x.2 hx) n hn
  have hL2 : Real c (upd s1 (wsNew nL (.lp lp0))) e2 a (w1.alloc (.loop rec0)) := by
    refine hD1.new hL hL1 (.loop rec0) 1 ⟨Env.set_rm .., fn, a.tmps, ?_, hR.slots, fun i v hv => ?_⟩ (fun k hk => .inr (hs k hk))
    · rw [Env.set_id]
      have hd : (e1.set nL w1.heap.size 0 1).id nD = w.heap.size := by rw [← (Env.set_ne e1 (i := w1.heap.size) (b := 0) (r := 1) hne).id.symm]; exact Env.set_id ..
      have := World.alloc_heap_new w1 (.loop rec0)
      rw [show (w1.alloc (.loop rec0)).heap[w1.heap.size]? = some (.loop rec0) from this]
      show some (Obj.loop rec0) = some (.loop { state := .ready, pending := none, fn := fn, tmps := a.tmps, params := ps, assign := assign, body := body, defers := (e1.set nL w1.heap.size 0 1).id nD })
      rw [hd]
    · obtain ⟨u, h1, h2⟩ := hD1.tmp i v (hTs i v hv)
      exact ⟨u, h1, h2.mono fun m hm => by
        have hne' : s1 (.l m) ≠ none := hD1.W.cl.1 (.t i) _ (hTs i v hv) m hm
        exact ⟨(wsNew_live (not_live hL1 hne')).1, (Env.set_ne e1 (not_live hL1 hne')).symm⟩⟩
  have idL : e2.id nL = w.heap.size + 1 := by
    show (e1.set nL w1.heap.size 0 1).id nL = _
    rw [Env.set_id, World.size_alloc]
  have idD : e2.id nD = w.heap.size := by
    rw [← (Env.set_ne e1 (i := w1.heap.size) (b := 0) (r := 1) hne).id.symm]; exact Env.set_id ..
  have heq : (w.alloc (.deferred (some []))).alloc (.loop { state := .ready, pending := none, fn := fn, tmps := a.tmps, params := ps, assign := assign, body := body, defers := w.heap.size }) = w1.alloc (.loop rec0) := rfl
  -- the frame behind the loop's beginning
  have hR2 : Real c1 (upd s1 (wsNew nL (.lp lp0))) e2 { a with defers := { target := .collected w.heap.size, args := #[] } :: a.defers } (w1.alloc (.loop rec0)) := by
    refine ⟨⟨hL2.W.blk, hL2.W.sep, hL2.W.own, hL2.W.cl, hL2.W.given, hL2.W.os, hL2.W.tape, hL2.W.output, hL2.W.size, hL2.W.old⟩, ?_, fun n hn => ?_, hL2.slots, hL2.tmp⟩
    · show _ = (nD :: c.fm).map _
      rw [List.map_cons, idD, ← hL2.defers]; rfl
    · rcases List.mem_cons.1 hn with hn | hn
      · rw [hn]
        refine ⟨?_, ?_⟩
        · rw [wsNew_l, if_neg (fun h => hne h.symm)]
          show upd σ (wsNew nD .df) (.l nD) = _
          rw [wsNew_l, if_pos rfl]
        · rw [wsNew_b, if_neg (fun h => hne h.symm)]
          show upd σ (wsNew nD .df) (.b nD) = _
          rw [wsNew_b, if_pos rfl]
      · exact hL2.fml n hn
  have hargs : OkVs (hp (upd s1 (wsNew nL (.lp lp0)))) e2 (.c (.y nL) :: capV ca) (Value.func (.yield (e2.id nL)) #[] #[] :: capU e2 ca) := ⟨_, _, rfl, fun _ => rfl, caps_ok ca⟩
  have hal2 : ∀ n, σ (.l n) = some (.l true) → upd s1 (wsNew nL (.lp lp0)) (.l n) = some (.l true) := fun n hn => by
    rw [wsNew_l]
    split
    · rfl
    · show upd σ (wsNew nD .df) (.l n) = _
      rw [wsNew_l]; split
      · rfl
      · exact hn
  have hnames : ∀ v ∈ V.c (.y nL) :: capV ca, ∀ n ∈ v.names, hp (upd s1 (wsNew nL (.lp lp0))) (.l n) ≠ none := fun v hv n hn => by
    rcases List.mem_cons.1 hv with rfl | hv
    · simp only [V.names, C.names, List.mem_singleton] at hn; subst hn
      show upd s1 (wsNew n (.lp lp0)) (.l n) ≠ none
      rw [wsNew_l, if_pos rfl]; simp
    · obtain ⟨q, hq, rfl⟩ := capV_names hv hn
      show upd s1 (wsNew nL (.lp lp0)) (.l q.1) ≠ none
      rw [hal2 q.1 (hca q hq)]; simp
  have hcapU : capU e2 ca = capU e ca := by
    refine List.map_congr_left fun q hq => ?_
    have h1 : q.1 ≠ nD := fun h => by have := hca q hq; rw [h, hD0] at this; cases this
    have h2 : q.1 ≠ nL := fun h => by have := hca q hq; rw [h, hL0] at this; cases this
    have hsm : e2.same e q.1 := (Env.set_ne e1 h2).trans (Env.set_ne e h1)
    rw [hsm.id, hsm.bs]
  refine ⟨w.heap.size + 1, [{ target := .collected w.heap.size, args := #[] }], _, _, _, gf, #[.func (.yield (w.heap.size + 1)) #[] #[]] ++ (capU e ca).toArray, w1.alloc (.loop rec0), run_enterLoop_outer fn a.tmps ps assign body, run_rangeCall hca' rfl, fun f' _ => hF.fn f', ?_, fun h => absurd h (by rw [hF.depth]; simp), ?_⟩
  · show (callFunc gf (#[.func (.yield (w.heap.size + 1)) #[] #[]] ++ (capU e ca).toArray)).run c.P _ = _
    rw [he]
  refine hF.calls ?_
  have hcall := hct (c1.sub lo hi e2 0) e2 (w1.alloc (.loop rec0)) _ rfl (fun n h1 h2 h3 => by (have : n < lo ∨ hi ≤ n := h3; omega)) (hR2.W.heap.sub lo hi 0) hargs hnames
  rw [hcapU, idL] at hcall
  have harr : (Value.func (.yield (w.heap.size + 1)) #[] #[] :: capU e ca).toArray = #[.func (.yield (w.heap.size + 1)) #[] #[]] ++ (capU e ca).toArray := by simp
  rw [harr] at hcall
  refine hcall.mono ?_
  rintro en w3 ⟨u, e3, rfl, hW3, hu, hun⟩
  have hs1lo : nL < lo := by
    rcases Nat.lt_or_ge nL lo with h | h
    · exact h
    · have := hBk.fr nL h
      rw [wsNew_l, if_pos rfl] at this; cases this
  have id3 : e3.id nL = w.heap.size + 1 := (hW3.given nL (.inl hs1lo)).id.trans idL
  obtain ⟨rec3, p1, p2, p3, p4⟩ := hW3.loopSet hl hlb .exhausted r'.pending
  rw [id3] at p1 p4
  have hb3 := hR2.back (c' := c1.sub lo hi e2 0) rfl rfl (fun n hn => hn) rfl hBk.gv hBk.fr hBk.rev hBk.fm hBk.al p4
  have hend := run_endLoop (P := c.P) p1 (by rw [p2]; exact hst)
  have hrec : ({ rec3 with state := .exhausted, pending := r'.pending } : Loop) = { rec3 with state := .exhausted } := by rw [← p3]
  rw [hrec] at hb3
  have hmix : mix (upd s1 (wsNew nL (.lp lp0))) (upd h' [(.b nL, .b (.lp { r' with st := .exhausted, pending := r'.pending }))]) = mix σ (upd h' [(.b nL, .b (.lp { r' with st := .exhausted, pending := r'.pending }))]) := by
    funext q
    cases q with
    | t i => show upd (upd σ _) _ (.t i) = σ (.t i); rw [wsNew_t, wsNew_t]
    | b n => rfl
    | l n => rfl
  rw [hmix] at hb3
  refine ⟨rec3.pending, _, hend, ?_⟩
  rw [p3]
  rw [p3] at hb3
  cases hpd : r'.pending with
  | none => simp only [hpd] at hK hb3 ⊢; exact hK.go e3 _ _ hb3
  | some j => simp only [hpd] at hK hb3 ⊢; exact hK.go e3 _ _ hb3
end
end Go.Proofs.Ytbjogekhedglgaa.EV
