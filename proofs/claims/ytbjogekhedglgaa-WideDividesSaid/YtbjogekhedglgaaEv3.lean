/- States by names: an operation, its guard, what it leaves. No program in sight. -/
import Derived.Test.YtbjogekhedglgaaEv2
namespace Go.Proofs.Ytbjogekhedglgaa.EV
open Go.RowKit

/-- A fence that lets every call by. -/
class WideLike (F : Fence) : Prop where
  fn : ∀ f, F.fn f
  depth : F.depth = none
  calls : ∀ {n : Nat} {P : Program} {f : FuncId} {args : Array Value} {w : World} {R : Ending → World → Prop}, Calls P f args w R → CallsIn F n P f args w R
instance wide_like : WideLike Fence.wide := ⟨fun _ => trivial, rfl, fun h => callsIn_wide.2 h⟩
instance round_like (l : Nat) : WideLike (Fence.wide.inRound l) := ⟨fun _ => trivial, rfl, fun h => (callsIn_wide.2 h).inRound l⟩

/-- A constant, as it is told. -/
def canon : Value → Option V
  | .agg a => if a.toList.all (·.oneCell') = true then some (.a (a.toList.map C.v)) else none
  | x => some (.c (.v x))
def opv (s : Sf) : Operand → Option V
  | .tmp t => match s (.t t) with
    | some (.v v) => some v
    | _ => none
  | .const x => canon x
  | .global g => some (.c (.v (.pointer (some ⟨g, 0, none⟩))))
  | .func f => some (.c (.f f []))
def opk : Operand → List Key
  | .tmp t => [.t t]
  | _ => []
section
variable {c : Ctx} {F : Fence} {nn : Nat} {σ s : Sf} {e : Env} {a : Act} {w : World}
theorem canon_ok {x : Value} {v : V} (h : canon x = some v) : OkV s e v x := by
  cases x with
  | agg a =>
    simp only [canon] at h
    split at h
    · rename_i h1; cases h; exact ⟨a.toList, by simp, OkL.plain _ h1⟩
    · cases h
  | _ => cases h; exact Ok.of
theorem canon_names {x : Value} {v : V} (h : canon x = some v) : v.names = [] := by
  cases x with
  | agg a =>
    simp only [canon] at h
    split at h
    · cases h; exact plain_names _
    · cases h
  | _ => cases h; rfl
theorem opv_agree {x : Operand} (h : ∀ q ∈ opk x, s q = σ q) : opv s x = opv σ x := by
  cases x with
  | tmp t => simp only [opv]; rw [h (.t t) (by simp [opk])]
  | _ => rfl
theorem eval_opv {x : Operand} {v : V} (hx : opv s x = some v) (hR : Real c s e a w) : OkV s e v (a.eval x) := by
  cases x with
  | tmp t =>
    simp only [opv] at hx
    split at hx
    · rename_i u hu
      cases hx
      obtain ⟨u, h1, h2⟩ := hR.tmp t v hu
      simpa [Act.eval, Array.getD_eq_getD_getElem?, h1] using h2
    · cases hx
  | const x => exact canon_ok hx
  | global g => cases hx; exact Ok.of
  | func f => cases hx; exact fun _ => rfl
theorem opv_names {x : Operand} {v : V} (hx : opv s x = some v) (hc : Cl s) : ∀ n ∈ v.names, s (.l n) ≠ none := by
  intro n hn
  cases x with
  | tmp t =>
    simp only [opv] at hx
    split at hx
    · rename_i u hu
      cases hx
      exact hc.1 _ _ hu n hn
    · cases hx
  | const x => rw [canon_names hx] at hn; cases hn
  | global g => cases hx; cases hn
  | func f => cases hx; cases hn

/-- One operation, in every state that holds what it reads. -/
def LocalO (c : Ctx) (F : Fence) (nn : Nat) (o : Oper) (σ : Sf) (t : Tr) : Prop :=
  Cl σ → ∀ (Q : Exit → Act → World → Prop) (s : Sf) (e : Env) (a : Act) (w : World) (K : Act → World → Prop), (∀ q, t.rd q = true → s q = σ q) → Real c s e a w →
    (∀ e' a' w', Real c (upd s t.ws) e' a' w' → K a' w') → o.wpIn F nn c.P a w K Q
def orR (ks : List Key) (rd : Key → Bool) : Key → Bool := fun q => (ks.any fun k => Key.beq k q) || rd q
theorem orR_l {ks : List Key} {rd : Key → Bool} {q : Key} (h : q ∈ ks) : orR ks rd q = true := by
  simp only [orR, Bool.or_eq_true, List.any_eq_true]; exact .inl ⟨q, h, Key.beq_refl q⟩
theorem orR_r {ks : List Key} {rd : Key → Bool} {q : Key} (h : rd q = true) : orR ks rd q = true := by simp [orR, h]
theorem LocalO.plain {o : Oper} {t : Tr} {ops : Array Oper} {i : Nat} (h : LocalO c F nn o σ t) (hg : o.guard = none) (ho : ops[i]? = some o) : LocalI c F nn ops i σ t := by
  intro hcl Q s e a w K hag hR hK
  unfold wpOpIn
  simp only [ho, Region.wanted, hg, if_true]
  exact h hcl Q s e a w K hag hR hK
theorem yielded_of {ops : Array Oper} {j d : Nat} {b : Bool} (hd : (ops[j]?).bind (·.dst) = some d) (hv : s (.t d) = some (.v (.c (.v (.bool b))))) (hR : Real c s e a w) : yielded ops a.tmps j = some b := by
  obtain ⟨u, h1, h2⟩ := hR.tmp d _ hv
  have := Ok.plain h2; subst this
  unfold yielded
  simp only [hd, Option.bind_some, h1]
  try rfl
theorem yielded_undef {ops : Array Oper} {j d : Nat} (hd : (ops[j]?).bind (·.dst) = some d) (hv : s (.t d) = some (.v (.c (.v undef)))) (hR : Real c s e a w) : yielded ops a.tmps j = none := by
  obtain ⟨u, h1, h2⟩ := hR.tmp d _ hv
  have := Ok.plain h2; subst this
  unfold yielded
  simp only [hd, Option.bind_some, h1]
  try rfl
theorem LocalO.guarded {o : Oper} {t : Tr} {ops : Array Oper} {i j d : Nat} {want : Bool} (h : LocalO c F nn o σ t) (hg : o.guard = some (j, want)) (hd : (ops[j]?).bind (·.dst) = some d) {b : Bool} (hv : σ (.t d) = some (.v (.c (.v (.bool b))))) (hb : b = want) (ho : ops[i]? = some o) :
    LocalI c F nn ops i σ ⟨orR [.t d] t.rd, t.ws⟩ := by
  intro hcl Q s e a w K hag hR hK
  unfold wpOpIn
  have hy := yielded_of hd (b := want) (by rw [hag (.t d) (orR_l (by simp)), hv, hb]) hR
  simp only [ho, Region.wanted, hg, hy]
  rw [if_pos (by simp)]
  exact h hcl Q s e a w K (fun q hq => hag q (orR_r hq)) hR hK
/-- The guard of an operation that is carried out. -/
inductive GOk (ops : Array Oper) (s : Sf) : Option (Nat × Bool) → List Key → Prop
  | none : GOk ops s none []
  | some {j d : Nat} {want b : Bool} : (ops[j]?).bind (·.dst) = some d → s (.t d) = some (.v (.c (.v (.bool b)))) → b = want → GOk ops s (some (j, want)) [.t d]
theorem LocalI.rd {ops : Array Oper} {i : Nat} {ws : Ws} {r1 r2 : Key → Bool} (h : LocalI c F nn ops i σ ⟨r1, ws⟩) (hr : ∀ q, r1 q = true → r2 q = true) : LocalI c F nn ops i σ ⟨r2, ws⟩ :=
  fun hcl Q s e a w K hag hR hK => h hcl Q s e a w K (fun q hq => hag q (hr q hq)) hR hK
theorem LocalO.under {o : Oper} {t : Tr} {ops : Array Oper} {i : Nat} {g : Option (Nat × Bool)} {ks : List Key} (h : LocalO c F nn o σ t) (hg : GOk ops σ g ks) (ho' : o.guard = g) (ho : ops[i]? = some o) : LocalI c F nn ops i σ ⟨orR ks t.rd, t.ws⟩ := by
  cases hg with
  | none => exact LocalI.rd (r1 := t.rd) (h.plain ho' ho) (fun q hq => orR_r hq)
  | some hd hv hb => exact h.guarded ho' hd hv hb ho
/-- What is laid into the slot of an operation, if it has one. -/
def putW : Option Tmp → V → Ws
  | some d, v => [(.t d, .v v)]
  | none, _ => []
def dOk (N : Nat) : Option Tmp → Bool
  | some d => Nat.blt d N
  | none => true
theorem Real.putW (h : Real c s e a w) {dst : Option Tmp} {v : V} {u : Value} (hd : dOk c.N dst = true) (hk : OkV s e v u) (hn : ∀ n ∈ v.names, s (.l n) ≠ none) : Real c (upd s (putW dst v)) e (a.put dst u) w := by
  cases dst with
  | none => exact h.same
  | some d => exact h.put (by simpa [dOk, Nat.blt_eq] using hd) hk hn
theorem LocalO.skipped (hF : WideLike F) {o : Oper} {ops : Array Oper} {i j d : Nat} {want b : Bool} (hg : o.guard = some (j, want)) (hd : (ops[j]?).bind (·.dst) = some d) (hv : σ (.t d) = some (.v (.c (.v (.bool b))))) (hb : b = !want) (hN : dOk c.N o.dst = true) (ho : ops[i]? = some o) :
    LocalI c F nn ops i σ ⟨kr [.t d], putW o.dst (.c (.v undef))⟩ := by
  intro hcl Q s e a w K hag hR hK
  unfold wpOpIn
  have hy := yielded_of hd (b := b) (by rw [hag (.t d) (kr_iff.2 (by simp))]; exact hv) hR
  simp only [ho, Region.wanted, hg, hy]
  rw [if_neg (by rw [hb]; simp)]
  exact ⟨fun f _ => hF.fn f, hK e _ _ (hR.putW hN Ok.of (fun n hn => by cases hn))⟩
theorem LocalO.skippedU (hF : WideLike F) {o : Oper} {ops : Array Oper} {i j d : Nat} {want : Bool} (hg : o.guard = some (j, want)) (hd : (ops[j]?).bind (·.dst) = some d) (hv : σ (.t d) = some (.v (.c (.v undef)))) (hN : dOk c.N o.dst = true) (ho : ops[i]? = some o) :
    LocalI c F nn ops i σ ⟨kr [.t d], putW o.dst (.c (.v undef))⟩ := by
  intro hcl Q s e a w K hag hR hK
  unfold wpOpIn
  have hy := yielded_undef hd (by rw [hag (.t d) (kr_iff.2 (by simp))]; exact hv) hR
  simp only [ho, Region.wanted, hg, hy]
  rw [if_neg (by simp)]
  exact ⟨fun f _ => hF.fn f, hK e _ _ (hR.putW hN Ok.of (fun n hn => by cases hn))⟩
theorem wpIn_value (hF : WideLike F) {o : Oper} {Q : Exit → Act → World → Prop} {K : Act → World → Prop} {v : Value} {w' : World} (hdef : ∀ q, o.op ≠ .defer q) (h : (execOp a.eval o).run c.P w = .ok (.value v) w') (hK : K (a.put o.dst v) w') : o.wpIn F nn c.P a w K Q := by
  refine ⟨fun f _ => hF.fn f, ?_⟩
  rw [Oper.semAt_eq _ _ _ hdef, h]
  exact hK
theorem wpIn_skip' (hF : WideLike F) {o : Oper} {Q : Exit → Act → World → Prop} {K : Act → World → Prop} {w' : World} (hdef : ∀ q, o.op ≠ .defer q) (h : (execOp a.eval o).run c.P w = .ok .skip w') (hK : K (a.put o.dst undef) w') : o.wpIn F nn c.P a w K Q := by
  refine ⟨fun f _ => hF.fn f, ?_⟩
  rw [Oper.semAt_eq _ _ _ hdef, h]
  exact hK
theorem noDefer {o : Op} (h : (match o with | .defer _ => true | _ => false) = false) : ∀ q, o ≠ .defer q := by
  rintro q rfl; cases h
/-- An operation that yields a value, and lays (or changes) blocks. -/
theorem LocalO.act (hF : WideLike F) {o : Oper} {v : V} {rd : Key → Bool} {ws : Ws} (hN : dOk c.N o.dst = true) (hdef : ∀ q, o.op ≠ .defer q)
    (h : ∀ s e a w, (∀ q, rd q = true → s q = σ q) → Real c s e a w → ∃ u w' e', (execOp a.eval o).run c.P w = .ok (.value u) w' ∧ Real c (upd s ws) e' a w' ∧ OkV (upd s ws) e' v u ∧ ∀ n ∈ v.names, upd s ws (.l n) ≠ none) : LocalO c F nn o σ ⟨rd, putW o.dst v ++ ws⟩ := by
  intro hcl Q s e a w K hag hR hK
  obtain ⟨u, w', e', h1, h2, h3, h4⟩ := h s e a w hag hR
  refine wpIn_value hF hdef h1 ?_
  refine hK e' _ _ ?_
  rw [upd_append]
  exact h2.putW hN h3 h4
/-- An operation that yields a value alone. -/
theorem LocalO.val (hF : WideLike F) {o : Oper} {v : V} {rd : Key → Bool} (hN : dOk c.N o.dst = true) (hdef : ∀ q, o.op ≠ .defer q)
    (h : ∀ s e a w, (∀ q, rd q = true → s q = σ q) → Real c s e a w → ∃ u, (execOp a.eval o).run c.P w = .ok (.value u) w ∧ OkV s e v u ∧ ∀ n ∈ v.names, s (.l n) ≠ none) : LocalO c F nn o σ ⟨rd, putW o.dst v⟩ := by
  intro hcl Q s e a w K hag hR hK
  obtain ⟨u, h1, h3, h4⟩ := h s e a w hag hR
  refine wpIn_value hF hdef h1 ?_
  exact hK e _ _ (hR.putW hN h3 h4)
/-- An operation that changes blocks, and yields nothing. -/
theorem LocalO.deed (hF : WideLike F) {o : Oper} {rd : Key → Bool} {ws : Ws} (hd : o.dst = none) (hdef : ∀ q, o.op ≠ .defer q)
    (h : ∀ s e a w, (∀ q, rd q = true → s q = σ q) → Real c s e a w → ∃ w' e', (execOp a.eval o).run c.P w = .ok .skip w' ∧ Real c (upd s ws) e' a w') : LocalO c F nn o σ ⟨rd, ws⟩ := by
  intro hcl Q s e a w K hag hR hK
  obtain ⟨w', e', h1, h2⟩ := h s e a w hag hR
  refine wpIn_skip' hF hdef h1 ?_
  rw [hd]
  exact hK e' _ _ h2
end
end Go.Proofs.Ytbjogekhedglgaa.EV
