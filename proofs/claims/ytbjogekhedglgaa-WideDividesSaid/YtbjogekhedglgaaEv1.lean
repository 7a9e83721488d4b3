/- States by names: what slots and named blocks hold; a region whose order is open comes to what its text comes to. No program in sight. -/
import Derived.Test.YtbjogekhedglgaaLib
namespace Go.Proofs.Ytbjogekhedglgaa.EV
open Go.RowKit

/-- Where named blocks lie: the block, the first cell, how many cells from there on. -/
structure Env where
  id : Nat → Nat
  bs : Nat → Nat
  rm : Nat → Nat
structure Env.same (e f : Env) (n : Nat) : Prop where
  id : e.id n = f.id n
  bs : e.bs n = f.bs n
  rm : e.rm n = f.rm n
theorem Env.same.rfl {e : Env} {n : Nat} : e.same e n := ⟨Eq.refl _, Eq.refl _, Eq.refl _⟩
theorem Env.same.trans {e f g : Env} {n : Nat} (h : e.same f n) (k : f.same g n) : e.same g n := ⟨h.id.trans k.id, h.bs.trans k.bs, h.rm.trans k.rm⟩
theorem Env.same.symm {e f : Env} {n : Nat} (h : e.same f n) : f.same e n := ⟨h.id.symm, h.bs.symm, h.rm.symm⟩
def Env.set (e : Env) (n i b r : Nat) : Env :=
  ⟨fun k => if k = n then i else e.id k, fun k => if k = n then b else e.bs k, fun k => if k = n then r else e.rm k⟩
theorem Env.set_ne (e : Env) {n i b r k : Nat} (h : k ≠ n) : (e.set n i b r).same e k := ⟨if_neg h, if_neg h, if_neg h⟩
theorem Env.set_id (e : Env) (n i b r : Nat) : (e.set n i b r).id n = i := if_pos rfl
theorem Env.set_bs (e : Env) (n i b r : Nat) : (e.set n i b r).bs n = b := if_pos rfl
theorem Env.set_rm (e : Env) (n i b r : Nat) : (e.set n i b r).rm n = r := if_pos rfl

/-- What one cell holds. -/
inductive C where
  | v (x : Value)
  | p (n off : Nat)
  | s (n off len cap : Nat)
  | g (n off len lb esz : Nat)
  | f (g : FuncId) (caps : List (Nat × Nat))
  | y (n : Nat)
/-- Which values are told by it. An empty slice without room may stand anywhere. -/
def Rep (e : Env) : C → Value → Prop
  | .v x, u => u = x
  | .p n o, u => u = .pointer (some ⟨e.id n, e.bs n + o, none⟩)
  | .s n o l k, u => u = .slice (some ⟨e.id n, e.bs n + o, none⟩) l k ∨ (l = 0 ∧ k = 0 ∧ ∃ a, u = .slice a 0 0)
  | .g n o l b z, u => (∃ k, u = .slice (some ⟨e.id n, e.bs n + o, none⟩) l k ∧ l ≤ k ∧ b ≤ k ∧ k ≤ maxLen ∧ o + k * z ≤ e.rm n) ∨ (l = 0 ∧ b = 0 ∧ ∃ a, u = .slice a 0 0)
  | .f g caps, u => u = .func (.func g) #[] (caps.map fun q => Value.pointer (some ⟨e.id q.1, e.bs q.1 + q.2, none⟩)).toArray
  | .y n, u => u = .func (.yield (e.id n)) #[] #[]
def C.names : C → List Nat
  | .v _ => []
  | .p n _ => [n]
  | .s n _ _ _ => [n]
  | .g n _ _ _ _ => [n]
  | .f _ caps => caps.map (·.1)
  | .y n => [n]
/-- What a slot holds: one cell's, a struct's or an array's, several results. -/
inductive V where
  | c (x : C)
  | a (l : List C)
  | t (l : List (C ⊕ List C))
def namesP : C ⊕ List C → List Nat
  | .inl x => x.names
  | .inr l => l.flatMap C.names
def V.names : V → List Nat
  | .c x => x.names
  | .a l => l.flatMap C.names
  | .t l => l.flatMap namesP
/-- What a loop over a function keeps. -/
structure LoopK where
  st : LoopState
  pending : Option Code
  N : Nat
  ts : List (Nat × V)
  params : Array Tmp
  assign : Code
  body : Code
  D : Nat
/-- What a block holds: cells; plain cells; a loop's record; the place of deferred calls (none). -/
inductive B where
  | m (own : Bool) (l : List C)
  | w (own : Bool) (l : List Value)
  | lp (r : LoopK)
  | df
def B.names : B → List Nat
  | .m _ l => l.flatMap C.names
  | .w _ _ => []
  | .lp r => r.D :: r.ts.flatMap fun x => x.2.names
  | .df => []
def B.own : B → Bool
  | .m o _ => o
  | .w o _ => o
  | _ => true
/-- Where something is held: a slot, a named block; whether a name may be used. -/
inductive Key where
  | t (i : Nat)
  | b (n : Nat)
  | l (n : Nat)
  deriving DecidableEq
def Key.beq : Key → Key → Bool
  | .t i, .t j => Nat.beq i j
  | .b n, .b m => Nat.beq n m
  | .l n, .l m => Nat.beq n m
  | _, _ => false
theorem Key.beq_iff (a b : Key) : a.beq b = true ↔ a = b := by
  cases a <;> cases b <;> simp [Key.beq]
theorem Key.beq_refl (a : Key) : a.beq a = true := (Key.beq_iff a a).2 rfl
theorem Key.beq_ne {a b : Key} (h : a ≠ b) : a.beq b = false := by
  cases hb : a.beq b with
  | true => exact absurd ((Key.beq_iff _ _).1 hb) h
  | false => rfl
inductive KV where
  | v (x : V)
  | b (x : B)
  | l (alive : Bool)
def KV.names : KV → List Nat
  | .v x => x.names
  | .b x => x.names
  | .l _ => []
abbrev Ws := List (Key × KV)
/-- A state: batches, the newest first. -/
abbrev St := List Ws
abbrev Sf := Key → Option KV
def lookW : Ws → Sf
  | [], _ => none
  | (k, x) :: r, q => bif Key.beq k q then some x else lookW r q
def lookOr : Ws → Key → Option KV → Option KV
  | [], _, z => z
  | (k, x) :: r, q, z => bif Key.beq k q then some x else lookOr r q z
def look : St → Sf
  | [], _ => none
  | ws :: r, q => lookOr ws q (look r q)
def upd (s : Sf) (ws : Ws) : Sf := fun q => (lookW ws q).or (s q)
theorem lookOr_eq (q : Key) (z : Option KV) : ∀ ws, lookOr ws q z = (lookW ws q).or z
  | [] => by simp [lookOr, lookW]
  | (k, x) :: r => by
    simp only [lookOr, lookW]
    cases h : Key.beq k q with
    | true => simp
    | false => simpa using lookOr_eq q z r
theorem look_append (ws : Ws) (σ : St) : look (ws :: σ) = upd (look σ) ws := by
  funext q
  simp only [look, upd, lookOr_eq]
theorem upd_nil (s : Sf) : upd s [] = s := by funext q; simp [upd, lookW]
theorem upd_cons_self (s : Sf) (k : Key) (x : KV) (r : Ws) : upd s ((k, x) :: r) k = some x := by simp [upd, lookW, Key.beq_refl]
theorem upd_cons_ne (s : Sf) {k q : Key} (x : KV) (r : Ws) (h : k ≠ q) : upd s ((k, x) :: r) q = upd s r q := by simp [upd, lookW, Key.beq_ne h]
theorem upd_cons (s : Sf) (k q : Key) (x : KV) (r : Ws) : upd s ((k, x) :: r) q = if k = q then some x else upd s r q := by
  by_cases h : k = q
  · subst h; rw [if_pos rfl]; exact upd_cons_self s k x r
  · rw [if_neg h]; exact upd_cons_ne s x r h
theorem look_mem {ws : Ws} {q : Key} {x : KV} (h : lookW ws q = some x) : (q, x) ∈ ws := by
  induction ws with
  | nil => cases h
  | cons y r ih =>
    obtain ⟨k, y⟩ := y
    simp only [lookW] at h
    cases hk : Key.beq k q with
    | true =>
      rw [hk] at h
      simp only [cond_true, Option.some.injEq] at h
      rw [(Key.beq_iff _ _).1 hk, h]; exact List.mem_cons_self
    | false => rw [hk] at h; exact List.mem_cons_of_mem _ (ih h)
theorem look_isSome {ws : Ws} {q : Key} : (lookW ws q).isSome = ws.any fun x => Key.beq x.1 q := by
  induction ws with
  | nil => rfl
  | cons y r ih =>
    obtain ⟨k, y⟩ := y
    simp only [lookW, List.any_cons]
    cases hk : Key.beq k q with
    | true => simp
    | false => simpa using ih
/-- May the name be used? -/
def live (s : Sf) (n : Nat) : Prop := s (.l n) = some (.l true)
/-- Whoever is named has been made. -/
def Cl (s : Sf) : Prop := (∀ q x, s q = some x → ∀ n ∈ x.names, s (.l n) ≠ none) ∧ ∀ n, s (.b n) ≠ none → s (.l n) ≠ none

/-- What does not change in a walk: the program, the world at the start, which of its blocks may be written, the names that were handed in; how many slots a frame has, and what it left to be done. -/
structure Ctx where
  P : Program
  w0 : World
  tch : Nat → Prop
  gv : Nat → Prop
  ini : Env
  N : Nat
  fm : List Nat
/-- The mark that a range over a function leaves. -/
def mark1 (D : Nat) : Deferred := { target := .collected D, args := #[] }
abbrev Ctx.B (c : Ctx) : Nat := c.w0.heap.size

/-- What is told of a cell's value, as long as the names may be used. -/
def Ok (s : Sf) (e : Env) (x : C) (u : Value) : Prop := (∀ n ∈ x.names, live s n) → Rep e x u
/-- .. of a cell in a row. -/
structure Okc (s : Sf) (e : Env) (x : C) (u : Value) : Prop where
  one : u.oneCell' = true
  ok : Ok s e x u
def OkL (s : Sf) (e : Env) : List C → List Value → Prop
  | [], us => us = []
  | x :: l, us => ∃ u r, us = u :: r ∧ Okc s e x u ∧ OkL s e l r
def OkP (s : Sf) (e : Env) : C ⊕ List C → Value → Prop
  | .inl x, u => Ok s e x u
  | .inr l, u => ∃ us : List Value, u = .agg us.toArray ∧ OkL s e l us
def OkT (s : Sf) (e : Env) : List (C ⊕ List C) → List Value → Prop
  | [], us => us = []
  | x :: l, us => ∃ u r, us = u :: r ∧ OkP s e x u ∧ OkT s e l r
def OkV (s : Sf) (e : Env) : V → Value → Prop
  | .c x, u => Ok s e x u
  | .a l, u => ∃ us : List Value, u = .agg us.toArray ∧ OkL s e l us
  | .t l, u => ∃ us : List Value, u = .tuple us.toArray ∧ OkT s e l us
/-- A row of cells. -/
def MOk (s : Sf) (e : Env) (w : World) (n : Nat) (own : Bool) (l : List C) : Prop :=
  l.length ≤ e.rm n ∧ (e.rm n = 0 ∨
  ∃ cs ty fz, w.heap[e.id n]? = some (.cells cs ty fz) ∧ (own = true → fz.1 = fz.2 ∨ e.bs n + e.rm n ≤ fz.1) ∧ e.bs n + e.rm n ≤ cs.size ∧
    ∀ i x, l[i]? = some x → ∃ u, cs[e.bs n + i]? = some u ∧ Okc s e x u)
theorem unfroz {x y b r i : Nat} (h : x = y ∨ b + r ≤ x) (hi : i < r) : ¬ (x ≤ b + i ∧ b + i < y) := by omega
def BOk (s : Sf) (e : Env) (w : World) (n : Nat) : B → Prop
  | .m o l => MOk s e w n o l
  | .w o l => MOk s e w n o (l.map C.v)
  | .lp r => e.rm n = 1 ∧ ∃ (fn : FuncId) (tm : Array Value), w.heap[e.id n]? = some (.loop { state := r.st, pending := r.pending, fn, tmps := tm, params := r.params, assign := r.assign, body := r.body, defers := e.id r.D }) ∧ tm.size = r.N ∧
      ∀ i v, (i, v) ∈ r.ts → ∃ u, tm[i]? = some u ∧ OkV s e v u
  | .df => e.rm n = 1 ∧ w.heap[e.id n]? = some (.deferred (some []))
/-- The world part of 'the state s stands'. -/
structure RealW (c : Ctx) (s : Sf) (e : Env) (w : World) : Prop where
  blk : ∀ n b, s (.l n) = some (.l true) → s (.b n) = some (.b b) → BOk s e w n b
  sep : ∀ n n' b b', s (.l n) = some (.l true) → s (.b n) = some (.b b) → s (.l n') = some (.l true) → s (.b n') = some (.b b') → n ≠ n' → b.own = true → e.rm n = 0 ∨ e.rm n' = 0 ∨ e.id n ≠ e.id n'
  own : ∀ n b, s (.l n) = some (.l true) → s (.b n) = some (.b b) → b.own = true → e.rm n = 0 ∨ c.B ≤ e.id n ∨ c.tch (e.id n)
  cl : Cl s
  given : ∀ n, c.gv n → e.same c.ini n
  os : w.os = c.w0.os
  tape : w.tape = c.w0.tape
  output : w.output = c.w0.output
  size : c.B ≤ w.heap.size
  old : ∀ k, k < c.B → ¬ c.tch k → w.heap[k]? = c.w0.heap[k]?
structure Real (c : Ctx) (s : Sf) (e : Env) (a : Act) (w : World) : Prop where
  W : RealW c s e w
  defers : a.defers = c.fm.map fun n => mark1 (e.id n)
  fml : ∀ n ∈ c.fm, s (.l n) = some (.l true) ∧ s (.b n) = some (.b .df)
  slots : a.tmps.size = c.N
  tmp : ∀ i v, s (.t i) = some (.v v) → ∃ u, a.tmps[i]? = some u ∧ OkV s e v u

/-- What an operation reads, and what it leaves. -/
structure Tr where
  rd : Key → Bool
  ws : Ws
instance : Inhabited Tr := ⟨⟨fun _ => false, []⟩⟩
/-- A list of keys, as what is read. -/
def kr (l : List Key) : Key → Bool := fun q => l.any fun k => Key.beq k q
theorem kr_iff {l : List Key} {q : Key} : kr l q = true ↔ q ∈ l := by
  simp only [kr, List.any_eq_true, Key.beq_iff]
  exact ⟨fun ⟨x, hx, e⟩ => e ▸ hx, fun h => ⟨q, h, rfl⟩⟩
section
variable {c : Ctx} {F : Fence} {nn : Nat}
/-- Operation i, in every state that holds what it reads, leaves just that. -/
def LocalI (c : Ctx) (F : Fence) (nn : Nat) (ops : Array Oper) (i : Nat) (σ : Sf) (t : Tr) : Prop :=
  Cl σ → ∀ (Q : Exit → Act → World → Prop) (s : Sf) (e : Env) (a : Act) (w : World) (K : Act → World → Prop), (∀ q, t.rd q = true → s q = σ q) → Real c s e a w →
    (∀ e' a' w', Real c (upd s t.ws) e' a' w' → K a' w') → wpOpIn F nn c.P ops Q i K a w
/-- The state when of the first j operations those of E are done. -/
def stAt (s0 : Sf) (T : Nat → Tr) (E : Nat → Bool) : Nat → Sf
  | 0 => s0
  | j + 1 => bif E j then upd (stAt s0 T E j) (T j).ws else stAt s0 T E j
theorem stAt_congr {s0 : Sf} {T : Nat → Tr} {E E' : Nat → Bool} {q : Key} : ∀ j, (∀ k, k < j → (lookW (T k).ws q).isSome = true → E k = E' k) → stAt s0 T E j q = stAt s0 T E' j q
  | 0, _ => rfl
  | j + 1, h => by
    have ih := stAt_congr (s0 := s0) (T := T) (E := E) (E' := E') (q := q) j (fun k hk => h k (by omega))
    have hj := h j (by omega)
    simp only [stAt]
    cases hw : lookW (T j).ws q with
    | some x =>
      rw [hw] at hj
      rw [hj rfl]
      cases E' j with
      | true => simp [upd, hw]
      | false => simpa using ih
    | none =>
      cases E j <;> cases E' j <;> simp [upd, hw, ih]
theorem stAt_tr {s0 : Sf} {T T' : Nat → Tr} {E : Nat → Bool} : ∀ j, (∀ k, k < j → T k = T' k) → stAt s0 T E j = stAt s0 T' E j
  | 0, _ => rfl
  | j + 1, h => by
    have ih := stAt_tr (s0 := s0) (T := T) (T' := T') (E := E) j (fun k hk => h k (by omega))
    simp only [stAt, ih, h j (by omega)]

def keysMeet (ws : Ws) (ks : List Key) : Bool := ws.any fun x => ks.any fun q => Key.beq x.1 q
/-- Does one write what the other reads or writes? -/
def conf (a b : Tr) : Bool := (a.ws.any fun x => b.rd x.1) || (b.ws.any fun x => a.rd x.1) || keysMeet a.ws (b.ws.map (·.1))
theorem keysMeet_of {ws : Ws} {ks : List Key} {q : Key} (h : (lookW ws q).isSome = true) (hq : q ∈ ks) : keysMeet ws ks = true := by
  rw [look_isSome, List.any_eq_true] at h
  obtain ⟨x, hx, hk⟩ := h
  exact List.any_eq_true.2 ⟨x, hx, List.any_eq_true.2 ⟨q, hq, hk⟩⟩
theorem rdMeet_of {ws : Ws} {rd : Key → Bool} {q : Key} (h : (lookW ws q).isSome = true) (hq : rd q = true) : (ws.any fun x => rd x.1) = true := by
  rw [look_isSome, List.any_eq_true] at h
  obtain ⟨x, hx, hk⟩ := h
  exact List.any_eq_true.2 ⟨x, hx, by rw [(Key.beq_iff _ _).1 hk]; exact hq⟩
theorem conf_comm {a b : Tr} (h : conf a b = true) : conf b a = true := by
  have e : keysMeet b.ws (a.ws.map (·.1)) = keysMeet a.ws (b.ws.map (·.1)) := by
    rw [Bool.eq_iff_iff]
    simp only [keysMeet, List.any_eq_true, List.mem_map, Key.beq_iff]
    constructor
    · rintro ⟨x, hx, _, ⟨y, hy, rfl⟩, h⟩; exact ⟨y, hy, _, ⟨x, hx, rfl⟩, h.symm⟩
    · rintro ⟨x, hx, _, ⟨y, hy, rfl⟩, h⟩; exact ⟨y, hy, _, ⟨x, hx, rfl⟩, h.symm⟩
  simp only [conf, e, Bool.or_eq_true] at h ⊢
  rcases h with (h | h) | h
  · exact .inl (.inr h)
  · exact .inl (.inl h)
  · exact .inr h
def deps (ops : Array Oper) (i : Nat) : List Nat := match ops[i]? with
  | some o => (o.after.toList.filter (Region.binds .any ·)).map (·.on)
  | none => []
/-- Must k be done when i is done? -/
def reach (ops : Array Oper) : Nat → Nat → Nat → Bool
  | 0, _, _ => false
  | f + 1, i, k => (deps ops i).any (fun j => Nat.beq j k) || (deps ops i).any (fun j => Nat.ble (k + 1) j && reach ops f j k)
def Shut (ops : Array Oper) (E : Nat → Bool) : Prop := ∀ i, E i = true → ∀ j ∈ deps ops i, E j = true
theorem reach_sound {ops : Array Oper} {E : Nat → Bool} (hE : Shut ops E) : ∀ (f i k : Nat), reach ops f i k = true → (∀ j ∈ deps ops i, E j = true) → E k = true
  | 0, _, _, h, _ => by cases h
  | f + 1, i, k, h, hd => by
    simp only [reach, Bool.or_eq_true, List.any_eq_true, Bool.and_eq_true] at h
    rcases h with ⟨j, hj, hk⟩ | ⟨j, hj, _, hr⟩
    · rw [← Nat.eq_of_beq_eq_true hk]; exact hd j hj
    · exact reach_sound hE f j k hr (fun x hx => hE j (hd j hj) x hx)
def pairsOk (ops : Array Oper) : Nat → Tr → Nat → List Tr → Bool
  | _, _, _, [] => true
  | i, t, k, u :: r => (!conf u t || reach ops (i + 1) i k) && pairsOk ops i t (k + 1) r
/-- Whoever meets in a key stands in a fixed order; nobody waits for what stands behind. -/
def ordB (ops : Array Oper) (tr : List Tr) : Bool :=
  tr.zipIdx.all (fun x => pairsOk ops x.2 x.1 0 (tr.take x.2)) && (List.range ops.size).all fun i => (deps ops i).all fun j => Nat.blt j i
theorem pairsOk_spec {ops : Array Oper} {i : Nat} {t : Tr} : ∀ (r : List Tr) (k0 : Nat), pairsOk ops i t k0 r = true → ∀ (k : Nat) (u : Tr), r[k]? = some u → conf u t = true → reach ops (i + 1) i (k0 + k) = true
  | [], _, _, k, u, hu, _ => by simp at hu
  | v :: r, k0, h, k, u, hu, hc => by
    simp only [pairsOk, Bool.and_eq_true] at h
    cases k with
    | zero =>
      simp at hu; subst hu
      have := h.1; simp only [hc, Bool.not_true, Bool.false_or] at this
      simpa using this
    | succ k =>
      have := pairsOk_spec r (k0 + 1) h.2 k u (by simpa using hu) hc
      rw [show k0 + (k + 1) = k0 + 1 + k from by omega]; exact this
theorem ordB_spec {ops : Array Oper} {tr : List Tr} (h : ordB ops tr = true) :
    (∀ i k, k < i → i < tr.length → conf (tr.getD k default) (tr.getD i default) = true → reach ops (i + 1) i k = true) ∧ ∀ i, ∀ j ∈ deps ops i, j < i := by
  simp only [ordB, Bool.and_eq_true, List.all_eq_true] at h
  refine ⟨fun i k hk hi hc => ?_, fun i j hj => ?_⟩
  · have h1 := h.1 (tr[i], i) (by
      rw [List.mem_iff_getElem]
      exact ⟨i, by simpa using hi, by simp⟩)
    have := pairsOk_spec _ 0 h1 k (tr[k]'(by omega)) (by rw [List.getElem?_take, if_pos hk]; exact List.getElem?_eq_getElem (by omega)) (by
      simp only [List.getD_eq_getElem?_getD, List.getElem?_eq_getElem (show k < tr.length by omega), List.getElem?_eq_getElem hi, Option.getD_some] at hc; exact hc)
    simpa using this
  · by_cases hi : i < ops.size
    · have := h.2 i (List.mem_range.2 hi) j hj
      simpa [Nat.blt_eq] using this
    · unfold deps at hj
      rw [Array.getElem?_eq_none (by omega)] at hj
      cases hj

theorem ready_iff {ops : Array Oper} {listed : Array Bool} {i : Nat} (h : i ∈ Region.ready .any ops listed) :
    i < ops.size ∧ listed.getD i true = false ∧ ∀ j ∈ deps ops i, listed.getD j false = true := by
  simp only [Region.ready, List.mem_filter, List.mem_range, Bool.and_eq_true, Bool.not_eq_true'] at h
  obtain ⟨h1, h2, h3⟩ := h
  refine ⟨h1, h2, fun j hj => ?_⟩
  unfold deps at hj
  rw [Array.getElem?_eq_getElem h1] at hj h3
  simp only [List.mem_map, List.mem_filter] at hj
  obtain ⟨e, ⟨he, hb⟩, rfl⟩ := hj
  simp only [Option.map_some, Option.getD_some] at h3
  have := Array.all_eq_true_iff_forall_mem.1 h3 e (by simpa using he)
  simpa [hb] using this
theorem ready_of {ops : Array Oper} {listed : Array Bool} {i : Nat} (h1 : i < ops.size) (h2 : listed.getD i true = false) (h3 : ∀ j ∈ deps ops i, listed.getD j false = true) : i ∈ Region.ready .any ops listed := by
  simp only [Region.ready, List.mem_filter, List.mem_range, Bool.and_eq_true, Bool.not_eq_true']
  refine ⟨h1, h2, ?_⟩
  unfold deps at h3
  rw [Array.getElem?_eq_getElem h1] at h3 ⊢
  simp only [Option.map_some, Option.getD_some]
  refine Array.all_eq_true_iff_forall_mem.2 fun e he => ?_
  cases hb : Region.binds .any e with
  | false => rfl
  | true => simpa using h3 e.on (List.mem_map.2 ⟨e, List.mem_filter.2 ⟨by simpa using he, hb⟩, rfl⟩)

def unlisted (listed : Array Bool) (n : Nat) : Nat := (List.range n).countP fun i => !listed.getD i false
theorem unlisted_set {listed : Array Bool} {n i : Nat} (hs : listed.size = n) (hi : i < n) (h : listed.getD i false = false) : unlisted (listed.setIfInBounds i true) n + 1 = unlisted listed n := by
  unfold unlisted
  have hsplit : List.range n = List.range i ++ i :: (List.range' (i + 1) (n - i - 1)) := by
    rw [List.range_eq_range', List.range_eq_range', show i :: List.range' (i + 1) (n - i - 1) = List.range' i (n - i - 1 + 1) from by rw [List.range'_succ], show n - i - 1 + 1 = n - i from by omega]
    have := List.range'_append (s := 0) (m := i) (n := n - i) (step := 1)
    simp only [Nat.one_mul, Nat.zero_add] at this
    rw [this, show i + (n - i) = n from by omega]
  have hsame : ∀ j, j ≠ i → (listed.setIfInBounds i true).getD j false = listed.getD j false := fun j hj => by
    simp only [Array.getD_eq_getD_getElem?, Array.getElem?_setIfInBounds]
    rw [if_neg (fun e => hj e.symm)]
  have hsame2 : (listed.setIfInBounds i true).getD i false = true := by
    simp only [Array.getD_eq_getD_getElem?, Array.getElem?_setIfInBounds]
    rw [if_pos trivial, if_pos (by omega)]; rfl
  rw [hsplit, List.countP_append, List.countP_append, List.countP_cons, List.countP_cons, hsame2, h]
  have e1 : (List.range i).countP (fun j => !(listed.setIfInBounds i true).getD j false) = (List.range i).countP (fun j => !listed.getD j false) :=
    List.countP_congr fun j hj => by rw [hsame j (by have := List.mem_range.1 hj; omega)]
  have e2 : (List.range' (i + 1) (n - i - 1)).countP (fun j => !(listed.setIfInBounds i true).getD j false) = (List.range' (i + 1) (n - i - 1)).countP (fun j => !listed.getD j false) :=
    List.countP_congr fun j hj => by rw [hsame j (by have := (List.mem_range'.1 hj); obtain ⟨x, hx, rfl⟩ := this; omega)]
  rw [e1, e2]
  simp; omega

/-- In whatever order: what the text comes to. -/
theorem any_of {ops : Array Oper} {tr : List Tr} {s0 : Sf} {Q : Exit → Act → World → Prop} (hlen : tr.length = ops.size) (hord : ordB ops tr = true)
    (hT : ∀ i, i < ops.size → LocalI c F nn ops i (stAt s0 (fun j => tr.getD j default) (fun _ => true) i) (tr.getD i default))
    (hcl : ∀ i, i < ops.size → Cl (stAt s0 (fun j => tr.getD j default) (fun _ => true) i))
    (hfin : ∀ e a w, Real c (stAt s0 (fun j => tr.getD j default) (fun _ => true) ops.size) e a w → Q .normal a w) :
    ∀ (fuel : Nat) (listed : Array Bool) (e : Env) (a : Act) (w : World), listed.size = ops.size → unlisted listed ops.size ≤ fuel → Shut ops (fun j => listed.getD j false) →
      Real c (stAt s0 (fun j => tr.getD j default) (fun j => listed.getD j false) ops.size) e a w → wpAnyIn F nn c.P .any ops Q fuel listed a w := by
  obtain ⟨hconf, hdown⟩ := ordB_spec hord
  have hget : ∀ (l : Array Bool) i, i < ops.size → l.size = ops.size → l.getD i true = l.getD i false := fun l i hi hl => by
    simp [Array.getD_eq_getD_getElem?, Array.getElem?_eq_getElem (show i < l.size by omega)]
  have hdone : ∀ (listed : Array Bool) (e : Env) (a : Act) (w : World), listed.size = ops.size → (∀ i, i < ops.size → listed.getD i false = true) → Real c (stAt s0 (fun j => tr.getD j default) (fun j => listed.getD j false) ops.size) e a w → Q .normal a w := by
    intro listed e a w hs hall hR
    refine hfin e a w ?_
    have : stAt s0 (fun j => tr.getD j default) (fun j => listed.getD j false) ops.size = stAt s0 (fun j => tr.getD j default) (fun _ => true) ops.size := by
      funext q; exact stAt_congr _ fun k hk _ => hall k hk
    rw [← this]; exact hR
  intro fuel
  induction fuel with
  | zero =>
    intro listed e a w hs hu hsh hR
    have hall : ∀ i, i < ops.size → listed.getD i false = true := fun i hi => by
      have h0 : unlisted listed ops.size = 0 := by omega
      have := List.countP_eq_zero.1 h0 i (List.mem_range.2 hi)
      simpa using this
    refine ⟨?_, hdone listed e a w hs hall hR⟩
    cases hr : Region.ready .any ops listed with
    | nil => rfl
    | cons i r =>
      have := ready_iff (show i ∈ Region.ready .any ops listed from by rw [hr]; exact List.mem_cons_self)
      rw [hget listed i this.1 hs, hall i this.1] at this
      exact absurd this.2.1 (by simp)
  | succ fuel ih =>
    intro listed e a w hs hu hsh hR
    refine ⟨fun hnil => hdone listed e a w hs (fun i => ?_) hR, fun i hi => ?_⟩
    · induction i using Nat.strongRecOn with
      | _ i ihi =>
        intro hi
        cases hl : listed.getD i false with
        | true => rfl
        | false =>
          have : i ∈ Region.ready .any ops listed := ready_of hi (by rw [hget listed i hi hs, hl]) (fun j hj => ihi j (hdown i j hj) (by have := hdown i j hj; omega))
          rw [hnil] at this; cases this
    · obtain ⟨hin, hno, hdeps⟩ := ready_iff hi
      rw [hget listed i hin hs] at hno
      have hmeet : ∀ k, k < ops.size → k ≠ i → conf (tr.getD k default) (tr.getD i default) = true → listed.getD k false = decide (k < i) := by
        intro k hk hne hc
        by_cases hlt : k < i
        · have h1 := hconf i k hlt (by omega) hc
          rw [reach_sound hsh _ _ _ h1 hdeps]; simp [hlt]
        · have h1 := hconf k i (by omega) (by omega) (conf_comm hc)
          cases hl : listed.getD k false with
          | false => simp [hlt]
          | true =>
            have := reach_sound hsh _ _ _ h1 (fun j hj => hsh k hl j hj)
            simp only [hno] at this; cases this
      refine hT i hin (hcl i hin) Q _ e a w _ ?_ hR ?_
      · intro q hq
        have e1 : stAt s0 (fun j => tr.getD j default) (fun j => listed.getD j false) ops.size q = stAt s0 (fun j => tr.getD j default) (fun j => decide (j < i)) ops.size q := by
          refine stAt_congr _ fun k hk hw => ?_
          by_cases hne : k = i
          · subst hne; simp [hno]
          · exact hmeet k hk hne (by simp only [conf, rdMeet_of hw hq, Bool.true_or])
        rw [e1]
        have e2 : ∀ n, i + n ≤ ops.size → stAt s0 (fun j => tr.getD j default) (fun j => decide (j < i)) (i + n) q = stAt s0 (fun j => tr.getD j default) (fun j => decide (j < i)) i q := by
          intro n
          induction n with
          | zero => intro _; rfl
          | succ n ihn =>
            intro hn
            show (bif decide (i + n < i) then _ else _ : Sf) q = _
            rw [show decide (i + n < i) = false from by simp]
            exact ihn (by omega)
        have e3 := e2 (ops.size - i) (by omega)
        rw [show i + (ops.size - i) = ops.size from by omega] at e3
        rw [e3]
        exact stAt_congr _ fun k hk _ => by simp [hk]
      · intro e' a' w' hR'
        have hE : ∀ j, (listed.setIfInBounds i true).getD j false = (decide (j = i) || listed.getD j false) := fun j => by
          by_cases hj : j = i
          · subst hj; simp [Array.getD_eq_getD_getElem?, Array.getElem?_setIfInBounds, hs, hin]
          · simp only [Array.getD_eq_getD_getElem?, Array.getElem?_setIfInBounds]
            rw [if_neg (fun e => hj e.symm)]; simp [hj]
        refine ih (listed.setIfInBounds i true) e' a' w' (by simpa using hs) (by have := unlisted_set hs hin hno; omega) ?_ ?_
        · intro j hj k hk
          simp only [hE, Bool.or_eq_true, decide_eq_true_eq] at hj ⊢
          rcases hj with rfl | hj
          · exact .inr (hdeps k hk)
          · exact .inr (hsh j hj k hk)
        · have hst : upd (stAt s0 (fun j => tr.getD j default) (fun j => listed.getD j false) ops.size) (tr.getD i default).ws = stAt s0 (fun j => tr.getD j default) (fun j => (listed.setIfInBounds i true).getD j false) ops.size := by
            funext q
            cases hw : lookW (tr.getD i default).ws q with
            | none =>
              simp only [upd, hw, Option.none_or]
              refine stAt_congr _ fun k hk hk2 => ?_
              rw [hE]
              by_cases hki : k = i
              · subst hki; rw [hw] at hk2; cases hk2
              · simp [hki]
            | some x =>
              simp only [upd, hw, Option.some_or]
              have e1 : stAt s0 (fun j => tr.getD j default) (fun j => (listed.setIfInBounds i true).getD j false) ops.size q = stAt s0 (fun j => tr.getD j default) (fun j => decide (j ≤ i)) ops.size q := by
                refine stAt_congr _ fun k hk hk2 => ?_
                rw [hE]
                by_cases hki : k = i
                · subst hki; simp
                · have := hmeet k hk hki (by
                    simp only [conf]
                    rw [keysMeet_of hk2 (show q ∈ (tr.getD i default).ws.map (·.1) from List.mem_map.2 ⟨_, look_mem hw, rfl⟩)]; simp)
                  rw [this]
                  by_cases hlt : k < i
                  · simp [hlt, show k ≤ i from by omega]
                  · simp [hki, show ¬ k ≤ i from by omega, hlt]
              have e2 : ∀ n, i + 1 + n ≤ ops.size → stAt s0 (fun j => tr.getD j default) (fun j => decide (j ≤ i)) (i + 1 + n) q = stAt s0 (fun j => tr.getD j default) (fun j => decide (j ≤ i)) (i + 1) q := by
                intro n
                induction n with
                | zero => intro _; rfl
                | succ n ihn =>
                  intro hn
                  show (bif decide (i + 1 + n ≤ i) then _ else _ : Sf) q = _
                  rw [show decide (i + 1 + n ≤ i) = false from by simp; omega]
                  exact ihn (by omega)
              have e3 := e2 (ops.size - (i + 1)) (by omega)
              rw [show i + 1 + (ops.size - (i + 1)) = ops.size from by omega] at e3
              rw [e1, e3]
              simp only [stAt, show decide (i ≤ i) = true from by simp, cond_true, upd, hw, Option.some_or]
          rw [← hst]; exact hR'
/-- What an operation may come to, it comes to. -/
theorem wpOpIn_ex {P : Program} {ops : Array Oper} {i : Nat} {K : Act → World → Prop} {a : Act} {w : World} (hr : ∀ k, F.room k) (h : wpOpIn F nn P ops (fun _ _ _ => False) i K a w) : ∃ a' w', K a' w' := by
  unfold wpOpIn at h
  split at h
  · exact ⟨_, _, h⟩
  · rename_i o ho
    split at h
    · unfold Oper.wpIn at h
      have h := h.2
      unfold Oper.uponIn at h
      split at h
      · exact ⟨_, _, h⟩
      · exact ⟨_, _, h⟩
      · exact ⟨_, _, h⟩
      · obtain ⟨e, w', fr, hR, _⟩ := h.2.2 [] (hr _)
        cases e with
        | returned v => exact ⟨_, _, hR⟩
        | panicked ch => exact hR.elim
        | outgrown => obtain ⟨_, _, hq⟩ := hR; exact hq.elim
      · obtain ⟨v, w', hR, _⟩ := h.2 default [] (hr _)
        exact ⟨_, _, hR⟩
      · obtain ⟨e, w', hR, _⟩ := h.2.2 default [] (hr _)
        cases e with
        | returned v => exact ⟨_, _, hR⟩
        | panicked ch => exact hR.elim
        | outgrown => obtain ⟨_, _, hq⟩ := hR; exact hq.elim
      · exact h.elim
      · exact h.elim
    · exact ⟨_, _, h.2⟩
/-- The states of the text are met. -/
theorem met {ops : Array Oper} {tr : List Tr} {s0 : Sf} (hr : ∀ k, F.room k) (hT : ∀ i, i < ops.size → LocalI c F nn ops i (stAt s0 (fun j => tr.getD j default) (fun _ => true) i) (tr.getD i default)) {e : Env} {a : Act} {w : World} (hR : Real c s0 e a w) :
    ∀ i, i ≤ ops.size → ∃ e a w, Real c (stAt s0 (fun j => tr.getD j default) (fun _ => true) i) e a w
  | 0, _ => ⟨e, a, w, hR⟩
  | i + 1, hi => by
    obtain ⟨e, a, w, h⟩ := met hr hT hR i (by omega)
    have h1 := hT i (by omega) h.W.cl (fun _ _ _ => False) _ e a w (fun a' w' => ∃ e', Real c (stAt s0 (fun j => tr.getD j default) (fun _ => true) (i + 1)) e' a' w') (fun _ _ => rfl) h (fun e' a' w' h' => ⟨e', by simpa [stAt] using h'⟩)
    obtain ⟨a', w', e', h2⟩ := wpOpIn_ex hr h1
    exact ⟨e', a', w', h2⟩
/-- In the order of the text. -/
theorem text_of {ops : Array Oper} {tr : List Tr} {s0 : Sf} {Q : Exit → Act → World → Prop} (hT : ∀ i, i < ops.size → LocalI c F nn ops i (stAt s0 (fun j => tr.getD j default) (fun _ => true) i) (tr.getD i default))
    (hfin : ∀ e a w, Real c (stAt s0 (fun j => tr.getD j default) (fun _ => true) ops.size) e a w → Q .normal a w) :
    ∀ (n i : Nat) (e : Env) (a : Act) (w : World), i + n = ops.size → Real c (stAt s0 (fun j => tr.getD j default) (fun _ => true) i) e a w → wpOpsIn F nn c.P ops Q (List.range' i n) a w
  | 0, i, e, a, w, hi, hR => hfin e a w (by rw [← hi]; exact hR)
  | n + 1, i, e, a, w, hi, hR => by
    rw [List.range'_succ, wpOpsIn_cons]
    refine hT i (by omega) hR.W.cl Q _ e a w _ (fun _ _ => rfl) hR fun e' a' w' hR' => text_of hT hfin n (i + 1) e' a' w' (by omega) ?_
    simpa [stAt] using hR'

/-- The first i operations have been gone through. -/
inductive Pre (c : Ctx) (F : Fence) (nn : Nat) (ops : Array Oper) (σ0 : Sf) : Nat → Sf → List Tr → Prop
  | nil : Pre c F nn ops σ0 0 σ0 []
  | cons {i : Nat} {σ : Sf} {tr : List Tr} {t : Tr} : Pre c F nn ops σ0 i σ tr → i < ops.size → LocalI c F nn ops i σ t → Pre c F nn ops σ0 (i + 1) (upd σ t.ws) (t :: tr)
theorem Pre.spec {ops : Array Oper} {σ0 : Sf} {i : Nat} {σ : Sf} {tr : List Tr} (h : Pre c F nn ops σ0 i σ tr) :
    tr.length = i ∧ i ≤ ops.size ∧ σ = stAt σ0 (fun j => tr.reverse.getD j default) (fun _ => true) i ∧ ∀ j, j < i → LocalI c F nn ops j (stAt σ0 (fun j => tr.reverse.getD j default) (fun _ => true) j) (tr.reverse.getD j default) := by
  induction h with
  | nil => exact ⟨rfl, Nat.zero_le _, rfl, fun j hj => absurd hj (by omega)⟩
  | @cons i σ tr t hp hlt0 hl ih =>
    obtain ⟨h1, h1', h2, h3⟩ := ih
    have hlt : ∀ k, k < i → tr.reverse.getD k default = (t :: tr).reverse.getD k default := fun k hk => by
      simp only [List.reverse_cons, List.getD_eq_getElem?_getD]
      rw [List.getElem?_append_left (by simp; omega)]
    have hat : (t :: tr).reverse.getD i default = t := by
      simp only [List.reverse_cons, List.getD_eq_getElem?_getD]
      rw [List.getElem?_append_right (by simp; omega)]
      simp [h1]
    have hst : ∀ j, j ≤ i → stAt σ0 (fun j => (t :: tr).reverse.getD j default) (fun _ => true) j = stAt σ0 (fun j => tr.reverse.getD j default) (fun _ => true) j := fun j hj =>
      stAt_tr j fun k hk => (hlt k (by omega)).symm
    refine ⟨by simp [h1], by omega, ?_, ?_⟩
    · simp only [stAt, cond_true]
      rw [hst i (Nat.le_refl _), ← h2, hat]
    · intro j hj
      rw [hst j (by omega)]
      by_cases hji : j = i
      · subst hji; rw [hat, ← h2]; exact hl
      · rw [← hlt j (by omega)]; exact h3 j (by omega)

/-- What is owed of a region's rest. -/
structure RW (c : Ctx) (F : Fence) (nn : Nat) (id : Nat) (ops : Array Oper) (draw : Bool) (Q : Exit → Act → World → Prop) (σ0 : Sf) (i : Nat) (rest : List Oper) (σ : Sf) (tr : List Tr) : Prop where
  go : (∀ j, rest[j]? = ops[i + j]?) → Pre c F nn ops σ0 i σ tr → ∀ e a w, Real c σ0 e a w → (Code.region id ops draw).wpIn F nn c.P Q a w
structure CW (c : Ctx) (F : Fence) (nn : Nat) (code : Code) (Q : Exit → Act → World → Prop) (σ : Sf) : Prop where
  go : ∀ e a w, Real c σ e a w → code.wpIn F nn c.P Q a w
structure KW (c : Ctx) (K : Act → World → Prop) (σ : Sf) : Prop where
  go : ∀ e a w, Real c σ e a w → K a w
theorem RealW.drawn {s : Sf} {e : Env} {w : World} (h : RealW c s e w) (n : Nat) : RealW c s e { w with drawn := n } :=
  ⟨h.blk, h.sep, h.own, h.cl, h.given, h.os, h.tape, h.output, h.size, h.old⟩
theorem Real.drawn {s : Sf} {e : Env} {a : Act} {w : World} (h : Real c s e a w) (n : Nat) : Real c s e a { w with drawn := n } :=
  ⟨h.W.drawn n, h.defers, h.fml, h.slots, h.tmp⟩
theorem RW_end_draw {id : Nat} {ops : Array Oper} {Q : Exit → Act → World → Prop} {σ0 σ : Sf} {i : Nat} {tr : List Tr} (hr : ∀ k, F.room k) (hm : c.P.follows .mixedOrders = true) (ho : ordB ops tr.reverse = true) (hK : KW c (Q .normal) σ) :
    RW c F nn id ops true Q σ0 i [] σ tr := by
  refine ⟨?_⟩
  intro hrest hpre e a w hR
  obtain ⟨h1, h1', h2, h3⟩ := hpre.spec
  have hi : i = ops.size := by
    have := hrest 0
    simp at this
    omega
  subst hi
  refine wpIn_region_any hm ?_
  refine any_of (tr := tr.reverse) (s0 := σ0) (by simpa using h1) ho h3 (fun i hi => by obtain ⟨e', a', w', h⟩ := met hr h3 hR i (by omega); exact h.W.cl) (fun e' a' w' hR' => hK.go e' a' w' (by rw [h2]; exact hR')) ops.size (Array.replicate ops.size false) e a _ (by simp) ?_ ?_ ?_
  · exact Nat.le_trans List.countP_le_length (by simp)
  · intro j hj
    simp only [Array.getD_eq_getD_getElem?] at hj
    by_cases hlt : j < ops.size
    · simp [hlt] at hj
    · simp [hlt] at hj
  · have e : stAt σ0 (fun j => tr.reverse.getD j default) (fun j => (Array.replicate ops.size false).getD j false) ops.size = σ0 := by
      have : ∀ n, stAt σ0 (fun j => tr.reverse.getD j default) (fun j => (Array.replicate ops.size false).getD j false) n = σ0 := by
        intro n
        induction n with
        | zero => rfl
        | succ n ih =>
          simp only [stAt]
          rw [show (Array.replicate ops.size false).getD n false = false from by
            simp only [Array.getD_eq_getD_getElem?]
            by_cases hlt : n < ops.size <;> simp [hlt]]
          exact ih
      exact this _
    rw [e]; exact hR.drawn _
theorem RW_end {id : Nat} {ops : Array Oper} {Q : Exit → Act → World → Prop} {σ0 σ : Sf} {i : Nat} {tr : List Tr} (hK : KW c (Q .normal) σ) :
    RW c F nn id ops false Q σ0 i [] σ tr := by
  refine ⟨?_⟩
  intro hrest hpre e a w hR
  obtain ⟨h1, h1', h2, h3⟩ := hpre.spec
  obtain rfl : i = ops.size := by
    have := hrest 0
    simp at this
    omega
  refine wpIn_region ?_
  have := text_of (tr := tr.reverse) (s0 := σ0) (Q := Q) h3 (fun e' a' w' hR' => hK.go e' a' w' (by rw [h2]; exact hR')) ops.size 0 e a w (by omega) hR
  rw [List.range_eq_range']; exact this
theorem CW_region {id : Nat} {ops : Array Oper} {draw : Bool} {Q : Exit → Act → World → Prop} {σ : Sf} {l : List Oper} (hl : ops.toList = l) (h : RW c F nn id ops draw Q σ 0 l σ []) : CW c F nn (.region id ops draw) Q σ :=
  ⟨h.go (fun j => by rw [← hl]; simp) Pre.nil⟩
theorem RW_step {id : Nat} {ops : Array Oper} {draw : Bool} {Q : Exit → Act → World → Prop} {σ0 σ : Sf} {i : Nat} {o : Oper} {rest : List Oper} {tr : List Tr} {t : Tr}
    (hL : ops[i]? = some o → LocalI c F nn ops i σ t) (h : RW c F nn id ops draw Q σ0 (i + 1) rest (upd σ t.ws) (t :: tr)) : RW c F nn id ops draw Q σ0 i (o :: rest) σ tr := by
  refine ⟨?_⟩
  intro hrest hpre
  have ho : ops[i]? = some o := by
    have := hrest 0
    simpa using this.symm
  refine h.go (fun j => ?_) (hpre.cons (Array.getElem?_eq_some_iff.1 ho).1 (hL ho))
  have := hrest (j + 1)
  rw [show i + 1 + j = i + (j + 1) from by omega]; simpa using this
end
end Go.Proofs.Ytbjogekhedglgaa.EV
