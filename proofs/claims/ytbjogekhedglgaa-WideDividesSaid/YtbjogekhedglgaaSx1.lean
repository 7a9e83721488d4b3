/- States as lists: what a frame and the blocks of a call hold, said by names; a region whose order is open comes to what its text comes to. No program in sight. -/
import Derived.Test.YtbjogekhedglgaaLib
namespace Go.Proofs.Ytbjogekhedglgaa.SX
open Go.RowKit

/-- What one cell holds: a plain value, a pointer into a named block, a slice of one, a function that keeps such pointers. -/
inductive C where
  | v (x : Value)
  | p (n off : Nat)
  | s (n off len cap : Nat)
  | f (g : FuncId) (caps : List (Nat × Nat))
def C.den (ids : Nat → Nat) : C → Value
  | .v x => x
  | .p n o => .pointer (some ⟨ids n, o, none⟩)
  | .s n o l k => .slice (some ⟨ids n, o, none⟩) l k
  | .f g caps => .func (.func g) #[] (caps.map fun q => Value.pointer (some ⟨ids q.1, q.2, none⟩)).toArray
def C.names : C → List Nat
  | .v _ => []
  | .p n _ => [n]
  | .s n _ _ _ => [n]
  | .f _ caps => caps.map (·.1)
/-- What a slot holds. -/
inductive V where
  | c (x : C)
  | a (l : List C)
  | t (l : List (C ⊕ List C))
def denP (ids : Nat → Nat) : C ⊕ List C → Value
  | .inl x => x.den ids
  | .inr l => .agg (l.map (C.den ids)).toArray
def namesP : C ⊕ List C → List Nat
  | .inl x => x.names
  | .inr l => l.flatMap C.names
def V.den (ids : Nat → Nat) : V → Value
  | .c x => x.den ids
  | .a l => .agg (l.map (C.den ids)).toArray
  | .t l => .tuple (l.map (denP ids)).toArray
def V.names : V → List Nat
  | .c x => x.names
  | .a l => l.flatMap C.names
  | .t l => l.flatMap namesP
/-- Where something is held: a slot, a cell of a named block, the block itself. -/
inductive Key where
  | t (i : Nat)
  | c (n off : Nat)
  | b (n : Nat)
  deriving DecidableEq
def Key.beq : Key → Key → Bool
  | .t i, .t j => Nat.beq i j
  | .c n o, .c m q => Nat.beq n m && Nat.beq o q
  | .b n, .b m => Nat.beq n m
  | _, _ => false
theorem Key.beq_iff (a b : Key) : a.beq b = true ↔ a = b := by
  cases a <;> cases b <;> simp [Key.beq]
theorem Key.beq_refl (a : Key) : a.beq a = true := (Key.beq_iff a a).2 rfl
inductive KV where
  | v (x : V)
  | c (x : C)
  | b (ty : TypeId) (k : Nat)
def KV.names : KV → List Nat
  | .v x => x.names
  | .c x => x.names
  | .b _ _ => []
abbrev Ws := List (Key × KV)
/-- A state: batches, the newest first. -/
abbrev St := List Ws
abbrev Sf := Key → Option KV
def lookW : Ws → Sf
  | [], _ => none
  | (k, x) :: r, q => bif Key.beq k q then some x else lookW r q
def lookOr : Ws → Key → Option KV → Option KV
  | [], _, z => z
  | (k, x) :: r, q, z => bif Key.beq k q then some x else lookOr r q z
def look : St → Sf
  | [], _ => none
  | ws :: r, q => lookOr ws q (look r q)
def upd (s : Sf) (ws : Ws) : Sf := fun q => (lookW ws q).or (s q)
theorem lookOr_eq (q : Key) (z : Option KV) : ∀ ws, lookOr ws q z = (lookW ws q).or z
  | [] => by simp [lookOr, lookW]
  | (k, x) :: r => by
    simp only [lookOr, lookW]
    cases h : Key.beq k q with
    | true => simp
    | false => simpa using lookOr_eq q z r
theorem look_append (ws : Ws) (σ : St) : look (ws :: σ) = upd (look σ) ws := by
  funext q
  simp only [look, upd, lookOr_eq]
theorem look_mem {ws : Ws} {q : Key} {x : KV} (h : lookW ws q = some x) : (q, x) ∈ ws := by
  induction ws with
  | nil => cases h
  | cons y r ih =>
    obtain ⟨k, y⟩ := y
    simp only [lookW] at h
    cases hk : Key.beq k q with
    | true =>
      rw [hk] at h
      simp only [cond_true, Option.some.injEq] at h
      rw [(Key.beq_iff _ _).1 hk, h]; exact List.mem_cons_self
    | false => rw [hk] at h; exact List.mem_cons_of_mem _ (ih h)
theorem look_isSome {ws : Ws} {q : Key} : (lookW ws q).isSome = ws.any fun x => Key.beq x.1 q := by
  induction ws with
  | nil => rfl
  | cons y r ih =>
    obtain ⟨k, y⟩ := y
    simp only [lookW, List.any_cons]
    cases hk : Key.beq k q with
    | true => simp
    | false => simpa using ih
def live (s : Sf) (n : Nat) : Prop := ∃ t k, s (.b n) = some (.b t k)

/-- What does not change in a walk: the program, the blocks that were handed in, the world at the start, how many slots. -/
structure Ctx where
  P : Program
  m : Nat
  ini : Nat → Nat
  w0 : World
  N : Nat
  mks : List Nat
/-- The mark that a range over a function leaves. -/
def mark1 (D : Nat) : Deferred := { target := .collected D, args := #[] }
def Ctx.B (c : Ctx) : Nat := c.w0.heap.size

/-- The world part of 'the state s stands'. -/
structure RealW (c : Ctx) (s : Sf) (ids : Nat → Nat) (w : World) : Prop where
  cell : ∀ n o x, s (.c n o) = some (.c x) → w.cell? ⟨ids n, o, none⟩ = some (x.den ids)
  blk : ∀ n t k, s (.b n) = some (.b t k) → ∃ cs, w.heap[ids n]? = some (.cells cs t (0, 0)) ∧ cs.size = k
  inj : ∀ n n', live s n → live s n' → ids n = ids n' → n = n'
  given : ∀ n, n < c.m → ids n = c.ini n
  own : ∀ n, c.m ≤ n → live s n → c.B ≤ ids n
  closed : ∀ q x, s q = some x → ∀ n ∈ x.names, live s n
  cellLive : ∀ n o x, s (.c n o) = some x → live s n
  os : w.os = c.w0.os
  tape : w.tape = c.w0.tape
  output : w.output = c.w0.output
  size : c.B ≤ w.heap.size
  old : ∀ k, k < c.B → (∀ n, n < c.m → c.ini n ≠ k) → w.heap[k]? = c.w0.heap[k]?
  marks : ∀ D ∈ c.mks, w.heap[D]? = some (.deferred (some []))
structure Real (c : Ctx) (s : Sf) (ids : Nat → Nat) (a : Act) (w : World) : Prop where
  W : RealW c s ids w
  defers : a.defers = c.mks.map mark1
  slots : a.tmps.size = c.N
  tmp : ∀ i v, s (.t i) = some (.v v) → a.tmps[i]? = some (v.den ids)

/-- What an operation reads, and what it leaves. -/
structure Tr where
  rd : List Key
  ws : Ws
instance : Inhabited Tr := ⟨⟨[], []⟩⟩
section
variable {c : Ctx} {F : Fence} {nn : Nat}
/-- Operation i, in every state that holds what it reads, leaves just that. -/
def LocalI (c : Ctx) (F : Fence) (nn : Nat) (ops : Array Oper) (i : Nat) (σ : Sf) (t : Tr) : Prop :=
  ∀ (Q : Exit → Act → World → Prop) (s : Sf) (ids : Nat → Nat) (a : Act) (w : World) (K : Act → World → Prop), (∀ q ∈ t.rd, s q = σ q) → Real c s ids a w →
    (∀ ids' a' w', Real c (upd s t.ws) ids' a' w' → K a' w') → wpOpIn F nn c.P ops Q i K a w
/-- The state when of the first j operations those of E are done. -/
def stAt (s0 : Sf) (T : Nat → Tr) (E : Nat → Bool) : Nat → Sf
  | 0 => s0
  | j + 1 => bif E j then upd (stAt s0 T E j) (T j).ws else stAt s0 T E j
theorem stAt_congr {s0 : Sf} {T : Nat → Tr} {E E' : Nat → Bool} {q : Key} : ∀ j, (∀ k, k < j → (lookW (T k).ws q).isSome = true → E k = E' k) → stAt s0 T E j q = stAt s0 T E' j q
  | 0, _ => rfl
  | j + 1, h => by
    have ih := stAt_congr (s0 := s0) (T := T) (E := E) (E' := E') (q := q) j (fun k hk => h k (by omega))
    have hj := h j (by omega)
    simp only [stAt]
    cases hw : lookW (T j).ws q with
    | some x =>
      rw [hw] at hj
      rw [hj rfl]
      cases E' j with
      | true => simp [upd, hw]
      | false => simpa using ih
    | none =>
      cases E j <;> cases E' j <;> simp [upd, hw, ih]
theorem stAt_tr {s0 : Sf} {T T' : Nat → Tr} {E : Nat → Bool} : ∀ j, (∀ k, k < j → T k = T' k) → stAt s0 T E j = stAt s0 T' E j
  | 0, _ => rfl
  | j + 1, h => by
    have ih := stAt_tr (s0 := s0) (T := T) (T' := T') (E := E) j (fun k hk => h k (by omega))
    simp only [stAt, ih, h j (by omega)]

def keysMeet (ws : Ws) (ks : List Key) : Bool := ws.any fun x => ks.any fun q => Key.beq x.1 q
/-- Does one write what the other reads or writes? -/
def conf (a b : Tr) : Bool := keysMeet a.ws b.rd || keysMeet b.ws a.rd || keysMeet a.ws (b.ws.map (·.1))
theorem keysMeet_of {ws : Ws} {ks : List Key} {q : Key} (h : (lookW ws q).isSome = true) (hq : q ∈ ks) : keysMeet ws ks = true := by
  rw [look_isSome, List.any_eq_true] at h
  obtain ⟨x, hx, hk⟩ := h
  exact List.any_eq_true.2 ⟨x, hx, List.any_eq_true.2 ⟨q, hq, hk⟩⟩
theorem conf_comm {a b : Tr} (h : conf a b = true) : conf b a = true := by
  have e : keysMeet b.ws (a.ws.map (·.1)) = keysMeet a.ws (b.ws.map (·.1)) := by
    rw [Bool.eq_iff_iff]
    simp only [keysMeet, List.any_eq_true, List.mem_map, Key.beq_iff]
    constructor
    · rintro ⟨x, hx, _, ⟨y, hy, rfl⟩, h⟩; exact ⟨y, hy, _, ⟨x, hx, rfl⟩, h.symm⟩
    · rintro ⟨x, hx, _, ⟨y, hy, rfl⟩, h⟩; exact ⟨y, hy, _, ⟨x, hx, rfl⟩, h.symm⟩
  simp only [conf, e, Bool.or_eq_true] at h ⊢
  rcases h with (h | h) | h
  · exact .inl (.inr h)
  · exact .inl (.inl h)
  · exact .inr h
def deps (ops : Array Oper) (i : Nat) : List Nat := match ops[i]? with
  | some o => (o.after.toList.filter (Region.binds .any ·)).map (·.on)
  | none => []
/-- Must k be done when i is done? -/
def reach (ops : Array Oper) : Nat → Nat → Nat → Bool
  | 0, _, _ => false
  | f + 1, i, k => (deps ops i).any (fun j => Nat.beq j k) || (deps ops i).any (fun j => Nat.ble (k + 1) j && reach ops f j k)
def Shut (ops : Array Oper) (E : Nat → Bool) : Prop := ∀ i, E i = true → ∀ j ∈ deps ops i, E j = true
theorem reach_sound {ops : Array Oper} {E : Nat → Bool} (hE : Shut ops E) : ∀ (f i k : Nat), reach ops f i k = true → (∀ j ∈ deps ops i, E j = true) → E k = true
  | 0, _, _, h, _ => by cases h
  | f + 1, i, k, h, hd => by
    simp only [reach, Bool.or_eq_true, List.any_eq_true, Bool.and_eq_true] at h
    rcases h with ⟨j, hj, hk⟩ | ⟨j, hj, _, hr⟩
    · rw [← Nat.eq_of_beq_eq_true hk]; exact hd j hj
    · exact reach_sound hE f j k hr (fun x hx => hE j (hd j hj) x hx)
def pairsOk (ops : Array Oper) (tr : List Tr) : Nat → Tr → Nat → List Tr → Bool
  | _, _, _, [] => true
  | i, t, k, u :: r => (!conf u t || reach ops (i + 1) i k) && pairsOk ops tr i t (k + 1) r
/-- Whoever meets in a key stands in a fixed order; nobody waits for what stands behind. -/
def ordB (ops : Array Oper) (tr : List Tr) : Bool :=
  tr.zipIdx.all (fun x => pairsOk ops tr x.2 x.1 0 (tr.take x.2)) && (List.range ops.size).all fun i => (deps ops i).all fun j => Nat.blt j i
theorem pairsOk_spec {ops : Array Oper} {tr : List Tr} {i : Nat} {t : Tr} : ∀ (r : List Tr) (k0 : Nat), pairsOk ops tr i t k0 r = true → ∀ (k : Nat) (u : Tr), r[k]? = some u → conf u t = true → reach ops (i + 1) i (k0 + k) = true
  | [], _, _, k, u, hu, _ => by simp at hu
  | v :: r, k0, h, k, u, hu, hc => by
    simp only [pairsOk, Bool.and_eq_true] at h
    cases k with
    | zero =>
      simp at hu; subst hu
      have := h.1; simp only [hc, Bool.not_true, Bool.false_or] at this
      simpa using this
    | succ k =>
      have := pairsOk_spec r (k0 + 1) h.2 k u (by simpa using hu) hc
      rw [show k0 + (k + 1) = k0 + 1 + k from by omega]; exact this
theorem ordB_spec {ops : Array Oper} {tr : List Tr} (h : ordB ops tr = true) :
    (∀ i k, k < i → i < tr.length → conf (tr.getD k default) (tr.getD i default) = true → reach ops (i + 1) i k = true) ∧ ∀ i, ∀ j ∈ deps ops i, j < i := by
  simp only [ordB, Bool.and_eq_true, List.all_eq_true] at h
  refine ⟨fun i k hk hi hc => ?_, fun i j hj => ?_⟩
  · have h1 := h.1 (tr[i], i) (by
      rw [List.mem_iff_getElem]
      exact ⟨i, by simpa using hi, by simp⟩)
    have := pairsOk_spec _ 0 h1 k (tr[k]'(by omega)) (by rw [List.getElem?_take, if_pos hk]; exact List.getElem?_eq_getElem (by omega)) (by
      simp only [List.getD_eq_getElem?_getD, List.getElem?_eq_getElem (show k < tr.length by omega), List.getElem?_eq_getElem hi, Option.getD_some] at hc; exact hc)
    simpa using this
  · by_cases hi : i < ops.size
    · have := h.2 i (List.mem_range.2 hi) j hj
      simpa [Nat.blt_eq] using this
    · unfold deps at hj
      rw [Array.getElem?_eq_none (by omega)] at hj
      cases hj

theorem ready_iff {ops : Array Oper} {listed : Array Bool} {i : Nat} (h : i ∈ Region.ready .any ops listed) :
    i < ops.size ∧ listed.getD i true = false ∧ ∀ j ∈ deps ops i, listed.getD j false = true := by
  simp only [Region.ready, List.mem_filter, List.mem_range, Bool.and_eq_true, Bool.not_eq_true'] at h
  obtain ⟨h1, h2, h3⟩ := h
  refine ⟨h1, h2, fun j hj => ?_⟩
  unfold deps at hj
  rw [Array.getElem?_eq_getElem h1] at hj h3
  simp only [List.mem_map, List.mem_filter] at hj
  obtain ⟨e, ⟨he, hb⟩, rfl⟩ := hj
  simp only [Option.map_some, Option.getD_some] at h3
  have := Array.all_eq_true_iff_forall_mem.1 h3 e (by simpa using he)
  simpa [hb] using this
theorem ready_of {ops : Array Oper} {listed : Array Bool} {i : Nat} (h1 : i < ops.size) (h2 : listed.getD i true = false) (h3 : ∀ j ∈ deps ops i, listed.getD j false = true) : i ∈ Region.ready .any ops listed := by
  simp only [Region.ready, List.mem_filter, List.mem_range, Bool.and_eq_true, Bool.not_eq_true']
  refine ⟨h1, h2, ?_⟩
  unfold deps at h3
  rw [Array.getElem?_eq_getElem h1] at h3 ⊢
  simp only [Option.map_some, Option.getD_some]
  refine Array.all_eq_true_iff_forall_mem.2 fun e he => ?_
  cases hb : Region.binds .any e with
  | false => rfl
  | true => simpa using h3 e.on (List.mem_map.2 ⟨e, List.mem_filter.2 ⟨by simpa using he, hb⟩, rfl⟩)

def unlisted (listed : Array Bool) (n : Nat) : Nat := (List.range n).countP fun i => !listed.getD i false
theorem unlisted_set {listed : Array Bool} {n i : Nat} (hs : listed.size = n) (hi : i < n) (h : listed.getD i false = false) : unlisted (listed.setIfInBounds i true) n + 1 = unlisted listed n := by
  unfold unlisted
  have hsplit : List.range n = List.range i ++ i :: (List.range' (i + 1) (n - i - 1)) := by
    rw [List.range_eq_range', List.range_eq_range', show i :: List.range' (i + 1) (n - i - 1) = List.range' i (n - i - 1 + 1) from by rw [List.range'_succ], show n - i - 1 + 1 = n - i from by omega]
    have := List.range'_append (s := 0) (m := i) (n := n - i) (step := 1)
    simp only [Nat.one_mul, Nat.zero_add] at this
    rw [this, show i + (n - i) = n from by omega]
  have hsame : ∀ j, j ≠ i → (listed.setIfInBounds i true).getD j false = listed.getD j false := fun j hj => by
    simp only [Array.getD_eq_getD_getElem?, Array.getElem?_setIfInBounds]
    rw [if_neg (fun e => hj e.symm)]
  have hsame2 : (listed.setIfInBounds i true).getD i false = true := by
    simp only [Array.getD_eq_getD_getElem?, Array.getElem?_setIfInBounds]
    rw [if_pos trivial, if_pos (by omega)]; rfl
  rw [hsplit, List.countP_append, List.countP_append, List.countP_cons, List.countP_cons, hsame2, h]
  have e1 : (List.range i).countP (fun j => !(listed.setIfInBounds i true).getD j false) = (List.range i).countP (fun j => !listed.getD j false) :=
    List.countP_congr fun j hj => by rw [hsame j (by have := List.mem_range.1 hj; omega)]
  have e2 : (List.range' (i + 1) (n - i - 1)).countP (fun j => !(listed.setIfInBounds i true).getD j false) = (List.range' (i + 1) (n - i - 1)).countP (fun j => !listed.getD j false) :=
    List.countP_congr fun j hj => by rw [hsame j (by have := (List.mem_range'.1 hj); obtain ⟨x, hx, rfl⟩ := this; omega)]
  rw [e1, e2]
  simp; omega

/-- In whatever order: what the text comes to. -/
theorem any_of {ops : Array Oper} {tr : List Tr} {s0 : Sf} {Q : Exit → Act → World → Prop} (hlen : tr.length = ops.size) (hord : ordB ops tr = true)
    (hT : ∀ i, i < ops.size → LocalI c F nn ops i (stAt s0 (fun j => tr.getD j default) (fun _ => true) i) (tr.getD i default))
    (hfin : ∀ ids a w, Real c (stAt s0 (fun j => tr.getD j default) (fun _ => true) ops.size) ids a w → Q .normal a w) :
    ∀ (fuel : Nat) (listed : Array Bool) (ids : Nat → Nat) (a : Act) (w : World), listed.size = ops.size → unlisted listed ops.size ≤ fuel → Shut ops (fun j => listed.getD j false) →
      Real c (stAt s0 (fun j => tr.getD j default) (fun j => listed.getD j false) ops.size) ids a w → wpAnyIn F nn c.P .any ops Q fuel listed a w := by
  obtain ⟨hconf, hdown⟩ := ordB_spec hord
  have hget : ∀ (l : Array Bool) i, i < ops.size → l.size = ops.size → l.getD i true = l.getD i false := fun l i hi hl => by
    simp [Array.getD_eq_getD_getElem?, Array.getElem?_eq_getElem (show i < l.size by omega)]
  have hdone : ∀ (listed : Array Bool) (ids : Nat → Nat) (a : Act) (w : World), listed.size = ops.size → (∀ i, i < ops.size → listed.getD i false = true) → Real c (stAt s0 (fun j => tr.getD j default) (fun j => listed.getD j false) ops.size) ids a w → Q .normal a w := by
    intro listed ids a w hs hall hR
    refine hfin ids a w ?_
    have : stAt s0 (fun j => tr.getD j default) (fun j => listed.getD j false) ops.size = stAt s0 (fun j => tr.getD j default) (fun _ => true) ops.size := by
      funext q; exact stAt_congr _ fun k hk _ => hall k hk
    rw [← this]; exact hR
  intro fuel
  induction fuel with
  | zero =>
    intro listed ids a w hs hu hsh hR
    have hall : ∀ i, i < ops.size → listed.getD i false = true := fun i hi => by
      have h0 : unlisted listed ops.size = 0 := by omega
      have := List.countP_eq_zero.1 h0 i (List.mem_range.2 hi)
      simpa using this
    refine ⟨?_, hdone listed ids a w hs hall hR⟩
    cases hr : Region.ready .any ops listed with
    | nil => rfl
    | cons i r =>
      have := ready_iff (show i ∈ Region.ready .any ops listed from by rw [hr]; exact List.mem_cons_self)
      rw [hget listed i this.1 hs, hall i this.1] at this
      exact absurd this.2.1 (by simp)
  | succ fuel ih =>
    intro listed ids a w hs hu hsh hR
    refine ⟨fun hnil => hdone listed ids a w hs (fun i => ?_) hR, fun i hi => ?_⟩
    · induction i using Nat.strongRecOn with
      | _ i ihi =>
        intro hi
        cases hl : listed.getD i false with
        | true => rfl
        | false =>
          have : i ∈ Region.ready .any ops listed := ready_of hi (by rw [hget listed i hi hs, hl]) (fun j hj => ihi j (hdown i j hj) (by have := hdown i j hj; omega))
          rw [hnil] at this; cases this
    · obtain ⟨hin, hno, hdeps⟩ := ready_iff hi
      rw [hget listed i hin hs] at hno
      have hmeet : ∀ k, k < ops.size → k ≠ i → conf (tr.getD k default) (tr.getD i default) = true → listed.getD k false = decide (k < i) := by
        intro k hk hne hc
        by_cases hlt : k < i
        · have h1 := hconf i k hlt (by omega) hc
          rw [reach_sound hsh _ _ _ h1 hdeps]; simp [hlt]
        · have h1 := hconf k i (by omega) (by omega) (conf_comm hc)
          cases hl : listed.getD k false with
          | false => simp [hlt]
          | true =>
            have := reach_sound hsh _ _ _ h1 (fun j hj => hsh k hl j hj)
            simp only [hno] at this; cases this
      refine hT i hin Q _ ids a w _ ?_ hR ?_
      · intro q hq
        have e1 : stAt s0 (fun j => tr.getD j default) (fun j => listed.getD j false) ops.size q = stAt s0 (fun j => tr.getD j default) (fun j => decide (j < i)) ops.size q := by
          refine stAt_congr _ fun k hk hw => ?_
          by_cases hne : k = i
          · subst hne; simp [hno]
          · exact hmeet k hk hne (by simp only [conf, keysMeet_of hw hq, Bool.true_or])
        rw [e1]
        have e2 : ∀ n, i + n ≤ ops.size → stAt s0 (fun j => tr.getD j default) (fun j => decide (j < i)) (i + n) q = stAt s0 (fun j => tr.getD j default) (fun j => decide (j < i)) i q := by
          intro n
          induction n with
          | zero => intro _; rfl
          | succ n ihn =>
            intro hn
            show (bif decide (i + n < i) then _ else _ : Sf) q = _
            rw [show decide (i + n < i) = false from by simp]
            exact ihn (by omega)
        have e3 := e2 (ops.size - i) (by omega)
        rw [show i + (ops.size - i) = ops.size from by omega] at e3
        rw [e3]
        exact stAt_congr _ fun k hk _ => by simp [hk]
      · intro ids' a' w' hR'
        have hE : ∀ j, (listed.setIfInBounds i true).getD j false = (decide (j = i) || listed.getD j false) := fun j => by
          by_cases hj : j = i
          · subst hj; simp [Array.getD_eq_getD_getElem?, Array.getElem?_setIfInBounds, hs, hin]
          · simp only [Array.getD_eq_getD_getElem?, Array.getElem?_setIfInBounds]
            rw [if_neg (fun e => hj e.symm)]; simp [hj]
        refine ih (listed.setIfInBounds i true) ids' a' w' (by simpa using hs) (by have := unlisted_set hs hin hno; omega) ?_ ?_
        · intro j hj k hk
          simp only [hE, Bool.or_eq_true, decide_eq_true_eq] at hj ⊢
          rcases hj with rfl | hj
          · exact .inr (hdeps k hk)
          · exact .inr (hsh j hj k hk)
        · have hst : upd (stAt s0 (fun j => tr.getD j default) (fun j => listed.getD j false) ops.size) (tr.getD i default).ws = stAt s0 (fun j => tr.getD j default) (fun j => (listed.setIfInBounds i true).getD j false) ops.size := by
            funext q
            cases hw : lookW (tr.getD i default).ws q with
            | none =>
              simp only [upd, hw, Option.none_or]
              refine stAt_congr _ fun k hk hk2 => ?_
              rw [hE]
              by_cases hki : k = i
              · subst hki; rw [hw] at hk2; cases hk2
              · simp [hki]
            | some x =>
              simp only [upd, hw, Option.some_or]
              have e1 : stAt s0 (fun j => tr.getD j default) (fun j => (listed.setIfInBounds i true).getD j false) ops.size q = stAt s0 (fun j => tr.getD j default) (fun j => decide (j ≤ i)) ops.size q := by
                refine stAt_congr _ fun k hk hk2 => ?_
                rw [hE]
                by_cases hki : k = i
                · subst hki; simp
                · have := hmeet k hk hki (by
                    simp only [conf]
                    rw [keysMeet_of hk2 (show q ∈ (tr.getD i default).ws.map (·.1) from List.mem_map.2 ⟨_, look_mem hw, rfl⟩)]; simp)
                  rw [this]
                  by_cases hlt : k < i
                  · simp [hlt, show k ≤ i from by omega]
                  · simp [hki, show ¬ k ≤ i from by omega, hlt]
              have e2 : ∀ n, i + 1 + n ≤ ops.size → stAt s0 (fun j => tr.getD j default) (fun j => decide (j ≤ i)) (i + 1 + n) q = stAt s0 (fun j => tr.getD j default) (fun j => decide (j ≤ i)) (i + 1) q := by
                intro n
                induction n with
                | zero => intro _; rfl
                | succ n ihn =>
                  intro hn
                  show (bif decide (i + 1 + n ≤ i) then _ else _ : Sf) q = _
                  rw [show decide (i + 1 + n ≤ i) = false from by simp; omega]
                  exact ihn (by omega)
              have e3 := e2 (ops.size - (i + 1)) (by omega)
              rw [show i + 1 + (ops.size - (i + 1)) = ops.size from by omega] at e3
              rw [e1, e3]
              simp only [stAt, show decide (i ≤ i) = true from by simp, cond_true, upd, hw, Option.some_or]
          rw [← hst]; exact hR'
/-- In the order of the text. -/
theorem text_of {ops : Array Oper} {tr : List Tr} {s0 : Sf} {Q : Exit → Act → World → Prop} (hT : ∀ i, i < ops.size → LocalI c F nn ops i (stAt s0 (fun j => tr.getD j default) (fun _ => true) i) (tr.getD i default))
    (hfin : ∀ ids a w, Real c (stAt s0 (fun j => tr.getD j default) (fun _ => true) ops.size) ids a w → Q .normal a w) :
    ∀ (n i : Nat) (ids : Nat → Nat) (a : Act) (w : World), i + n = ops.size → Real c (stAt s0 (fun j => tr.getD j default) (fun _ => true) i) ids a w → wpOpsIn F nn c.P ops Q (List.range' i n) a w
  | 0, i, ids, a, w, hi, hR => hfin ids a w (by rw [← hi]; exact hR)
  | n + 1, i, ids, a, w, hi, hR => by
    rw [List.range'_succ, wpOpsIn_cons]
    refine hT i (by omega) Q _ ids a w _ (fun _ _ => rfl) hR fun ids' a' w' hR' => text_of hT hfin n (i + 1) ids' a' w' (by omega) ?_
    simpa [stAt] using hR'

/-- The first i operations have been gone through. -/
inductive Pre (c : Ctx) (F : Fence) (nn : Nat) (ops : Array Oper) (σ0 : St) : Nat → St → List Tr → Prop
  | nil : Pre c F nn ops σ0 0 σ0 []
  | cons {i : Nat} {σ : St} {tr : List Tr} {t : Tr} : Pre c F nn ops σ0 i σ tr → i < ops.size → LocalI c F nn ops i (look σ) t → Pre c F nn ops σ0 (i + 1) (t.ws :: σ) (t :: tr)
theorem Pre.spec {ops : Array Oper} {σ0 : St} {i : Nat} {σ : St} {tr : List Tr} (h : Pre c F nn ops σ0 i σ tr) :
    tr.length = i ∧ i ≤ ops.size ∧ look σ = stAt (look σ0) (fun j => tr.reverse.getD j default) (fun _ => true) i ∧ ∀ j, j < i → LocalI c F nn ops j (stAt (look σ0) (fun j => tr.reverse.getD j default) (fun _ => true) j) (tr.reverse.getD j default) := by
  induction h with
  | nil => exact ⟨rfl, Nat.zero_le _, rfl, fun j hj => absurd hj (by omega)⟩
  | @cons i σ tr t hp hlt0 hl ih =>
    obtain ⟨h1, h1', h2, h3⟩ := ih
    have hlt : ∀ k, k < i → tr.reverse.getD k default = (t :: tr).reverse.getD k default := fun k hk => by
      simp only [List.reverse_cons, List.getD_eq_getElem?_getD]
      rw [List.getElem?_append_left (by simp; omega)]
    have hat : (t :: tr).reverse.getD i default = t := by
      simp only [List.reverse_cons, List.getD_eq_getElem?_getD]
      rw [List.getElem?_append_right (by simp; omega)]
      simp [h1]
    have hst : ∀ j, j ≤ i → stAt (look σ0) (fun j => (t :: tr).reverse.getD j default) (fun _ => true) j = stAt (look σ0) (fun j => tr.reverse.getD j default) (fun _ => true) j := fun j hj =>
      stAt_tr j fun k hk => (hlt k (by omega)).symm
    refine ⟨by simp [h1], by omega, ?_, ?_⟩
    · simp only [stAt, cond_true]
      rw [hst i (Nat.le_refl _), ← h2, hat, look_append]
    · intro j hj
      rw [hst j (by omega)]
      by_cases hji : j = i
      · subst hji; rw [hat, ← h2]; exact hl
      · rw [← hlt j (by omega)]; exact h3 j (by omega)

/-- What is owed of a region's rest. -/
structure RW (c : Ctx) (F : Fence) (nn : Nat) (id : Nat) (ops : Array Oper) (draw : Bool) (Q : Exit → Act → World → Prop) (σ0 : St) (i : Nat) (rest : List Oper) (σ : St) (tr : List Tr) (sup : List Nat) : Prop where
  go : (∀ j, rest[j]? = ops[i + j]?) → Pre c F nn ops σ0 i σ tr → ∀ ids a w, Real c (look σ0) ids a w → (Code.region id ops draw).wpIn F nn c.P Q a w
structure CW (c : Ctx) (F : Fence) (nn : Nat) (code : Code) (Q : Exit → Act → World → Prop) (σ : St) (sup : List Nat) : Prop where
  go : ∀ ids a w, Real c (look σ) ids a w → code.wpIn F nn c.P Q a w
structure KW (c : Ctx) (K : Act → World → Prop) (σ : St) (sup : List Nat) : Prop where
  go : ∀ ids a w, Real c (look σ) ids a w → K a w
theorem Real.drawn {s : Sf} {ids : Nat → Nat} {a : Act} {w : World} (h : Real c s ids a w) (n : Nat) : Real c s ids a { w with drawn := n } :=
  ⟨⟨h.W.cell, h.W.blk, h.W.inj, h.W.given, h.W.own, h.W.closed, h.W.cellLive, h.W.os, h.W.tape, h.W.output, h.W.size, h.W.old, h.W.marks⟩, h.defers, h.slots, h.tmp⟩

theorem RW_end_draw {id : Nat} {ops : Array Oper} {Q : Exit → Act → World → Prop} {σ0 σ : St} {i : Nat} {tr : List Tr} {sup : List Nat} (hm : c.P.follows .mixedOrders = true) (ho : ordB ops tr.reverse = true) (hK : KW c (Q .normal) σ sup) :
    RW c F nn id ops true Q σ0 i [] σ tr sup := by
  refine ⟨?_⟩
  intro hrest hpre ids a w hR
  obtain ⟨h1, h1', h2, h3⟩ := hpre.spec
  have hi : i = ops.size := by
    have := hrest 0
    simp at this
    omega
  subst hi
  refine wpIn_region_any hm ?_
  refine any_of (tr := tr.reverse) (s0 := look σ0) (by simpa using h1) ho h3 (fun ids' a' w' hR' => hK.go ids' a' w' (by rw [h2]; exact hR')) ops.size (Array.replicate ops.size false) ids a _ (by simp) ?_ ?_ ?_
  · exact Nat.le_trans List.countP_le_length (by simp)
  · intro j hj
    simp only [Array.getD_eq_getD_getElem?] at hj
    by_cases hlt : j < ops.size
    · simp [hlt] at hj
    · simp [hlt] at hj
  · have e : stAt (look σ0) (fun j => tr.reverse.getD j default) (fun j => (Array.replicate ops.size false).getD j false) ops.size = look σ0 := by
      have : ∀ n, stAt (look σ0) (fun j => tr.reverse.getD j default) (fun j => (Array.replicate ops.size false).getD j false) n = look σ0 := by
        intro n
        induction n with
        | zero => rfl
        | succ n ih =>
          simp only [stAt]
          rw [show (Array.replicate ops.size false).getD n false = false from by
            simp only [Array.getD_eq_getD_getElem?]
            by_cases hlt : n < ops.size <;> simp [hlt]]
          exact ih
      exact this _
    rw [e]; exact hR.drawn _
theorem RW_end {id : Nat} {ops : Array Oper} {Q : Exit → Act → World → Prop} {σ0 σ : St} {i : Nat} {tr : List Tr} {sup : List Nat} (hK : KW c (Q .normal) σ sup) :
    RW c F nn id ops false Q σ0 i [] σ tr sup := by
  refine ⟨?_⟩
  intro hrest hpre ids a w hR
  obtain ⟨h1, h1', h2, h3⟩ := hpre.spec
  obtain rfl : i = ops.size := by
    have := hrest 0
    simp at this
    omega
  refine wpIn_region ?_
  have := text_of (tr := tr.reverse) (s0 := look σ0) (Q := Q) h3 (fun ids' a' w' hR' => hK.go ids' a' w' (by rw [h2]; exact hR')) ops.size 0 ids a w (by omega) hR
  rw [List.range_eq_range']; exact this
theorem CW_region {id : Nat} {ops : Array Oper} {draw : Bool} {Q : Exit → Act → World → Prop} {σ : St} {l : List Oper} {sup : List Nat} (hl : ops.toList = l) (h : RW c F nn id ops draw Q σ 0 l σ [] sup) : CW c F nn (.region id ops draw) Q σ sup :=
  ⟨h.go (fun j => by rw [← hl]; simp) Pre.nil⟩
theorem RW_step {id : Nat} {ops : Array Oper} {draw : Bool} {Q : Exit → Act → World → Prop} {σ0 σ : St} {i : Nat} {o : Oper} {rest : List Oper} {tr : List Tr} {t : Tr} {sup sup' : List Nat}
    (hL : ops[i]? = some o → LocalI c F nn ops i (look σ) t) (h : RW c F nn id ops draw Q σ0 (i + 1) rest (t.ws :: σ) (t :: tr) sup') : RW c F nn id ops draw Q σ0 i (o :: rest) σ tr sup := by
  refine ⟨?_⟩
  intro hrest hpre
  have ho : ops[i]? = some o := by
    have := hrest 0
    simpa using this.symm
  refine h.go (fun j => ?_) (hpre.cons (Array.getElem?_eq_some_iff.1 ho).1 (hL ho))
  have := hrest (j + 1)
  rw [show i + 1 + j = i + (j + 1) from by omega]; simpa using this
end
end Go.Proofs.Ytbjogekhedglgaa.SX
