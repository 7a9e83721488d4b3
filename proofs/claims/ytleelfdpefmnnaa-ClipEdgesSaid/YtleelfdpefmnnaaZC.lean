/- States as lists: what a frame and the blocks of a call hold, said by names; a region whose order is open comes to what its text comes to. No program in sight. Walking by states: what each operation leaves of a state. No program in sight. Walking by states: the rules, operation by operation, and the code around them. No program in sight. Walking by states: the rules of the operations, one by one. No program in sight. -/
import Derived.Test.YtleelfdpefmnnaaZA
namespace Go.Proofs.Ytleelfdpefmnnaa.SX
open Go.RowKit

/-- What one cell holds: a plain value, a pointer into a named block, a slice of one, a function that keeps such pointers. -/
inductive C where
  | v (x : Value)
  | p (n off : Nat)
  | s (n off len cap : Nat)
  | f (g : FuncId) (caps : List (Nat × Nat))
def C.den (ids : Nat → Nat) : C → Value
  | .v x => x
  | .p n o => .pointer (some ⟨ids n, o, none⟩)
  | .s n o l k => .slice (some ⟨ids n, o, none⟩) l k
  | .f g caps => .func (.func g) #[] (caps.map fun q => Value.pointer (some ⟨ids q.1, q.2, none⟩)).toArray
def C.names : C → List Nat
  | .v _ => []
  | .p n _ => [n]
  | .s n _ _ _ => [n]
  | .f _ caps => caps.map (·.1)
/-- What a slot holds. -/
inductive V where
  | c (x : C)
  | a (l : List C)
  | t (l : List (C ⊕ List C))
def denP (ids : Nat → Nat) : C ⊕ List C → Value
  | .inl x => x.den ids
  | .inr l => .agg (l.map (C.den ids)).toArray
def namesP : C ⊕ List C → List Nat
  | .inl x => x.names
  | .inr l => l.flatMap C.names
def V.den (ids : Nat → Nat) : V → Value
  | .c x => x.den ids
  | .a l => .agg (l.map (C.den ids)).toArray
  | .t l => .tuple (l.map (denP ids)).toArray
def V.names : V → List Nat
  | .c x => x.names
  | .a l => l.flatMap C.names
  | .t l => l.flatMap namesP
/-- Where something is held: a slot, a cell of a named block, the block itself. -/
inductive Key where
  | t (i : Nat)
  | c (n off : Nat)
  | b (n : Nat)
  deriving DecidableEq
def Key.beq : Key → Key → Bool
  | .t i, .t j => Nat.beq i j
  | .c n o, .c m q => Nat.beq n m && Nat.beq o q
  | .b n, .b m => Nat.beq n m
  | _, _ => false
theorem Key.beq_iff (a b : Key) : a.beq b = true ↔ a = b := by
  cases a <;> cases b <;> simp [Key.beq]
theorem Key.beq_refl (a : Key) : a.beq a = true := (Key.beq_iff a a).2 rfl
inductive KV where
  | v (x : V)
  | c (x : C)
  | b (ty : TypeId) (k : Nat)
def KV.names : KV → List Nat
  | .v x => x.names
  | .c x => x.names
  | .b _ _ => []
abbrev Ws := List (Key × KV)
/-- A state: batches, the newest first. -/
abbrev St := List Ws
abbrev Sf := Key → Option KV
def lookW : Ws → Sf
  | [], _ => none
  | (k, x) :: r, q => bif Key.beq k q then some x else lookW r q
def lookOr : Ws → Key → Option KV → Option KV
  | [], _, z => z
  | (k, x) :: r, q, z => bif Key.beq k q then some x else lookOr r q z
def look : St → Sf
  | [], _ => none
  | ws :: r, q => lookOr ws q (look r q)
def upd (s : Sf) (ws : Ws) : Sf := fun q => (lookW ws q).or (s q)
theorem lookOr_eq (q : Key) (z : Option KV) : ∀ ws, lookOr ws q z = (lookW ws q).or z
  | [] => by simp [lookOr, lookW]
  | (k, x) :: r => by
    simp only [lookOr, lookW]
    cases h : Key.beq k q with
    | true => simp
    | false => simpa using lookOr_eq q z r
theorem look_append (ws : Ws) (σ : St) : look (ws :: σ) = upd (look σ) ws := by
  funext q
  simp only [look, upd, lookOr_eq]
theorem look_mem {ws : Ws} {q : Key} {x : KV} (h : lookW ws q = some x) : (q, x) ∈ ws := by
  induction ws with
  | nil => cases h
  | cons y r ih =>
    obtain ⟨k, y⟩ := y
    simp only [lookW] at h
    cases hk : Key.beq k q with
    | true =>
      rw [hk] at h
      simp only [cond_true, Option.some.injEq] at h
      rw [(Key.beq_iff _ _).1 hk, h]; exact List.mem_cons_self
    | false => rw [hk] at h; exact List.mem_cons_of_mem _ (ih h)
theorem look_isSome {ws : Ws} {q : Key} : (lookW ws q).isSome = ws.any fun x => Key.beq x.1 q := by
  induction ws with
  | nil => rfl
  | cons y r ih =>
    obtain ⟨k, y⟩ := y
    simp only [lookW, List.any_cons]
    cases hk : Key.beq k q with
    | true => simp
    | false => simpa using ih
def live (s : Sf) (n : Nat) : Prop := ∃ t k, s (.b n) = some (.b t k)

/-- What does not change in a walk: the program, the blocks that were handed in, the world at the start, how many slots. -/
structure Ctx where
  P : Program
  m : Nat
  ini : Nat → Nat
  w0 : World
  N : Nat
  mks : List Nat
/-- The mark that a range over a function leaves. -/
def mark1 (D : Nat) : Deferred := { target := .collected D, args := #[] }
def Ctx.B (c : Ctx) : Nat := c.w0.heap.size

/-- The world part of 'the state s stands'. -/
structure RealW (c : Ctx) (s : Sf) (ids : Nat → Nat) (w : World) : Prop where
  cell : ∀ n o x, s (.c n o) = some (.c x) → w.cell? ⟨ids n, o, none⟩ = some (x.den ids)
  blk : ∀ n t k, s (.b n) = some (.b t k) → ∃ cs, w.heap[ids n]? = some (.cells cs t (0, 0)) ∧ cs.size = k
  inj : ∀ n n', live s n → live s n' → ids n = ids n' → n = n'
  given : ∀ n, n < c.m → ids n = c.ini n
  own : ∀ n, c.m ≤ n → live s n → c.B ≤ ids n
  closed : ∀ q x, s q = some x → ∀ n ∈ x.names, live s n
  cellLive : ∀ n o x, s (.c n o) = some x → live s n
  os : w.os = c.w0.os
  tape : w.tape = c.w0.tape
  output : w.output = c.w0.output
  size : c.B ≤ w.heap.size
  old : ∀ k, k < c.B → (∀ n, n < c.m → c.ini n ≠ k) → w.heap[k]? = c.w0.heap[k]?
  marks : ∀ D ∈ c.mks, w.heap[D]? = some (.deferred (some []))
structure Real (c : Ctx) (s : Sf) (ids : Nat → Nat) (a : Act) (w : World) : Prop where
  W : RealW c s ids w
  defers : a.defers = c.mks.map mark1
  slots : a.tmps.size = c.N
  tmp : ∀ i v, s (.t i) = some (.v v) → a.tmps[i]? = some (v.den ids)

/-- What an operation reads, and what it leaves. -/
structure Tr where
  rd : List Key
  ws : Ws
instance : Inhabited Tr := ⟨⟨[], []⟩⟩
section
variable {c : Ctx} {F : Fence} {nn : Nat}
/-- Operation i, in every state that holds what it reads, leaves just that. -/
def LocalI (c : Ctx) (F : Fence) (nn : Nat) (ops : Array Oper) (i : Nat) (σ : Sf) (t : Tr) : Prop :=
  ∀ (Q : Exit → Act → World → Prop) (s : Sf) (ids : Nat → Nat) (a : Act) (w : World) (K : Act → World → Prop), (∀ q ∈ t.rd, s q = σ q) → Real c s ids a w →
    (∀ ids' a' w', Real c (upd s t.ws) ids' a' w' → K a' w') → wpOpIn F nn c.P ops Q i K a w
/-- The state when of the first j operations those of E are done. -/
def stAt (s0 : Sf) (T : Nat → Tr) (E : Nat → Bool) : Nat → Sf
  | 0 => s0
  | j + 1 => bif E j then upd (stAt s0 T E j) (T j).ws else stAt s0 T E j
theorem stAt_congr {s0 : Sf} {T : Nat → Tr} {E E' : Nat → Bool} {q : Key} : ∀ j, (∀ k, k < j → (lookW (T k).ws q).isSome = true → E k = E' k) → stAt s0 T E j q = stAt s0 T E' j q
  | 0, _ => rfl
  | j + 1, h => by
    have ih := stAt_congr (s0 := s0) (T := T) (E := E) (E' := E') (q := q) j (fun k hk => h k (by omega))
    have hj := h j (by omega)
    simp only [stAt]
    cases hw : lookW (T j).ws q with
    | some x =>
      rw [hw] at hj
      rw [hj rfl]
      cases E' j with
      | true => simp [upd, hw]
      | false => simpa using ih
    | none =>
      cases E j <;> cases E' j <;> simp [upd, hw, ih]
theorem stAt_tr {s0 : Sf} {T T' : Nat → Tr} {E : Nat → Bool} : ∀ j, (∀ k, k < j → T k = T' k) → stAt s0 T E j = stAt s0 T' E j
  | 0, _ => rfl
  | j + 1, h => by
    have ih := stAt_tr (s0 := s0) (T := T) (T' := T') (E := E) j (fun k hk => h k (by omega))
    simp only [stAt, ih, h j (by omega)]

def keysMeet (ws : Ws) (ks : List Key) : Bool := ws.any fun x => ks.any fun q => Key.beq x.1 q
/-- Does one write what the other reads or writes? -/
def conf (a b : Tr) : Bool := keysMeet a.ws b.rd || keysMeet b.ws a.rd || keysMeet a.ws (b.ws.map (·.1))
theorem keysMeet_of {ws : Ws} {ks : List Key} {q : Key} (h : (lookW ws q).isSome = true) (hq : q ∈ ks) : keysMeet ws ks = true := by
  rw [look_isSome, List.any_eq_true] at h
  obtain ⟨x, hx, hk⟩ := h
  exact List.any_eq_true.2 ⟨x, hx, List.any_eq_true.2 ⟨q, hq, hk⟩⟩
theorem conf_comm {a b : Tr} (h : conf a b = true) : conf b a = true := by
  have e : keysMeet b.ws (a.ws.map (·.1)) = keysMeet a.ws (b.ws.map (·.1)) := by
    rw [Bool.eq_iff_iff]
    simp only [keysMeet, List.any_eq_true, List.mem_map, Key.beq_iff]
    constructor
    · rintro ⟨x, hx, _, ⟨y, hy, rfl⟩, h⟩; exact ⟨y, hy, _, ⟨x, hx, rfl⟩, h.symm⟩
    · rintro ⟨x, hx, _, ⟨y, hy, rfl⟩, h⟩; exact ⟨y, hy, _, ⟨x, hx, rfl⟩, h.symm⟩
  simp only [conf, e, Bool.or_eq_true] at h ⊢
  rcases h with (h | h) | h
  · exact .inl (.inr h)
  · exact .inl (.inl h)
  · exact .inr h
def deps (ops : Array Oper) (i : Nat) : List Nat := match ops[i]? with
  | some o => (o.after.toList.filter (Region.binds .any ·)).map (·.on)
  | none => []
/-- Must k be done when i is done? -/
def reach (ops : Array Oper) : Nat → Nat → Nat → Bool
  | 0, _, _ => false
  | f + 1, i, k => (deps ops i).any (fun j => Nat.beq j k) || (deps ops i).any (fun j => Nat.ble (k + 1) j && reach ops f j k)
def Shut (ops : Array Oper) (E : Nat → Bool) : Prop := ∀ i, E i = true → ∀ j ∈ deps ops i, E j = true
theorem reach_sound {ops : Array Oper} {E : Nat → Bool} (hE : Shut ops E) : ∀ (f i k : Nat), reach ops f i k = true → (∀ j ∈ deps ops i, E j = true) → E k = true
  | 0, _, _, h, _ => by cases h
  | f + 1, i, k, h, hd => by
    simp only [reach, Bool.or_eq_true, List.any_eq_true, Bool.and_eq_true] at h
    rcases h with ⟨j, hj, hk⟩ | ⟨j, hj, _, hr⟩
    · rw [← Nat.eq_of_beq_eq_true hk]; exact hd j hj
    · exact reach_sound hE f j k hr (fun x hx => hE j (hd j hj) x hx)
def pairsOk (ops : Array Oper) (tr : List Tr) : Nat → Tr → Nat → List Tr → Bool
  | _, _, _, [] => true
  | i, t, k, u :: r => (!conf u t || reach ops (i + 1) i k) && pairsOk ops tr i t (k + 1) r
/-- Whoever meets in a key stands in a fixed order; nobody waits for what stands behind. -/
def ordB (ops : Array Oper) (tr : List Tr) : Bool :=
  tr.zipIdx.all (fun x => pairsOk ops tr x.2 x.1 0 (tr.take x.2)) && (List.range ops.size).all fun i => (deps ops i).all fun j => Nat.blt j i
theorem pairsOk_spec {ops : Array Oper} {tr : List Tr} {i : Nat} {t : Tr} : ∀ (r : List Tr) (k0 : Nat), pairsOk ops tr i t k0 r = true → ∀ (k : Nat) (u : Tr), r[k]? = some u → conf u t = true → reach ops (i + 1) i (k0 + k) = true
  | [], _, _, k, u, hu, _ => by simp at hu
  | v :: r, k0, h, k, u, hu, hc => by
    simp only [pairsOk, Bool.and_eq_true] at h
    cases k with
    | zero =>
      simp at hu; subst hu
      have := h.1; simp only [hc, Bool.not_true, Bool.false_or] at this
      simpa using this
    | succ k =>
      have := pairsOk_spec r (k0 + 1) h.2 k u (by simpa using hu) hc
      rw [show k0 + (k + 1) = k0 + 1 + k from by omega]; exact this
theorem ordB_spec {ops : Array Oper} {tr : List Tr} (h : ordB ops tr = true) :
    (∀ i k, k < i → i < tr.length → conf (tr.getD k default) (tr.getD i default) = true → reach ops (i + 1) i k = true) ∧ ∀ i, ∀ j ∈ deps ops i, j < i := by
  simp only [ordB, Bool.and_eq_true, List.all_eq_true] at h
  refine ⟨fun i k hk hi hc => ?_, fun i j hj => ?_⟩
  · have h1 := h.1 (tr[i], i) (by
      rw [List.mem_iff_getElem]
      exact ⟨i, by simpa using hi, by simp⟩)
    have := pairsOk_spec _ 0 h1 k (tr[k]'(by omega)) (by rw [List.getElem?_take, if_pos hk]; exact List.getElem?_eq_getElem (by omega)) (by
      simp only [List.getD_eq_getElem?_getD, List.getElem?_eq_getElem (show k < tr.length by omega), List.getElem?_eq_getElem hi, Option.getD_some] at hc; exact hc)
    simpa using this
  · by_cases hi : i < ops.size
    · have := h.2 i (List.mem_range.2 hi) j hj
      simpa [Nat.blt_eq] using this
    · unfold deps at hj
      rw [Array.getElem?_eq_none (by omega)] at hj
      cases hj

theorem ready_iff {ops : Array Oper} {listed : Array Bool} {i : Nat} (h : i ∈ Region.ready .any ops listed) :
    i < ops.size ∧ listed.getD i true = false ∧ ∀ j ∈ deps ops i, listed.getD j false = true := by
  simp only [Region.ready, List.mem_filter, List.mem_range, Bool.and_eq_true, Bool.not_eq_true'] at h
  obtain ⟨h1, h2, h3⟩ := h
  refine ⟨h1, h2, fun j hj => ?_⟩
  unfold deps at hj
  rw [Array.getElem?_eq_getElem h1] at hj h3
  simp only [List.mem_map, List.mem_filter] at hj
  obtain ⟨e, ⟨he, hb⟩, rfl⟩ := hj
  simp only [Option.map_some, Option.getD_some] at h3
  have := Array.all_eq_true_iff_forall_mem.1 h3 e (by simpa using he)
  simpa [hb] using this
theorem ready_of {ops : Array Oper} {listed : Array Bool} {i : Nat} (h1 : i < ops.size) (h2 : listed.getD i true = false) (h3 : ∀ j ∈ deps ops i, listed.getD j false = true) : i ∈ Region.ready .any ops listed := by
  simp only [Region.ready, List.mem_filter, List.mem_range, Bool.and_eq_true, Bool.not_eq_true']
  refine ⟨h1, h2, ?_⟩
  unfold deps at h3
  rw [Array.getElem?_eq_getElem h1] at h3 ⊢
  simp only [Option.map_some, Option.getD_some]
  refine Array.all_eq_true_iff_forall_mem.2 fun e he => ?_
  cases hb : Region.binds .any e with
  | false => rfl
  | true => simpa using h3 e.on (List.mem_map.2 ⟨e, List.mem_filter.2 ⟨by simpa using he, hb⟩, rfl⟩)

def unlisted (listed : Array Bool) (n : Nat) : Nat := (List.range n).countP fun i => !listed.getD i false
theorem unlisted_set {listed : Array Bool} {n i : Nat} (hs : listed.size = n) (hi : i < n) (h : listed.getD i false = false) : unlisted (listed.setIfInBounds i true) n + 1 = unlisted listed n := by
  unfold unlisted
  have hsplit : List.range n = List.range i ++ i :: (List.range' (i + 1) (n - i - 1)) := by
    rw [List.range_eq_range', List.range_eq_range', show i :: List.range' (i + 1) (n - i - 1) = List.range' i (n - i - 1 + 1) from by rw [List.range'_succ], show n - i - 1 + 1 = n - i from by omega]
    have := List.range'_append (s := 0) (m := i) (n := n - i) (step := 1)
    simp only [Nat.one_mul, Nat.zero_add] at this
    rw [this, show i + (n - i) = n from by omega]
  have hsame : ∀ j, j ≠ i → (listed.setIfInBounds i true).getD j false = listed.getD j false := fun j hj => by
    simp only [Array.getD_eq_getD_getElem?, Array.getElem?_setIfInBounds]
    rw [if_neg (fun e => hj e.symm)]
  have hsame2 : (listed.setIfInBounds i true).getD i false = true := by
    simp only [Array.getD_eq_getD_getElem?, Array.getElem?_setIfInBounds]
    rw [if_pos trivial, if_pos (by omega)]; rfl
  rw [hsplit, List.countP_append, List.countP_append, List.countP_cons, List.countP_cons, hsame2, h]
  have e1 : (List.range i).countP (fun j => !(listed.setIfInBounds i true).getD j false) = (List.range i).countP (fun j => !listed.getD j false) :=
    List.countP_congr fun j hj => by rw [hsame j (by have := List.mem_range.1 hj; omega)]
  have e2 : (List.range' (i + 1) (n - i - 1)).countP (fun j => !(listed.setIfInBounds i true).getD j false) = (List.range' (i + 1) (n - i - 1)).countP (fun j => !listed.getD j false) :=
    List.countP_congr fun j hj => by rw [hsame j (by have := (List.mem_range'.1 hj); obtain ⟨x, hx, rfl⟩ := this; omega)]
  rw [e1, e2]
  simp; omega

/-- In whatever order: what the text comes to. -/
theorem any_of {ops : Array Oper} {tr : List Tr} {s0 : Sf} {Q : Exit → Act → World → Prop} (hlen : tr.length = ops.size) (hord : ordB ops tr = true)
    (hT : ∀ i, i < ops.size → LocalI c F nn ops i (stAt s0 (fun j => tr.getD j default) (fun _ => true) i) (tr.getD i default))
    (hfin : ∀ ids a w, Real c (stAt s0 (fun j => tr.getD j default) (fun _ => true) ops.size) ids a w → Q .normal a w) :
    ∀ (fuel : Nat) (listed : Array Bool) (ids : Nat → Nat) (a : Act) (w : World), listed.size = ops.size → unlisted listed ops.size ≤ fuel → Shut ops (fun j => listed.getD j false) →
      Real c (stAt s0 (fun j => tr.getD j default) (fun j => listed.getD j false) ops.size) ids a w → wpAnyIn F nn c.P .any ops Q fuel listed a w := by
  obtain ⟨hconf, hdown⟩ := ordB_spec hord
  have hget : ∀ (l : Array Bool) i, i < ops.size → l.size = ops.size → l.getD i true = l.getD i false := fun l i hi hl => by
    simp [Array.getD_eq_getD_getElem?, Array.getElem?_eq_getElem (show i < l.size by omega)]
  have hdone : ∀ (listed : Array Bool) (ids : Nat → Nat) (a : Act) (w : World), listed.size = ops.size → (∀ i, i < ops.size → listed.getD i false = true) → Real c (stAt s0 (fun j => tr.getD j default) (fun j => listed.getD j false) ops.size) ids a w → Q .normal a w := by
    intro listed ids a w hs hall hR
    refine hfin ids a w ?_
    have : stAt s0 (fun j => tr.getD j default) (fun j => listed.getD j false) ops.size = stAt s0 (fun j => tr.getD j default) (fun _ => true) ops.size := by
      funext q; exact stAt_congr _ fun k hk _ => hall k hk
    rw [← this]; exact hR
  intro fuel
  induction fuel with
  | zero =>
    intro listed ids a w hs hu hsh hR
    have hall : ∀ i, i < ops.size → listed.getD i false = true := fun i hi => by
      have h0 : unlisted listed ops.size = 0 := by omega
      have := List.countP_eq_zero.1 h0 i (List.mem_range.2 hi)
      simpa using this
    refine ⟨?_, hdone listed ids a w hs hall hR⟩
    cases hr : Region.ready .any ops listed with
    | nil => rfl
    | cons i r =>
      have := ready_iff (show i ∈ Region.ready .any ops listed from by rw [hr]; exact List.mem_cons_self)
      rw [hget listed i this.1 hs, hall i this.1] at this
      exact absurd this.2.1 (by simp)
  | succ fuel ih =>
    intro listed ids a w hs hu hsh hR
    refine ⟨fun hnil => hdone listed ids a w hs (fun i => ?_) hR, fun i hi => ?_⟩
    · induction i using Nat.strongRecOn with
      | _ i ihi =>
        intro hi
        cases hl : listed.getD i false with
        | true => rfl
        | false =>
          have : i ∈ Region.ready .any ops listed := ready_of hi (by rw [hget listed i hi hs, hl]) (fun j hj => ihi j (hdown i j hj) (by have := hdown i j hj; omega))
          rw [hnil] at this; cases this
    · obtain ⟨hin, hno, hdeps⟩ := ready_iff hi
      rw [hget listed i hin hs] at hno
      have hmeet : ∀ k, k < ops.size → k ≠ i → conf (tr.getD k default) (tr.getD i default) = true → listed.getD k false = decide (k < i) := by
        intro k hk hne hc
        by_cases hlt : k < i
        · have h1 := hconf i k hlt (by omega) hc
          rw [reach_sound hsh _ _ _ h1 hdeps]; simp [hlt]
        · have h1 := hconf k i (by omega) (by omega) (conf_comm hc)
          cases hl : listed.getD k false with
          | false => simp [hlt]
          | true =>
            have := reach_sound hsh _ _ _ h1 (fun j hj => hsh k hl j hj)
            simp only [hno] at this; cases this
      refine hT i hin Q _ ids a w _ ?_ hR ?_
      · intro q hq
        have e1 : stAt s0 (fun j => tr.getD j default) (fun j => listed.getD j false) ops.size q = stAt s0 (fun j => tr.getD j default) (fun j => decide (j < i)) ops.size q := by
          refine stAt_congr _ fun k hk hw => ?_
          by_cases hne : k = i
          · subst hne; simp [hno]
          · exact hmeet k hk hne (by simp only [conf, keysMeet_of hw hq, Bool.true_or])
        rw [e1]
        have e2 : ∀ n, i + n ≤ ops.size → stAt s0 (fun j => tr.getD j default) (fun j => decide (j < i)) (i + n) q = stAt s0 (fun j => tr.getD j default) (fun j => decide (j < i)) i q := by
          intro n
          induction n with
          | zero => intro _; rfl
          | succ n ihn =>
            intro hn
            show (bif decide (i + n < i) then _ else _ : Sf) q = _
            rw [show decide (i + n < i) = false from by simp]
            exact ihn (by omega)
        have e3 := e2 (ops.size - i) (by omega)
        rw [show i + (ops.size - i) = ops.size from by omega] at e3
        rw [e3]
        exact stAt_congr _ fun k hk _ => by simp [hk]
      · intro ids' a' w' hR'
        have hE : ∀ j, (listed.setIfInBounds i true).getD j false = (decide (j = i) || listed.getD j false) := fun j => by
          by_cases hj : j = i
          · subst hj; simp [Array.getD_eq_getD_getElem?, Array.getElem?_setIfInBounds, hs, hin]
          · simp only [Array.getD_eq_getD_getElem?, Array.getElem?_setIfInBounds]
            rw [if_neg (fun e => hj e.symm)]; simp [hj]
        refine ih (listed.setIfInBounds i true) ids' a' w' (by simpa using hs) (by have := unlisted_set hs hin hno; omega) ?_ ?_
        · intro j hj k hk
          simp only [hE, Bool.or_eq_true, decide_eq_true_eq] at hj ⊢
          rcases hj with rfl | hj
          · exact .inr (hdeps k hk)
          · exact .inr (hsh j hj k hk)
        · have hst : upd (stAt s0 (fun j => tr.getD j default) (fun j => listed.getD j false) ops.size) (tr.getD i default).ws = stAt s0 (fun j => tr.getD j default) (fun j => (listed.setIfInBounds i true).getD j false) ops.size := by
            funext q
            cases hw : lookW (tr.getD i default).ws q with
            | none =>
              simp only [upd, hw, Option.none_or]
              refine stAt_congr _ fun k hk hk2 => ?_
              rw [hE]
              by_cases hki : k = i
              · subst hki; rw [hw] at hk2; cases hk2
              · simp [hki]
            | some x =>
              simp only [upd, hw, Option.some_or]
              have e1 : stAt s0 (fun j => tr.getD j default) (fun j => (listed.setIfInBounds i true).getD j false) ops.size q = stAt s0 (fun j => tr.getD j default) (fun j => decide (j ≤ i)) ops.size q := by
                refine stAt_congr _ fun k hk hk2 => ?_
                rw [hE]
                by_cases hki : k = i
                · subst hki; simp
                · have := hmeet k hk hki (by
                    simp only [conf]
                    rw [keysMeet_of hk2 (show q ∈ (tr.getD i default).ws.map (·.1) from List.mem_map.2 ⟨_, look_mem hw, rfl⟩)]; simp)
                  rw [this]
                  by_cases hlt : k < i
                  · simp [hlt, show k ≤ i from by omega]
                  · simp [hki, show ¬ k ≤ i from by omega, hlt]
              have e2 : ∀ n, i + 1 + n ≤ ops.size → stAt s0 (fun j => tr.getD j default) (fun j => decide (j ≤ i)) (i + 1 + n) q = stAt s0 (fun j => tr.getD j default) (fun j => decide (j ≤ i)) (i + 1) q := by
                intro n
                induction n with
                | zero => intro _; rfl
                | succ n ihn =>
                  intro hn
                  show (bif decide (i + 1 + n ≤ i) then _ else _ : Sf) q = _
                  rw [show decide (i + 1 + n ≤ i) = false from by simp; omega]
                  exact ihn (by omega)
              have e3 := e2 (ops.size - (i + 1)) (by omega)
              rw [show i + 1 + (ops.size - (i + 1)) = ops.size from by omega] at e3
              rw [e1, e3]
              simp only [stAt, show decide (i ≤ i) = true from by simp, cond_true, upd, hw, Option.some_or]
          rw [← hst]; exact hR'
/-- In the order of the text. -/
theorem text_of {ops : Array Oper} {tr : List Tr} {s0 : Sf} {Q : Exit → Act → World → Prop} (hT : ∀ i, i < ops.size → LocalI c F nn ops i (stAt s0 (fun j => tr.getD j default) (fun _ => true) i) (tr.getD i default))
    (hfin : ∀ ids a w, Real c (stAt s0 (fun j => tr.getD j default) (fun _ => true) ops.size) ids a w → Q .normal a w) :
    ∀ (n i : Nat) (ids : Nat → Nat) (a : Act) (w : World), i + n = ops.size → Real c (stAt s0 (fun j => tr.getD j default) (fun _ => true) i) ids a w → wpOpsIn F nn c.P ops Q (List.range' i n) a w
  | 0, i, ids, a, w, hi, hR => hfin ids a w (by rw [← hi]; exact hR)
  | n + 1, i, ids, a, w, hi, hR => by
    rw [List.range'_succ, wpOpsIn_cons]
    refine hT i (by omega) Q _ ids a w _ (fun _ _ => rfl) hR fun ids' a' w' hR' => text_of hT hfin n (i + 1) ids' a' w' (by omega) ?_
    simpa [stAt] using hR'

/-- The first i operations have been gone through. -/
inductive Pre (c : Ctx) (F : Fence) (nn : Nat) (ops : Array Oper) (σ0 : St) : Nat → St → List Tr → Prop
  | nil : Pre c F nn ops σ0 0 σ0 []
  | cons {i : Nat} {σ : St} {tr : List Tr} {t : Tr} : Pre c F nn ops σ0 i σ tr → i < ops.size → LocalI c F nn ops i (look σ) t → Pre c F nn ops σ0 (i + 1) (t.ws :: σ) (t :: tr)
theorem Pre.spec {ops : Array Oper} {σ0 : St} {i : Nat} {σ : St} {tr : List Tr} (h : Pre c F nn ops σ0 i σ tr) :
    tr.length = i ∧ i ≤ ops.size ∧ look σ = stAt (look σ0) (fun j => tr.reverse.getD j default) (fun _ => true) i ∧ ∀ j, j < i → LocalI c F nn ops j (stAt (look σ0) (fun j => tr.reverse.getD j default) (fun _ => true) j) (tr.reverse.getD j default) := by
  induction h with
  | nil => exact ⟨rfl, Nat.zero_le _, rfl, fun j hj => absurd hj (by omega)⟩
  | @cons i σ tr t hp hlt0 hl ih =>
    obtain ⟨h1, h1', h2, h3⟩ := ih
    have hlt : ∀ k, k < i → tr.reverse.getD k default = (t :: tr).reverse.getD k default := fun k hk => by
      simp only [List.reverse_cons, List.getD_eq_getElem?_getD]
      rw [List.getElem?_append_left (by simp; omega)]
    have hat : (t :: tr).reverse.getD i default = t := by
      simp only [List.reverse_cons, List.getD_eq_getElem?_getD]
      rw [List.getElem?_append_right (by simp; omega)]
      simp [h1]
    have hst : ∀ j, j ≤ i → stAt (look σ0) (fun j => (t :: tr).reverse.getD j default) (fun _ => true) j = stAt (look σ0) (fun j => tr.reverse.getD j default) (fun _ => true) j := fun j hj =>
      stAt_tr j fun k hk => (hlt k (by omega)).symm
    refine ⟨by simp [h1], by omega, ?_, ?_⟩
    · simp only [stAt, cond_true]
      rw [hst i (Nat.le_refl _), ← h2, hat, look_append]
    · intro j hj
      rw [hst j (by omega)]
      by_cases hji : j = i
      · subst hji; rw [hat, ← h2]; exact hl
      · rw [← hlt j (by omega)]; exact h3 j (by omega)

/-- What is owed of a region's rest. -/
structure RW (c : Ctx) (F : Fence) (nn : Nat) (id : Nat) (ops : Array Oper) (draw : Bool) (Q : Exit → Act → World → Prop) (σ0 : St) (i : Nat) (rest : List Oper) (σ : St) (tr : List Tr) (sup : List Nat) : Prop where
  go : (∀ j, rest[j]? = ops[i + j]?) → Pre c F nn ops σ0 i σ tr → ∀ ids a w, Real c (look σ0) ids a w → (Code.region id ops draw).wpIn F nn c.P Q a w
structure CW (c : Ctx) (F : Fence) (nn : Nat) (code : Code) (Q : Exit → Act → World → Prop) (σ : St) (sup : List Nat) : Prop where
  go : ∀ ids a w, Real c (look σ) ids a w → code.wpIn F nn c.P Q a w
structure KW (c : Ctx) (K : Act → World → Prop) (σ : St) (sup : List Nat) : Prop where
  go : ∀ ids a w, Real c (look σ) ids a w → K a w
theorem Real.drawn {s : Sf} {ids : Nat → Nat} {a : Act} {w : World} (h : Real c s ids a w) (n : Nat) : Real c s ids a { w with drawn := n } :=
  ⟨⟨h.W.cell, h.W.blk, h.W.inj, h.W.given, h.W.own, h.W.closed, h.W.cellLive, h.W.os, h.W.tape, h.W.output, h.W.size, h.W.old, h.W.marks⟩, h.defers, h.slots, h.tmp⟩

theorem RW_end_draw {id : Nat} {ops : Array Oper} {Q : Exit → Act → World → Prop} {σ0 σ : St} {i : Nat} {tr : List Tr} {sup : List Nat} (hm : c.P.follows .mixedOrders = true) (ho : ordB ops tr.reverse = true) (hK : KW c (Q .normal) σ sup) :
    RW c F nn id ops true Q σ0 i [] σ tr sup := by
  refine ⟨?_⟩
  intro hrest hpre ids a w hR
  obtain ⟨h1, h1', h2, h3⟩ := hpre.spec
  have hi : i = ops.size := by
    have := hrest 0
    simp at this
    omega
  subst hi
  refine wpIn_region_any hm ?_
  refine any_of (tr := tr.reverse) (s0 := look σ0) (by simpa using h1) ho h3 (fun ids' a' w' hR' => hK.go ids' a' w' (by rw [h2]; exact hR')) ops.size (Array.replicate ops.size false) ids a _ (by simp) ?_ ?_ ?_
  · exact Nat.le_trans List.countP_le_length (by simp)
  · intro j hj
    simp only [Array.getD_eq_getD_getElem?] at hj
    by_cases hlt : j < ops.size
    · simp [hlt] at hj
    · simp [hlt] at hj
  · have e : stAt (look σ0) (fun j => tr.reverse.getD j default) (fun j => (Array.replicate ops.size false).getD j false) ops.size = look σ0 := by
      have : ∀ n, stAt (look σ0) (fun j => tr.reverse.getD j default) (fun j => (Array.replicate ops.size false).getD j false) n = look σ0 := by
        intro n
        induction n with
        | zero => rfl
        | succ n ih =>
          simp only [stAt]
          rw [show (Array.replicate ops.size false).getD n false = false from by
            simp only [Array.getD_eq_getD_getElem?]
            by_cases hlt : n < ops.size <;> simp [hlt]]
          exact ih
      exact this _
    rw [e]; exact hR.drawn _
theorem RW_end {id : Nat} {ops : Array Oper} {Q : Exit → Act → World → Prop} {σ0 σ : St} {i : Nat} {tr : List Tr} {sup : List Nat} (hK : KW c (Q .normal) σ sup) :
    RW c F nn id ops false Q σ0 i [] σ tr sup := by
  refine ⟨?_⟩
  intro hrest hpre ids a w hR
  obtain ⟨h1, h1', h2, h3⟩ := hpre.spec
  obtain rfl : i = ops.size := by
    have := hrest 0
    simp at this
    omega
  refine wpIn_region ?_
  have := text_of (tr := tr.reverse) (s0 := look σ0) (Q := Q) h3 (fun ids' a' w' hR' => hK.go ids' a' w' (by rw [h2]; exact hR')) ops.size 0 ids a w (by omega) hR
  rw [List.range_eq_range']; exact this
theorem CW_region {id : Nat} {ops : Array Oper} {draw : Bool} {Q : Exit → Act → World → Prop} {σ : St} {l : List Oper} {sup : List Nat} (hl : ops.toList = l) (h : RW c F nn id ops draw Q σ 0 l σ [] sup) : CW c F nn (.region id ops draw) Q σ sup :=
  ⟨h.go (fun j => by rw [← hl]; simp) Pre.nil⟩
theorem RW_step {id : Nat} {ops : Array Oper} {draw : Bool} {Q : Exit → Act → World → Prop} {σ0 σ : St} {i : Nat} {o : Oper} {rest : List Oper} {tr : List Tr} {t : Tr} {sup sup' : List Nat}
    (hL : ops[i]? = some o → LocalI c F nn ops i (look σ) t) (h : RW c F nn id ops draw Q σ0 (i + 1) rest (t.ws :: σ) (t :: tr) sup') : RW c F nn id ops draw Q σ0 i (o :: rest) σ tr sup := by
  refine ⟨?_⟩
  intro hrest hpre
  have ho : ops[i]? = some o := by
    have := hrest 0
    simpa using this.symm
  refine h.go (fun j => ?_) (hpre.cons (Array.getElem?_eq_some_iff.1 ho).1 (hL ho))
  have := hrest (j + 1)
  rw [show i + 1 + j = i + (j + 1) from by omega]; simpa using this
end
end Go.Proofs.Ytleelfdpefmnnaa.SX
namespace Go.Proofs.Ytleelfdpefmnnaa.SX
open Go.RowKit

/-! ### Names -/
theorem C.den_congr {ids ids' : Nat → Nat} : ∀ {x : C}, (∀ n ∈ x.names, ids n = ids' n) → x.den ids = x.den ids'
  | .v _, _ => rfl
  | .p n o, h => by simp [C.den, h n (by simp [C.names])]
  | .s n o l k, h => by simp [C.den, h n (by simp [C.names])]
  | .f g caps, h => by
    simp only [C.den]
    congr 2
    exact List.map_congr_left fun q hq => by rw [h q.1 (List.mem_map.2 ⟨q, hq, rfl⟩)]
theorem map_den_congr {ids ids' : Nat → Nat} {l : List C} (h : ∀ n ∈ l.flatMap C.names, ids n = ids' n) : l.map (C.den ids) = l.map (C.den ids') :=
  List.map_congr_left fun x hx => C.den_congr fun n hn => h n (List.mem_flatMap.2 ⟨x, hx, hn⟩)
theorem V.den_congr {ids ids' : Nat → Nat} : ∀ {v : V}, (∀ n ∈ v.names, ids n = ids' n) → v.den ids = v.den ids'
  | .c _, h => C.den_congr h
  | .a l, h => by simp only [V.den]; rw [map_den_congr h]
  | .t l, h => by
    simp only [V.den]
    congr 2
    refine List.map_congr_left fun x hx => ?_
    have h' : ∀ n ∈ namesP x, ids n = ids' n := fun n hn => h n (List.mem_flatMap.2 ⟨x, hx, hn⟩)
    cases x with
    | inl y => exact C.den_congr h'
    | inr l => simp only [denP]; rw [map_den_congr h']

section
variable {c : Ctx} {F : Fence} {nn : Nat} {s : Sf} {ids : Nat → Nat} {a : Act} {w : World}
theorem upd_miss {ws : Ws} {q : Key} (h : lookW ws q = none) : upd s ws q = s q := by simp [upd, h]
theorem upd_hit {ws : Ws} {q : Key} {x : KV} (h : lookW ws q = some x) : upd s ws q = some x := by simp [upd, h]
theorem lookW_t {d : Tmp} {x : KV} {q : Key} : lookW [(.t d, x)] q = if q = .t d then some x else none := by
  simp only [lookW]
  by_cases h : q = .t d
  · subst h; simp [Key.beq_refl]
  · rw [if_neg h]
    cases hb : Key.beq (.t d) q with
    | true => exact absurd ((Key.beq_iff _ _).1 hb).symm h
    | false => rfl
theorem RealW.lt (h : RealW c s ids w) {n : Nat} (hl : live s n) : ids n < w.heap.size := by
  obtain ⟨t, k, hb⟩ := hl
  obtain ⟨cs, hc, _⟩ := h.blk n t k hb
  exact (Array.getElem?_eq_some_iff.1 hc).1
/-- Slots do not matter to the world. -/
theorem RealW.slots (h : RealW c s ids w) {s' : Sf} (hc : ∀ n o, s' (.c n o) = s (.c n o)) (hb : ∀ n, s' (.b n) = s (.b n)) (ht : ∀ i x, s' (.t i) = some x → ∀ n ∈ x.names, live s n) : RealW c s' ids w := by
  have hl : ∀ n, live s' n ↔ live s n := fun n => by simp [live, hb]
  refine ⟨fun n o x hx => h.cell n o x (by rw [← hc]; exact hx), fun n t k hx => h.blk n t k (by rw [← hb]; exact hx), fun n n' h1 h2 => h.inj n n' ((hl n).1 h1) ((hl n').1 h2), h.given, fun n hm h1 => h.own n hm ((hl n).1 h1), ?_, fun n o x hx => (hl n).2 (h.cellLive n o x (by rw [← hc]; exact hx)), h.os, h.tape, h.output, h.size, h.old, h.marks⟩
  intro q x hq n hn
  refine (hl n).2 ?_
  cases q with
  | t i => exact ht i x hq n hn
  | c m o => exact h.closed (.c m o) x (by rw [← hc]; exact hq) n hn
  | b m => exact h.closed (.b m) x (by rw [← hb]; exact hq) n hn
theorem Real.put (h : Real c s ids a w) {d : Tmp} {v : V} (hd : d < c.N) (hn : ∀ n ∈ v.names, live s n) : Real c (upd s [(.t d, .v v)]) ids (a.put (some d) (v.den ids)) w := by
  have hq : ∀ q, q ≠ .t d → upd s [(.t d, .v v)] q = s q := fun q hq => upd_miss (by rw [lookW_t, if_neg hq])
  have hself : upd s [(.t d, .v v)] (.t d) = some (.v v) := upd_hit (by rw [lookW_t, if_pos rfl])
  refine ⟨h.W.slots (fun n o => hq _ (by simp)) (fun n => hq _ (by simp)) ?_, h.defers, ?_, ?_⟩
  · intro i x hx n hx'
    by_cases hi : i = d
    · subst hi; rw [hself] at hx; cases hx; exact hn n hx'
    · rw [hq _ (by simpa using hi)] at hx; exact h.W.closed _ _ hx n hx'
  · simpa [Act.put] using h.slots
  · intro i x hx
    simp only [Act.put, Array.getElem?_setIfInBounds]
    by_cases hi : d = i
    · subst hi
      rw [hself] at hx; cases hx
      rw [if_pos rfl, if_pos (by rw [h.slots]; exact hd)]
    · rw [if_neg hi]
      rw [hq _ (by simpa using fun e => hi e.symm)] at hx
      exact h.tmp i x hx
theorem Real.same (h : Real c s ids a w) : Real c (upd s []) ids a w := by
  have : upd s [] = s := by funext q; simp [upd, lookW]
  rw [this]; exact h

/-- The world moved on, what is named stayed. -/
theorem RealW.on (h : RealW c s ids w) {w' : World} (hb : Below w.heap.size w w') : RealW c s ids w' := by
  have hB := h.size
  refine ⟨fun n o x hx => ?_, fun n t k hx => ?_, h.inj, h.given, h.own, h.closed, h.cellLive, hb.os.trans h.os, hb.tape.trans h.tape, hb.output.trans h.output, Nat.le_trans h.size hb.size, fun k hk hn => (hb.block k (by omega)).trans (h.old k hk hn), fun D hD => (hb.block D (Array.getElem?_eq_some_iff.1 (h.marks D hD)).1).trans (h.marks D hD)⟩
  · rw [hb.cell (p := ⟨ids n, o, none⟩) (h.lt (h.cellLive _ _ _ hx))]; exact h.cell n o x hx
  · obtain ⟨cs, hc, hs⟩ := h.blk n t k hx
    exact ⟨cs, (hb.block _ (h.lt ⟨t, k, hx⟩)).trans hc, hs⟩
theorem Real.on (h : Real c s ids a w) {w' : World} (hb : Below w.heap.size w w') : Real c s ids a w' := ⟨h.W.on hb, h.defers, h.slots, h.tmp⟩

/-! ### New blocks, stores -/
def cellsW (n : Nat) : Nat → List C → Ws
  | _, [] => []
  | o, x :: r => (.c n o, .c x) :: cellsW n (o + 1) r
theorem lookW_cells (n : Nat) : ∀ (l : List C) (o : Nat) (q : Key), lookW (cellsW n o l) q = match q with
    | .c m p => if m = n ∧ o ≤ p then (l[p - o]?).map KV.c else none
    | _ => none
  | [], o, q => by cases q <;> simp [cellsW, lookW]
  | x :: r, o, q => by
    simp only [cellsW, lookW, lookW_cells n r (o + 1) q]
    cases q with
    | t i => simp [Key.beq]
    | b m => simp [Key.beq]
    | c m p =>
      by_cases hm : m = n
      · subst hm
        by_cases ho : o = p
        · subst ho; simp [Key.beq]
        · have hne : Nat.beq o p = false := by
            cases hb : Nat.beq o p with
            | true => exact absurd (Nat.eq_of_beq_eq_true hb) ho
            | false => rfl
          simp only [Key.beq, hne, Bool.and_false, cond_false]
          by_cases hle : o ≤ p
          · rw [if_pos ⟨trivial, by omega⟩, if_pos ⟨trivial, hle⟩, show p - o = p - (o + 1) + 1 from by omega]; simp
          · rw [if_neg (by omega), if_neg (by omega)]
      · have hne : Nat.beq n m = false := by
          cases hb : Nat.beq n m with
          | true => exact absurd (Nat.eq_of_beq_eq_true hb).symm hm
          | false => rfl
        simp [Key.beq, hne, hm]

theorem Real.alloc (h : Real c s ids a w) {n : Nat} (hm : c.m ≤ n) (hn : s (.b n) = none) {d : Tmp} (hd : d < c.N) {l : List C} {ty : TypeId} (hl : ∀ k ∈ l.flatMap C.names, live s k) (v : V) (hv : ∀ k ∈ v.names, k = n ∨ live s k) :
    ∃ ids', ids' n = w.heap.size ∧ (∀ k, k ≠ n → ids' k = ids k) ∧
      Real c (upd s ((.t d, .v v) :: (.b n, .b ty l.length) :: cellsW n 0 l)) ids' (a.put (some d) (v.den ids')) (w.alloc (.cells (l.map (C.den ids)).toArray ty)) := by
  have hnl : ¬ live s n := fun ⟨t, k, h'⟩ => by rw [hn] at h'; cases h'
  refine ⟨fun k => if k = n then w.heap.size else ids k, by simp, fun k hk => by simp [hk], ?_⟩
  have hid : ∀ k, live s k → (fun k => if k = n then w.heap.size else ids k) k = ids k := fun k hk => by
    have : k ≠ n := fun e => hnl (e ▸ hk)
    simp [this]
  generalize hS : upd s ((.t d, .v v) :: (.b n, .b ty l.length) :: cellsW n 0 l) = S
  have hSb : ∀ k, S (.b k) = if k = n then some (.b ty l.length) else s (.b k) := fun k => by
    rw [← hS]
    simp only [upd, lookW, Key.beq, lookW_cells, cond_false]
    by_cases hk : k = n
    · subst hk; simp
    · have hne : Nat.beq n k = false := by
        cases hb : Nat.beq n k with
        | true => exact absurd (Nat.eq_of_beq_eq_true hb).symm hk
        | false => rfl
      simp [hne, hk]
  have hSc : ∀ k o, S (.c k o) = if k = n then (match l[o]? with | some x => some (.c x) | none => s (.c k o)) else s (.c k o) := fun k o => by
    rw [← hS]
    simp only [upd, lookW, Key.beq, lookW_cells, cond_false]
    by_cases hk : k = n
    · subst hk
      cases hx : l[o]? <;> simp [hx]
    · simp [hk]
  have hSt : ∀ i, S (.t i) = if i = d then some (.v v) else s (.t i) := fun i => by
    rw [← hS]
    simp only [upd, lookW, Key.beq, lookW_cells, cond_false]
    by_cases hi : i = d
    · subst hi; simp
    · have hne : Nat.beq d i = false := by
        cases hb : Nat.beq d i with
        | true => exact absurd (Nat.eq_of_beq_eq_true hb).symm hi
        | false => rfl
      simp [hne, hi]
  have hlv : ∀ k, live S k ↔ k = n ∨ live s k := fun k => by
    simp only [live, hSb]
    by_cases hk : k = n
    · simp [hk]
    · simp [hk]
  have hnc : ∀ o x, s (.c n o) = some x → False := fun o x hx => hnl (h.W.cellLive n o x hx)
  refine ⟨⟨?_, ?_, ?_, ?_, ?_, ?_, ?_, h.W.os, h.W.tape, h.W.output, ?_, ?_, fun D hD => (Below.heap_alloc w _ D (Array.getElem?_eq_some_iff.1 (h.W.marks D hD)).1).trans (h.W.marks D hD)⟩, h.defers, ?_, ?_⟩
  · intro k o x hx
    rw [hSc] at hx
    by_cases hk : k = n
    · subst hk
      rw [if_pos rfl] at hx
      cases hl' : l[o]? with
      | none => rw [hl'] at hx; exact (hnc o _ hx).elim
      | some y =>
        rw [hl'] at hx; cases hx
        simp only [if_pos]
        rw [World.cell?_alloc_new]
        simp only [List.getElem?_toArray, List.getElem?_map, hl', Option.map_some]
        congr 1
        exact C.den_congr fun j hj => (hid j (hl j (List.mem_flatMap.2 ⟨x, List.mem_of_getElem? hl', hj⟩))).symm
    · rw [if_neg hk] at hx
      have hlk := h.W.cellLive k o _ hx
      rw [show (if k = n then w.heap.size else ids k) = ids k from hid k hlk, World.cell?_alloc_lt _ _ _ (by simpa using h.W.lt hlk), h.W.cell k o x hx]
      congr 1
      exact C.den_congr fun j hj => (hid j (h.W.closed _ _ hx j hj)).symm
  · intro k t q hx
    rw [hSb] at hx
    by_cases hk : k = n
    · subst hk
      rw [if_pos rfl] at hx
      cases hx
      simp only [if_pos]
      exact ⟨_, World.alloc_heap_new w _, by simp⟩
    · rw [if_neg hk] at hx
      obtain ⟨cs, hc, hs⟩ := h.W.blk k t q hx
      rw [show (if k = n then w.heap.size else ids k) = ids k from hid k ⟨t, q, hx⟩]
      exact ⟨cs, (Below.heap_alloc w _ _ (h.W.lt ⟨t, q, hx⟩)).trans hc, hs⟩
  · intro k k' hk hk' he
    rw [hlv] at hk hk'
    by_cases h1 : k = n <;> by_cases h2 : k' = n
    · rw [h1, h2]
    · have := hk'.resolve_left h2
      have hlt := h.W.lt this
      simp only [h1, if_pos, h2, if_false] at he
      omega
    · have := hk.resolve_left h1
      have hlt := h.W.lt this
      simp only [h2, if_pos, h1, if_false] at he
      omega
    · simp only [h1, h2, if_false] at he
      exact h.W.inj k k' (hk.resolve_left h1) (hk'.resolve_left h2) he
  · intro k hk
    have : k ≠ n := by omega
    simp only [this, if_false]
    exact h.W.given k hk
  · intro k hk hlk
    rw [hlv] at hlk
    by_cases h1 : k = n
    · simp only [h1, if_pos]; exact h.W.size
    · simp only [h1, if_false]; exact h.W.own k hk (hlk.resolve_left h1)
  · intro q x hq k hk
    rw [hlv]
    cases q with
    | t i =>
      rw [hSt] at hq
      by_cases hi : i = d
      · rw [if_pos hi] at hq; cases hq; exact hv k hk
      · rw [if_neg hi] at hq; exact .inr (h.W.closed _ _ hq k hk)
    | b m =>
      rw [hSb] at hq
      by_cases hm' : m = n
      · rw [if_pos hm'] at hq; cases hq; cases hk
      · rw [if_neg hm'] at hq; exact .inr (h.W.closed _ _ hq k hk)
    | c m o =>
      rw [hSc] at hq
      by_cases hm' : m = n
      · rw [if_pos hm'] at hq
        cases hl' : l[o]? with
        | none => rw [hl'] at hq; rw [hm'] at hq; exact (hnc o _ hq).elim
        | some y => rw [hl'] at hq; cases hq; exact .inr (hl k (List.mem_flatMap.2 ⟨y, List.mem_of_getElem? hl', hk⟩))
      · rw [if_neg hm'] at hq; exact .inr (h.W.closed _ _ hq k hk)
  · intro k o x hx
    rw [hlv]
    rw [hSc] at hx
    by_cases hk : k = n
    · exact .inl hk
    · rw [if_neg hk] at hx; exact .inr (h.W.cellLive k o x hx)
  · rw [World.size_alloc]; exact Nat.le_succ_of_le h.W.size
  · intro k hk hn'
    rw [Below.heap_alloc w _ k (Nat.lt_of_lt_of_le hk h.W.size)]
    exact h.W.old k hk hn'
  · simpa [Act.put] using h.slots
  · intro i x hx
    rw [hSt] at hx
    simp only [Act.put, Array.getElem?_setIfInBounds]
    by_cases hi : d = i
    · rw [if_pos hi.symm] at hx; cases hx
      rw [if_pos hi, if_pos (by rw [h.slots]; exact hi ▸ hd)]
    · rw [if_neg (fun e => hi e.symm)] at hx
      rw [if_neg hi, h.tmp i x hx]
      congr 1
      exact V.den_congr fun j hj => (hid j (h.W.closed _ _ hx j hj)).symm

theorem RealW.set (h : RealW c s ids w) {n o k : Nat} {ty : TypeId} {l : List C} (hb : s (.b n) = some (.b ty k)) (ho : o + l.length ≤ k) (hl : ∀ j ∈ l.flatMap C.names, live s j) (hm : n < c.m ∨ c.B ≤ ids n) :
    w.there (ids n) o l.length ∧ RealW c (upd s (cellsW n o l)) ids (w.setCells (ids n) o (l.map (C.den ids))) := by
  have hln : live s n := ⟨ty, k, hb⟩
  obtain ⟨cs, hcs, hsz⟩ := h.blk n ty k hb
  have hth : w.there (ids n) o l.length := fun j hj => by
    constructor
    · simp [World.cell?, hcs]; omega
    · simp [World.frozen?, hcs]
  refine ⟨hth, ?_⟩
  generalize hS : upd s (cellsW n o l) = S
  have hSb : ∀ k, S (.b k) = s (.b k) := fun k => by rw [← hS]; simp [upd, lookW_cells]
  have hSt : ∀ k, S (.t k) = s (.t k) := fun k => by rw [← hS]; simp [upd, lookW_cells]
  have hSc : ∀ k p, S (.c k p) = if k = n ∧ o ≤ p then (match l[p - o]? with | some x => some (.c x) | none => s (.c k p)) else s (.c k p) := fun k p => by
    rw [← hS]
    simp only [upd, lookW_cells]
    by_cases hk : k = n ∧ o ≤ p
    · rw [if_pos hk, if_pos hk]
      cases l[p - o]? <;> simp
    · rw [if_neg hk, if_neg hk]; simp
  have hlv : ∀ k, live S k ↔ live s k := fun k => by simp only [live, hSb]
  have hg := setCells_grown (ids n) (l.map (C.den ids)) o w
  have hblk : ∀ (vs : List Value) (o' : Nat) (W : World) (cs : Array Value), W.heap[ids n]? = some (.cells cs ty (0, 0)) → ∃ cs', (W.setCells (ids n) o' vs).heap[ids n]? = some (.cells cs' ty (0, 0)) ∧ cs'.size = cs.size := by
    intro vs
    induction vs with
    | nil => intro o' W cs hc; exact ⟨cs, hc, rfl⟩
    | cons v r ih =>
      intro o' W cs hc
      rw [World.setCells]
      obtain ⟨cs', h1, h2⟩ := ih (o' + 1) (W.setCell ⟨ids n, o', none⟩ v) (cs.setIfInBounds o' v) (by simp [World.setCell, Array.getElem?_modify, hc])
      exact ⟨cs', h1, by simpa using h2⟩
  have hcell : cs = cs := rfl
  refine ⟨?_, ?_, ?_, h.given, ?_, ?_, ?_, hg.os.trans h.os, hg.tape.trans h.tape, hg.output.trans h.output, Nat.le_trans h.size hg.size, ?_, fun D hD => (hg.block D (Array.getElem?_eq_some_iff.1 (h.marks D hD)).1 (fun e => by
    have e : D = ids n := by simpa using e
    have := h.marks D hD
    rw [e, hcs] at this; cases this)).trans (h.marks D hD)⟩
  · intro k p x hx
    rw [hSc] at hx
    by_cases hk : k = n ∧ o ≤ p
    · obtain ⟨rfl, hp⟩ := hk
      rw [if_pos ⟨rfl, hp⟩] at hx
      cases hl' : l[p - o]? with
      | some y =>
        rw [hl'] at hx; cases hx
        have hlen : p - o < l.length := (List.getElem?_eq_some_iff.1 hl').1
        have := World.cell?_setCells_in (ids k) (l.map (C.den ids)) o w (fun i hi => (hth i (by simpa using hi)).1) (p - o) (by simpa using hlen)
        rw [show p = o + (p - o) from by omega, this]
        have hy : l[p - o] = x := (List.getElem?_eq_some_iff.1 hl').2
        simp [hy]
      | none =>
        rw [hl'] at hx
        have hlen : l.length ≤ p - o := by simpa using hl'
        rw [World.cell?_setCells_out (ids k) (l.map (C.den ids)) o w ⟨ids k, p, none⟩ (fun _ _ => by simp; omega)]
        exact h.cell _ _ _ hx
    · rw [if_neg hk] at hx
      have hlk := h.cellLive k p _ hx
      rw [World.cell?_setCells_out (ids n) (l.map (C.den ids)) o w ⟨ids k, p, none⟩ (fun hbl _ => by
        have : k = n := h.inj k n hlk hln (by simpa using hbl)
        left
        have : ¬ o ≤ p := fun hp => hk ⟨this, hp⟩
        simpa using this)]
      exact h.cell _ _ _ hx
  · intro k t q hx
    rw [hSb] at hx
    by_cases hk : k = n
    · subst hk
      rw [hb] at hx; cases hx
      obtain ⟨cs', h1, h2⟩ := hblk (l.map (C.den ids)) o w cs hcs
      exact ⟨cs', h1, by rw [h2, hsz]⟩
    · obtain ⟨cs2, hc2, hs2⟩ := h.blk k t q hx
      refine ⟨cs2, ?_, hs2⟩
      rw [hg.block (ids k) (h.lt ⟨t, q, hx⟩) (fun e => hk (h.inj k n ⟨t, q, hx⟩ hln (by simpa using e)))]
      exact hc2
  · intro k k' h1 h2; exact h.inj k k' ((hlv k).1 h1) ((hlv k').1 h2)
  · intro k hk h1; exact h.own k hk ((hlv k).1 h1)
  · intro q x hq j hj
    rw [hlv]
    cases q with
    | t i => rw [hSt] at hq; exact h.closed _ _ hq j hj
    | b m => rw [hSb] at hq; exact h.closed _ _ hq j hj
    | c m p =>
      rw [hSc] at hq
      by_cases hk : m = n ∧ o ≤ p
      · rw [if_pos hk] at hq
        cases hl' : l[p - o]? with
        | none => rw [hl'] at hq; exact h.closed _ _ hq j hj
        | some y => rw [hl'] at hq; cases hq; exact hl j (List.mem_flatMap.2 ⟨y, List.mem_of_getElem? hl', hj⟩)
      · rw [if_neg hk] at hq; exact h.closed _ _ hq j hj
  · intro k p x hx
    rw [hlv]
    rw [hSc] at hx
    by_cases hk : k = n ∧ o ≤ p
    · rw [hk.1]; exact hln
    · rw [if_neg hk] at hx; exact h.cellLive k p x hx
  · intro k hk hn'
    rw [hg.block k (Nat.lt_of_lt_of_le hk h.size) (fun e => ?_)]
    · exact h.old k hk hn'
    · have e : k = ids n := by simpa using e
      rcases hm with hm | hm
      · exact hn' n hm (by rw [← h.given n hm, e])
      · omega
theorem Real.store (h : Real c s ids a w) {n o k : Nat} {ty : TypeId} {l : List C} (hb : s (.b n) = some (.b ty k)) (ho : o + l.length ≤ k) (hl : ∀ j ∈ l.flatMap C.names, live s j) :
    w.there (ids n) o l.length ∧ Real c (upd s (cellsW n o l)) ids a (w.setCells (ids n) o (l.map (C.den ids))) := by
  have hm : n < c.m ∨ c.B ≤ ids n := by
    by_cases hn : n < c.m
    · exact .inl hn
    · exact .inr (h.W.own n (by omega) ⟨ty, k, hb⟩)
  obtain ⟨h1, h2⟩ := h.W.set hb ho hl hm
  refine ⟨h1, h2, h.defers, h.slots, fun i v hx => h.tmp i v ?_⟩
  rw [← hx]; simp [upd, lookW_cells]
end
end Go.Proofs.Ytleelfdpefmnnaa.SX
namespace Go.Proofs.Ytleelfdpefmnnaa.SX
open Go.RowKit

/-- A fence that lets every call by. -/
structure WideLike (F : Fence) : Prop where
  fn : ∀ f, F.fn f
  depth : F.depth = none
  calls : ∀ {n : Nat} {P : Program} {f : FuncId} {args : Array Value} {w : World} {R : Ending → World → Prop}, Calls P f args w R → CallsIn F n P f args w R
theorem wide_like : WideLike Fence.wide := ⟨fun _ => trivial, rfl, fun h => callsIn_wide.2 h⟩
theorem round_like (l : Nat) : WideLike (Fence.wide.inRound l) := ⟨fun _ => trivial, rfl, fun h => (callsIn_wide.2 h).inRound l⟩

def opv (s : Sf) : Operand → Option V
  | .tmp t => match s (.t t) with
    | some (.v v) => some v
    | _ => none
  | .const x => some (.c (.v x))
  | .global g => some (.c (.v (.pointer (some ⟨g, 0, none⟩))))
  | .func f => some (.c (.v (.func (.func f) #[] #[])))
def opk : Operand → List Key
  | .tmp t => [.t t]
  | _ => []
section
variable {c : Ctx} {F : Fence} {nn : Nat} {σ s : Sf} {ids : Nat → Nat} {a : Act} {w : World}
theorem opv_agree {x : Operand} (h : ∀ q ∈ opk x, s q = σ q) : opv s x = opv σ x := by
  cases x with
  | tmp t => simp only [opv]; rw [h (.t t) (by simp [opk])]
  | _ => rfl
theorem eval_opv {x : Operand} {v : V} (hx : opv s x = some v) (hR : Real c s ids a w) : a.eval x = v.den ids := by
  cases x with
  | tmp t =>
    simp only [opv] at hx
    split at hx
    · rename_i u hu
      cases hx
      have := hR.tmp t v hu
      simp [Act.eval, Array.getD_eq_getD_getElem?, this]
    · cases hx
  | const x => cases hx; rfl
  | global g => cases hx; rfl
  | func f => cases hx; rfl
theorem opv_names {x : Operand} {v : V} (hx : opv s x = some v) {n : Nat} (hn : n ∈ v.names) : ∃ q ∈ opk x, ∃ u, s q = some u ∧ n ∈ u.names := by
  cases x with
  | tmp t =>
    simp only [opv] at hx
    split at hx
    · rename_i u hu
      cases hx
      exact ⟨.t t, by simp [opk], _, hu, hn⟩
    · cases hx
  | const x => cases hx; cases hn
  | global g => cases hx; cases hn
  | func f => cases hx; cases hn

/-- One operation, in every state that holds what it reads. -/
def LocalO (c : Ctx) (F : Fence) (nn : Nat) (o : Oper) (σ : Sf) (t : Tr) : Prop :=
  ∀ (Q : Exit → Act → World → Prop) (s : Sf) (ids : Nat → Nat) (a : Act) (w : World) (K : Act → World → Prop), (∀ q ∈ t.rd, s q = σ q) → Real c s ids a w →
    (∀ ids' a' w', Real c (upd s t.ws) ids' a' w' → K a' w') → o.wpIn F nn c.P a w K Q
theorem LocalO.plain {o : Oper} {t : Tr} {ops : Array Oper} {i : Nat} (h : LocalO c F nn o σ t) (hg : o.guard = none) (ho : ops[i]? = some o) : LocalI c F nn ops i σ t := by
  intro Q s ids a w K hag hR hK
  unfold wpOpIn
  simp only [ho, Region.wanted, hg, if_true]
  exact h Q s ids a w K hag hR hK
theorem yielded_of {ops : Array Oper} {j d : Nat} {b : Bool} (hd : (ops[j]?).bind (·.dst) = some d) (hv : s (.t d) = some (.v (.c (.v (.bool b))))) (hR : Real c s ids a w) : yielded ops a.tmps j = some b := by
  unfold yielded
  simp only [hd, Option.bind_some, hR.tmp d _ hv]
  rfl
theorem LocalO.guarded {o : Oper} {t : Tr} {ops : Array Oper} {i j d : Nat} {want : Bool} (h : LocalO c F nn o σ t) (hg : o.guard = some (j, want)) (hd : (ops[j]?).bind (·.dst) = some d) {b : Bool} (hv : σ (.t d) = some (.v (.c (.v (.bool b))))) (hb : b = want) (ho : ops[i]? = some o) :
    LocalI c F nn ops i σ ⟨.t d :: t.rd, t.ws⟩ := by
  intro Q s ids a w K hag hR hK
  unfold wpOpIn
  have hy := yielded_of hd (b := want) (by rw [hag (.t d) (by simp), hv, hb]) hR
  simp only [ho, Region.wanted, hg, hy]
  rw [if_pos (by simp)]
  exact h Q s ids a w K (fun q hq => hag q (by simp [hq])) hR hK
/-- The guard of an operation that is carried out. -/
inductive GOk (ops : Array Oper) (s : Sf) : Option (Nat × Bool) → List Key → Prop
  | none : GOk ops s none []
  | some {j d : Nat} {want b : Bool} : (ops[j]?).bind (·.dst) = some d → s (.t d) = some (.v (.c (.v (.bool b)))) → b = want → GOk ops s (some (j, want)) [.t d]
theorem LocalO.under {o : Oper} {t : Tr} {ops : Array Oper} {i : Nat} {g : Option (Nat × Bool)} {ks : List Key} (h : LocalO c F nn o σ t) (hg : GOk ops σ g ks) (ho' : o.guard = g) (ho : ops[i]? = some o) : LocalI c F nn ops i σ ⟨ks ++ t.rd, t.ws⟩ := by
  cases hg with
  | none => exact h.plain ho' ho
  | some hd hv hb => exact h.guarded ho' hd hv hb ho
theorem LocalO.skipped (hF : WideLike F) {o : Oper} {ops : Array Oper} {i j d e : Nat} {want b : Bool} (hg : o.guard = some (j, want)) (hd : (ops[j]?).bind (·.dst) = some d) (hv : σ (.t d) = some (.v (.c (.v (.bool b))))) (hb : b = !want) (he : o.dst = some e) (hN : Nat.blt e c.N = true) (ho : ops[i]? = some o) :
    LocalI c F nn ops i σ ⟨[.t d], [(.t e, .v (.c (.v undef)))]⟩ := by
  intro Q s ids a w K hag hR hK
  unfold wpOpIn
  have hy := yielded_of hd (b := b) (by rw [hag (.t d) (by simp)]; exact hv) hR
  simp only [ho, Region.wanted, hg, hy]
  rw [if_neg (by rw [hb]; simp), he]
  exact ⟨fun f _ => hF.fn f, hK ids _ _ (hR.put (v := .c (.v undef)) (by simpa [Nat.blt_eq] using hN) (by simp [V.names, C.names]))⟩
theorem LocalO.skipped0 (hF : WideLike F) {o : Oper} {ops : Array Oper} {i j d : Nat} {want b : Bool} (hg : o.guard = some (j, want)) (hd : (ops[j]?).bind (·.dst) = some d) (hv : σ (.t d) = some (.v (.c (.v (.bool b))))) (hb : b = !want) (he : o.dst = none) (ho : ops[i]? = some o) :
    LocalI c F nn ops i σ ⟨[.t d], []⟩ := by
  intro Q s ids a w K hag hR hK
  unfold wpOpIn
  have hy := yielded_of hd (b := b) (by rw [hag (.t d) (by simp)]; exact hv) hR
  simp only [ho, Region.wanted, hg, hy]
  rw [if_neg (by rw [hb]; simp), he]
  exact ⟨fun f _ => hF.fn f, hK ids _ _ hR.same⟩

theorem yielded_undef {ops : Array Oper} {j d : Nat} (hd : (ops[j]?).bind (·.dst) = some d) (hv : s (.t d) = some (.v (.c (.v undef)))) (hR : Real c s ids a w) : yielded ops a.tmps j = none := by
  unfold yielded
  simp only [hd, Option.bind_some, hR.tmp d _ hv]
  rfl
theorem LocalO.skippedU (hF : WideLike F) {o : Oper} {ops : Array Oper} {i j d e : Nat} {want : Bool} (hg : o.guard = some (j, want)) (hd : (ops[j]?).bind (·.dst) = some d) (hv : σ (.t d) = some (.v (.c (.v undef)))) (he : o.dst = some e) (hN : Nat.blt e c.N = true) (ho : ops[i]? = some o) :
    LocalI c F nn ops i σ ⟨[.t d], [(.t e, .v (.c (.v undef)))]⟩ := by
  intro Q s ids a w K hag hR hK
  unfold wpOpIn
  have hy := yielded_undef hd (by rw [hag (.t d) (by simp)]; exact hv) hR
  simp only [ho, Region.wanted, hg, hy]
  rw [if_neg (by simp), he]
  exact ⟨fun f _ => hF.fn f, hK ids _ _ (hR.put (v := .c (.v undef)) (by simpa [Nat.blt_eq] using hN) (by simp [V.names, C.names]))⟩
theorem LocalO.skippedU0 (hF : WideLike F) {o : Oper} {ops : Array Oper} {i j d : Nat} {want : Bool} (hg : o.guard = some (j, want)) (hd : (ops[j]?).bind (·.dst) = some d) (hv : σ (.t d) = some (.v (.c (.v undef)))) (he : o.dst = none) (ho : ops[i]? = some o) :
    LocalI c F nn ops i σ ⟨[.t d], []⟩ := by
  intro Q s ids a w K hag hR hK
  unfold wpOpIn
  have hy := yielded_undef hd (by rw [hag (.t d) (by simp)]; exact hv) hR
  simp only [ho, Region.wanted, hg, hy]
  rw [if_neg (by simp), he]
  exact ⟨fun f _ => hF.fn f, hK ids _ _ hR.same⟩
theorem wpIn_value (hF : WideLike F) {o : Oper} {Q : Exit → Act → World → Prop} {K : Act → World → Prop} {v : Value} {w' : World} (hdef : ∀ q, o.op ≠ .defer q) (h : (execOp a.eval o).run c.P w = .ok (.value v) w') (hK : K (a.put o.dst v) w') : o.wpIn F nn c.P a w K Q := by
  refine ⟨fun f _ => hF.fn f, ?_⟩
  rw [Oper.semAt_eq _ _ _ hdef, h]
  exact hK
theorem wpIn_skip' (hF : WideLike F) {o : Oper} {Q : Exit → Act → World → Prop} {K : Act → World → Prop} {w' : World} (hdef : ∀ q, o.op ≠ .defer q) (h : (execOp a.eval o).run c.P w = .ok .skip w') (hK : K (a.put o.dst undef) w') : o.wpIn F nn c.P a w K Q := by
  refine ⟨fun f _ => hF.fn f, ?_⟩
  rw [Oper.semAt_eq _ _ _ hdef, h]
  exact hK
theorem LocalO.val (hF : WideLike F) {o : Oper} {d : Tmp} {v : V} {rd : List Key} (hd : o.dst = some d) (hN : Nat.blt d c.N = true) (hdef : ∀ q, o.op ≠ .defer q) (hnm : ∀ n ∈ v.names, ∃ q ∈ rd, ∃ x, σ q = some x ∧ n ∈ x.names)
    (h : ∀ s ids a w, (∀ q ∈ rd, s q = σ q) → Real c s ids a w → (execOp a.eval o).run c.P w = .ok (.value (v.den ids)) w) : LocalO c F nn o σ ⟨rd, [(.t d, .v v)]⟩ := by
  intro Q s ids a w K hag hR hK
  refine wpIn_value hF hdef (h s ids a w hag hR) ?_
  rw [hd]
  refine hK ids _ _ (hR.put (by simpa [Nat.blt_eq] using hN) fun n hn => ?_)
  obtain ⟨q, hq, x, hx, hnx⟩ := hnm n hn
  exact hR.W.closed q x (by rw [hag q hq]; exact hx) n hnx

/-! ### What a rule leaves to be reckoned -/
structure Wr (k : IntKind) (n r : Int) : Prop where
  eq : k.wrap n = r
theorem Wr.raw {k : IntKind} {n : Int} : Wr k n (k.wrap n) := ⟨rfl⟩
theorem Wr.lit {k : IntKind} {n m r : Int} (h : n = m) (hw : Wr k m r) : Wr k n r := h ▸ hw
theorem Wr.i64 {n : Int} (h : -9223372036854775808 ≤ n ∧ n ≤ 9223372036854775807) : Wr .i64 n n := by
  constructor
  simp only [IntKind.wrap, IntKind.bits, IntKind.signed, Bool.true_and]
  split
  · rename_i h'; simp at h'; omega
  · rename_i h'; simp at h'; omega
theorem Wr.u64 {n : Int} (h : 0 ≤ n ∧ n ≤ 18446744073709551615) : Wr .u64 n n := by
  constructor
  simp only [IntKind.wrap, IntKind.bits, IntKind.signed, Bool.false_and]; simp; omega
theorem Wr.i32 {n : Int} (h : -2147483648 ≤ n ∧ n ≤ 2147483647) : Wr .i32 n n := by
  constructor
  simp only [IntKind.wrap, IntKind.bits, IntKind.signed, Bool.true_and]
  split
  · rename_i h'; simp at h'; omega
  · rename_i h'; simp at h'; omega
theorem Wr.u32 {n : Int} (h : 0 ≤ n ∧ n ≤ 4294967295) : Wr .u32 n n := by
  constructor
  simp only [IntKind.wrap, IntKind.bits, IntKind.signed, Bool.false_and]; simp; omega
theorem Wr.u8 {n : Int} (h : 0 ≤ n ∧ n ≤ 255) : Wr .u8 n n := by
  constructor
  simp only [IntKind.wrap, IntKind.bits, IntKind.signed, Bool.false_and]; simp; omega
theorem Wr.u64m {n : Int} : Wr .u64 n (n % 18446744073709551616) := ⟨by simp [IntKind.wrap, IntKind.bits, IntKind.signed]⟩
theorem Wr.u32m {n : Int} : Wr .u32 n (n % 4294967296) := ⟨by simp [IntKind.wrap, IntKind.bits, IntKind.signed]⟩
theorem Wr.u16m {n : Int} : Wr .u16 n (n % 65536) := ⟨by simp [IntKind.wrap, IntKind.bits, IntKind.signed]⟩
theorem Wr.u8m {n : Int} : Wr .u8 n (n % 256) := ⟨by simp [IntKind.wrap, IntKind.bits, IntKind.signed]⟩
/-- A reckoning that asks nothing of the world. -/
structure RunS (P : Program) (s : Sem Value) (Z : Value) : Prop where
  eq : ∀ w, s.run P w = .ok Z w
/-- A pointer moved within its block. -/
structure RunP (P : Program) (f : Nat → Sem Value) (o : Nat) : Prop where
  eq : ∀ b w, (f b).run P w = .ok (.pointer (some ⟨b, o, none⟩)) w
structure RunL (P : Program) (f : Nat → Sem Value) (o len cap : Nat) : Prop where
  eq : ∀ b w, (f b).run P w = .ok (.slice (some ⟨b, o, none⟩) len cap) w
/-- A truth value, as it is or settled. -/
structure Tv (b r : Bool) : Prop where
  eq : b = r
theorem Tv.raw {b : Bool} : Tv b b := ⟨rfl⟩
theorem Tv.yes {p : Prop} [Decidable p] (h : p) : Tv (decide p) true := ⟨decide_eq_true h⟩
theorem Tv.no {p : Prop} [Decidable p] (h : ¬ p) : Tv (decide p) false := ⟨decide_eq_false h⟩
theorem Tv.eqy {a b : Int} (h : a = b) : Tv (a == b) true := ⟨by simpa using h⟩
theorem Tv.eqn {a b : Int} (h : ¬ a = b) : Tv (a == b) false := ⟨by simpa using h⟩
theorem Tv.ney {a b : Int} (h : ¬ a = b) : Tv (a != b) true := ⟨by simpa using h⟩
theorem Tv.nen {a b : Int} (h : a = b) : Tv (a != b) false := ⟨by simpa using h⟩
theorem Tv.b1 : Tv (true == true) true := ⟨rfl⟩
theorem Tv.b2 : Tv (true == false) false := ⟨rfl⟩
theorem Tv.b3 : Tv (false == true) false := ⟨rfl⟩
theorem Tv.b4 : Tv (false == false) true := ⟨rfl⟩
theorem Tv.c1 : Tv (true != true) false := ⟨rfl⟩
theorem Tv.c2 : Tv (true != false) true := ⟨rfl⟩
theorem Tv.c3 : Tv (false != true) true := ⟨rfl⟩
theorem Tv.c4 : Tv (false != false) false := ⟨rfl⟩
theorem Tv.d1 {b : Bool} : Tv (b == true) b := ⟨by cases b <;> rfl⟩
theorem Tv.d2 {b : Bool} : Tv (true == b) b := ⟨by cases b <;> rfl⟩
theorem Tv.d3 {b : Bool} : Tv (b != false) b := ⟨by cases b <;> rfl⟩
theorem Tv.d4 {b : Bool} : Tv (false != b) b := ⟨by cases b <;> rfl⟩
theorem Tv.e1 {b : Bool} : Tv (b == false) (!b) := ⟨by cases b <;> rfl⟩
theorem Tv.e2 {b : Bool} : Tv (false == b) (!b) := ⟨by cases b <;> rfl⟩
theorem Tv.e3 {b : Bool} : Tv (b != true) (!b) := ⟨by cases b <;> rfl⟩
theorem Tv.e4 {b : Bool} : Tv (true != b) (!b) := ⟨by cases b <;> rfl⟩
theorem Tv.nt : Tv (!true) false := ⟨rfl⟩
theorem Tv.nf : Tv (!false) true := ⟨rfl⟩
/-- A truth value that is known. -/
structure Tk (b r : Bool) : Prop where
  eq : b = r
/-- A number that is not to be left as a sum. -/
structure Is {α : Type} (x y : α) : Prop where
  eq : x = y
/-- A quotient and a rest. -/
structure Qu (k : IntKind) (a b r : Int) : Prop where
  eq : k.wrap (a.tdiv b) = r
theorem Qu.raw {k : IntKind} {a b : Int} : Qu k a b (k.wrap (a.tdiv b)) := ⟨rfl⟩
theorem Qu.i64 {a b : Int} (h : 0 ≤ a ∧ a ≤ 9223372036854775807 ∧ 0 < b) : Qu .i64 a b (a / b) := by
  have e : a.tdiv b = a / b := Int.tdiv_eq_ediv_of_nonneg h.1
  have h1 : 0 ≤ a / b := Int.ediv_nonneg h.1 (by omega)
  have h2 : a / b ≤ a := Int.ediv_le_self b h.1
  constructor; rw [e]; exact (Wr.i64 ⟨by omega, by omega⟩).eq
theorem Qu.u64 {a b : Int} (h : 0 ≤ a ∧ a ≤ 18446744073709551615 ∧ 0 < b) : Qu .u64 a b (a / b) := by
  have e : a.tdiv b = a / b := Int.tdiv_eq_ediv_of_nonneg h.1
  have h1 : 0 ≤ a / b := Int.ediv_nonneg h.1 (by omega)
  have h2 : a / b ≤ a := Int.ediv_le_self b h.1
  constructor; rw [e]; exact (Wr.u64 ⟨by omega, by omega⟩).eq
structure Rm (a b r : Int) : Prop where
  eq : a.tmod b = r
theorem Rm.raw {a b : Int} : Rm a b (a.tmod b) := ⟨rfl⟩
theorem Rm.pos {a b : Int} (h : 0 ≤ a) : Rm a b (a % b) := ⟨Int.tmod_eq_emod_of_nonneg h⟩
/-- 2 to the number of places by which is shifted. -/
structure Sh (k : IntKind) (b : Int) (m : Int) : Prop where
  eq : (2 ^ (min b.toNat k.bits) : Int) = m

/-- The cells of a value. -/
inductive CellsOf : V → List C → Prop
  | agg {l : List Value} {r : List C} : Is (l.map C.v) r → CellsOf (.c (.v (.agg l.toArray))) r
  | one {x : Value} : x.cells = #[x] → CellsOf (.c (.v x)) [.v x]
  | p {n o : Nat} : CellsOf (.c (.p n o)) [.p n o]
  | s {n o l k : Nat} : CellsOf (.c (.s n o l k)) [.s n o l k]
  | f {g : FuncId} {l : List (Nat × Nat)} : CellsOf (.c (.f g l)) [.f g l]
  | a {l : List C} : CellsOf (.a l) l
theorem CellsOf.den {v : V} {l : List C} (h : CellsOf v l) (ids : Nat → Nat) : (v.den ids).cells = (l.map (C.den ids)).toArray := by
  cases h with
  | agg h => rw [← h.eq]; simp [V.den, C.den, Value.cells, List.map_map, Function.comp_def]
  | one h => simpa [V.den, C.den] using h
  | _ => rfl
theorem CellsOf.names {v : V} {l : List C} (h : CellsOf v l) {n : Nat} (hn : n ∈ l.flatMap C.names) : n ∈ v.names := by
  cases h with
  | agg h => rw [← h.eq] at hn; simp [List.flatMap_map, C.names] at hn
  | one h => simp [C.names] at hn
  | p => simpa [V.names] using hn
  | s => simpa [V.names] using hn
  | f => simpa [V.names] using hn
  | a => exact hn
/-- Is it held by one cell? -/
def C.one : C → Bool
  | .v x => x.oneCell'
  | _ => true
theorem one_den {l : List C} (h : l.all C.one = true) (ids : Nat → Nat) : (l.map (C.den ids)).toArray.all (·.oneCell') = true := by
  refine Array.all_eq_true_iff_forall_mem.2 fun x hx => ?_
  simp only [List.mem_toArray, List.mem_map] at hx
  obtain ⟨y, hy, rfl⟩ := hx
  have := List.all_eq_true.1 h y hy
  cases y <;> first | rfl | exact this
/-- The cells of a list are plain. -/
inductive Plain : List C → List Value → Prop
  | nil : Plain [] []
  | cons {x : Value} {l : List C} {r : List Value} : Plain l r → Plain (.v x :: l) (x :: r)
theorem Plain.eq {l : List C} {r : List Value} (h : Plain l r) (ids : Nat → Nat) : l.map (C.den ids) = r := by
  induction h with
  | nil => rfl
  | cons _ ih => simp [C.den, ih]
/-- n cells from an offset on. -/
inductive CellsAt (s : Sf) (n : Nat) : Nat → Nat → List C → List Key → Prop
  | nil {o : Nat} : CellsAt s n o 0 [] []
  | cons {o o' k : Nat} {x : C} {l : List C} {ks : List Key} : s (.c n o) = some (.c x) → Is (o + 1) o' → CellsAt s n o' k l ks → CellsAt s n o (k + 1) (x :: l) (.c n o :: ks)
theorem CellsAt.spec {n o k : Nat} {l : List C} {ks : List Key} (h : CellsAt σ n o k l ks) (hag : ∀ q ∈ ks, s q = σ q) (hR : RealW c s ids w) : l.length = k ∧ w.rangeAt (ids n) o (l.map (C.den ids)) := by
  induction h with
  | nil => exact ⟨rfl, fun j v hv => by simp at hv⟩
  | @cons o o' k x l ks hx ho hl ih =>
    obtain ⟨h1, h2⟩ := ih (fun q hq => hag q (List.mem_cons_of_mem _ hq))
    refine ⟨by simp [h1], fun j v hv => ?_⟩
    cases j with
    | zero =>
      simp at hv; subst hv
      exact hR.cell n o x (by rw [hag _ List.mem_cons_self]; exact hx)
    | succ j =>
      have := h2 j v (by simpa using hv)
      rw [← ho.eq] at this
      rw [show o + (j + 1) = o + 1 + j from by omega]; exact this
theorem CellsAt.names {n o k : Nat} {l : List C} {ks : List Key} (h : CellsAt σ n o k l ks) {m : Nat} (hm : m ∈ l.flatMap C.names) : ∃ q ∈ ks, ∃ x, σ q = some x ∧ m ∈ x.names := by
  induction h with
  | nil => cases hm
  | @cons o o' k x l ks hx ho hl ih =>
    simp only [List.flatMap_cons, List.mem_append] at hm
    rcases hm with hm | hm
    · exact ⟨_, List.mem_cons_self, _, hx, hm⟩
    · obtain ⟨q, hq, y, hy⟩ := ih hm; exact ⟨q, List.mem_cons_of_mem _ hq, y, hy⟩
/-- What a function keeps of what is around it. -/
inductive Caps (s : Sf) : List Operand → List (Nat × Nat) → List Key → Prop
  | nil : Caps s [] [] []
  | cons {x : Operand} {n o : Nat} {xs : List Operand} {l : List (Nat × Nat)} {ks : List Key} : opv s x = some (.c (.p n o)) → Caps s xs l ks → Caps s (x :: xs) ((n, o) :: l) (opk x ++ ks)
/-- Values of operands. -/
inductive Vals (s : Sf) : List Operand → List V → List Key → Prop
  | nil : Vals s [] [] []
  | cons {x : Operand} {v : V} {xs : List Operand} {l : List V} {ks : List Key} : opv s x = some v → Vals s xs l ks → Vals s (x :: xs) (v :: l) (opk x ++ ks)
/-- Plain values. -/
inductive LeafL : List V → List Value → Prop
  | nil : LeafL [] []
  | cons {x : Value} {l : List V} {r : List Value} : LeafL l r → LeafL (.c (.v x) :: l) (x :: r)
theorem LeafL.eq {l : List V} {r : List Value} (h : LeafL l r) (ids : Nat → Nat) : l.map (V.den ids) = r := by
  induction h with
  | nil => rfl
  | cons _ ih => simp [V.den, C.den, ih]
inductive OptV (s : Sf) : Option Operand → Option Value → List Key → Prop
  | none : OptV s none none []
  | some {x : Operand} {X : Value} : opv s x = some (.c (.v X)) → OptV s (some x) (some X) (opk x)
theorem Vals.agree {xs : List Operand} {l : List V} {ks : List Key} (h : Vals σ xs l ks) (hag : ∀ q ∈ ks, s q = σ q) (hR : Real c s ids a w) : xs.map a.eval = l.map (V.den ids) := by
  induction h with
  | nil => rfl
  | @cons x v xs l ks hx hl ih =>
    have e := eval_opv (show opv s x = some v from by rw [opv_agree (fun q hq => hag q (by simp [hq]))]; exact hx) hR
    simp [e, ih (fun q hq => hag q (by simp [hq]))]
theorem Caps.agree {xs : List Operand} {l : List (Nat × Nat)} {ks : List Key} (h : Caps σ xs l ks) (hag : ∀ q ∈ ks, s q = σ q) (hR : Real c s ids a w) : xs.map a.eval = l.map (fun q => Value.pointer (some ⟨ids q.1, q.2, none⟩)) := by
  induction h with
  | nil => rfl
  | @cons x n o xs l ks hx hl ih =>
    have e := eval_opv (show opv s x = some (.c (.p n o)) from by rw [opv_agree (fun q hq => hag q (by simp [hq]))]; exact hx) hR
    simp [e, ih (fun q hq => hag q (by simp [hq])), V.den, C.den]
theorem Caps.names {xs : List Operand} {l : List (Nat × Nat)} {ks : List Key} (h : Caps σ xs l ks) {m : Nat} (hm : m ∈ l.map (·.1)) : ∃ q ∈ ks, ∃ x, σ q = some x ∧ m ∈ x.names := by
  induction h with
  | nil => cases hm
  | @cons x n o xs l ks hx hl ih =>
    simp only [List.map_cons, List.mem_cons] at hm
    rcases hm with rfl | hm
    · obtain ⟨q, hq, y, hy⟩ := opv_names hx (n := m) (by simp [V.names, C.names]); exact ⟨q, by simp [hq], y, hy⟩
    · obtain ⟨q, hq, y, hy⟩ := ih hm; exact ⟨q, by simp [hq], y, hy⟩
theorem OptV.agree {x : Option Operand} {X : Option Value} {ks : List Key} (h : OptV σ x X ks) (hag : ∀ q ∈ ks, s q = σ q) (hR : Real c s ids a w) : x.map a.eval = X := by
  cases h with
  | none => rfl
  | some hx => simpa [V.den, C.den] using eval_opv (by rw [opv_agree hag]; exact hx) hR
theorem Vals.names {xs : List Operand} {l : List V} {ks : List Key} (h : Vals σ xs l ks) {m : Nat} (hm : m ∈ l.flatMap V.names) : ∃ q ∈ ks, ∃ x, σ q = some x ∧ m ∈ x.names := by
  induction h with
  | nil => cases hm
  | @cons x v xs l ks hx hl ih =>
    simp only [List.flatMap_cons, List.mem_append] at hm
    rcases hm with hm | hm
    · obtain ⟨q, hq, y, hy⟩ := opv_names hx hm; exact ⟨q, by simp [hq], y, hy⟩
    · obtain ⟨q, hq, y, hy⟩ := ih hm; exact ⟨q, by simp [hq], y, hy⟩
theorem ev1 {x : Operand} {v : V} (hx : opv σ x = some v) {rd : List Key} (hag : ∀ q ∈ rd, s q = σ q) (hsub : ∀ q ∈ opk x, q ∈ rd) (hR : Real c s ids a w) : a.eval x = v.den ids :=
  eval_opv (by rw [opv_agree fun q hq => hag q (hsub q hq)]; exact hx) hR
theorem noDefer {o : Op} (h : (match o with | .defer _ => true | _ => false) = false) : ∀ q, o ≠ .defer q := by
  rintro q rfl; cases h
end
end Go.Proofs.Ytleelfdpefmnnaa.SX
namespace Go.Proofs.Ytleelfdpefmnnaa.SX
open Go.RowKit

def eqOkB (P : Program) (t : TypeId) (L M : List Value) : Bool := match flatK P 9 t with
  | some ks => plainT P 9 t && aggT P t && fitB ks L && fitB ks M && !P.eqGuardType P.depth t
  | none => false
structure EqOk (P : Program) (t : TypeId) (L M : List Value) : Prop where
  eq : eqOkB P t L M = true
theorem EqOk.eql {P : Program} {t : TypeId} {L M : List Value} (h : EqOk P t L M) (w : World) : (binOp .eql t (.agg L.toArray) (.agg M.toArray)).run P w = .ok (.bool (eqs L M)) w ∧ (binOp .neq t (.agg L.toArray) (.agg M.toArray)).run P w = .ok (.bool (!eqs L M)) w ∧ P.eqGuardType P.depth t = false := by
  have h := h.eq
  unfold eqOkB at h
  cases hk : flatK P 9 t with
  | none => rw [hk] at h; cases h
  | some ks =>
    rw [hk] at h
    simp only [Bool.and_eq_true, Bool.not_eq_true'] at h
    obtain ⟨⟨⟨⟨h1, h2⟩, h3⟩, h4⟩, h5⟩ := h
    exact ⟨run_eql_flat hk h1 h2 h3 h4 w, run_neq_flat hk h1 h2 h3 h4 w, h5⟩
theorem Tv.eqsY {L M : List Value} (h : conjP L M) : Tv (eqs L M) true := ⟨(eqs_iff L M).2 h⟩
theorem Tv.eqsN {L M : List Value} (h : ¬ conjP L M) : Tv (eqs L M) false := ⟨by rw [← Bool.not_eq_true]; exact fun e => h ((eqs_iff L M).1 e)⟩
theorem Tv.neqsN {L M : List Value} (h : conjP L M) : Tv (!eqs L M) false := ⟨by rw [(eqs_iff L M).2 h]; rfl⟩
theorem Tv.neqsY {L M : List Value} (h : ¬ conjP L M) : Tv (!eqs L M) true := ⟨by rw [(Tv.eqsN h).eq]; rfl⟩
theorem eqs_false {L M : List Value} : eqs L M = false ↔ ¬ conjP L M := by rw [← eqs_iff, Bool.not_eq_true]
/-- What an operation leaves of a state. -/
inductive Ev (c : Ctx) (s : Sf) : Oper → Tr → Prop
  | move {d : Tmp} {x : Operand} {v : V} {rt : TypeId} {pos : String} {af : Array Edge} {g : Option (Nat × Bool)} :
      opv s x = some v → Nat.blt d c.N = true → Ev c s ⟨some d, .move x, rt, pos, af, g⟩ ⟨opk x, [(.t d, .v v)]⟩
  | assign {d : Tmp} {x : Operand} {v : V} {rt : TypeId} {pos : String} {af : Array Edge} {g : Option (Nat × Bool)} :
      opv s x = some v → Nat.blt d c.N = true → Ev c s ⟨some d, .assign x, rt, pos, af, g⟩ ⟨opk x, [(.t d, .v v)]⟩
  | add {d : Tmp} {x y : Operand} {k : IntKind} {a b r : Int} {t ty rt : TypeId} {pos : String} {af : Array Edge} {g : Option (Nat × Bool)} :
      opv s x = some (.c (.v (.int k a))) → opv s y = some (.c (.v (.int k b))) → Wr k (a + b) r → Nat.blt d c.N = true → Ev c s ⟨some d, .binOp .add t x y ty, rt, pos, af, g⟩ ⟨opk x ++ opk y, [(.t d, .v (.c (.v (.int k r))))]⟩
  | sub {d : Tmp} {x y : Operand} {k : IntKind} {a b r : Int} {t ty rt : TypeId} {pos : String} {af : Array Edge} {g : Option (Nat × Bool)} :
      opv s x = some (.c (.v (.int k a))) → opv s y = some (.c (.v (.int k b))) → Wr k (a - b) r → Nat.blt d c.N = true → Ev c s ⟨some d, .binOp .sub t x y ty, rt, pos, af, g⟩ ⟨opk x ++ opk y, [(.t d, .v (.c (.v (.int k r))))]⟩
  | mul {d : Tmp} {x y : Operand} {k : IntKind} {a b r : Int} {t ty rt : TypeId} {pos : String} {af : Array Edge} {g : Option (Nat × Bool)} :
      opv s x = some (.c (.v (.int k a))) → opv s y = some (.c (.v (.int k b))) → Wr k (a * b) r → Nat.blt d c.N = true → Ev c s ⟨some d, .binOp .mul t x y ty, rt, pos, af, g⟩ ⟨opk x ++ opk y, [(.t d, .v (.c (.v (.int k r))))]⟩
  | quo {d : Tmp} {x y : Operand} {k : IntKind} {a b r : Int} {t ty rt : TypeId} {pos : String} {af : Array Edge} {g : Option (Nat × Bool)} :
      opv s x = some (.c (.v (.int k a))) → opv s y = some (.c (.v (.int k b))) → b ≠ 0 → Qu k a b r → Nat.blt d c.N = true → Ev c s ⟨some d, .binOp .quo t x y ty, rt, pos, af, g⟩ ⟨opk x ++ opk y, [(.t d, .v (.c (.v (.int k r))))]⟩
  | rem {d : Tmp} {x y : Operand} {k : IntKind} {a b r : Int} {t ty rt : TypeId} {pos : String} {af : Array Edge} {g : Option (Nat × Bool)} :
      opv s x = some (.c (.v (.int k a))) → opv s y = some (.c (.v (.int k b))) → b ≠ 0 → Rm a b r → Nat.blt d c.N = true → Ev c s ⟨some d, .binOp .rem t x y ty, rt, pos, af, g⟩ ⟨opk x ++ opk y, [(.t d, .v (.c (.v (.int k r))))]⟩
  | shl {d : Tmp} {x y : Operand} {k yk : IntKind} {a b m r : Int} {t ty rt : TypeId} {pos : String} {af : Array Edge} {g : Option (Nat × Bool)} :
      opv s x = some (.c (.v (.int k a))) → opv s y = some (.c (.v (.int yk b))) → 0 ≤ b → Sh k b m → Wr k (a * m) r → Nat.blt d c.N = true → Ev c s ⟨some d, .binOp .shl t x y ty, rt, pos, af, g⟩ ⟨opk x ++ opk y, [(.t d, .v (.c (.v (.int k r))))]⟩
  | shr {d : Tmp} {x y : Operand} {k yk : IntKind} {a b m : Int} {t ty rt : TypeId} {pos : String} {af : Array Edge} {g : Option (Nat × Bool)} :
      opv s x = some (.c (.v (.int k a))) → opv s y = some (.c (.v (.int yk b))) → 0 ≤ b → Sh k b m → Nat.blt d c.N = true → Ev c s ⟨some d, .binOp .shr t x y ty, rt, pos, af, g⟩ ⟨opk x ++ opk y, [(.t d, .v (.c (.v (.int k (a / m)))))]⟩
  | lss {d : Tmp} {x y : Operand} {k : IntKind} {a b : Int} {r : Bool} {t ty rt : TypeId} {pos : String} {af : Array Edge} {g : Option (Nat × Bool)} :
      opv s x = some (.c (.v (.int k a))) → opv s y = some (.c (.v (.int k b))) → Tv (decide (a < b)) r → Nat.blt d c.N = true → Ev c s ⟨some d, .binOp .lss t x y ty, rt, pos, af, g⟩ ⟨opk x ++ opk y, [(.t d, .v (.c (.v (.bool r))))]⟩
  | leq {d : Tmp} {x y : Operand} {k : IntKind} {a b : Int} {r : Bool} {t ty rt : TypeId} {pos : String} {af : Array Edge} {g : Option (Nat × Bool)} :
      opv s x = some (.c (.v (.int k a))) → opv s y = some (.c (.v (.int k b))) → Tv (decide (a ≤ b)) r → Nat.blt d c.N = true → Ev c s ⟨some d, .binOp .leq t x y ty, rt, pos, af, g⟩ ⟨opk x ++ opk y, [(.t d, .v (.c (.v (.bool r))))]⟩
  | gtr {d : Tmp} {x y : Operand} {k : IntKind} {a b : Int} {r : Bool} {t ty rt : TypeId} {pos : String} {af : Array Edge} {g : Option (Nat × Bool)} :
      opv s x = some (.c (.v (.int k a))) → opv s y = some (.c (.v (.int k b))) → Tv (decide (b < a)) r → Nat.blt d c.N = true → Ev c s ⟨some d, .binOp .gtr t x y ty, rt, pos, af, g⟩ ⟨opk x ++ opk y, [(.t d, .v (.c (.v (.bool r))))]⟩
  | geq {d : Tmp} {x y : Operand} {k : IntKind} {a b : Int} {r : Bool} {t ty rt : TypeId} {pos : String} {af : Array Edge} {g : Option (Nat × Bool)} :
      opv s x = some (.c (.v (.int k a))) → opv s y = some (.c (.v (.int k b))) → Tv (decide (b ≤ a)) r → Nat.blt d c.N = true → Ev c s ⟨some d, .binOp .geq t x y ty, rt, pos, af, g⟩ ⟨opk x ++ opk y, [(.t d, .v (.c (.v (.bool r))))]⟩
  | eql {d : Tmp} {x y : Operand} {k : IntKind} {a b : Int} {r : Bool} {t ty rt : TypeId} {pos : String} {af : Array Edge} {g : Option (Nat × Bool)} :
      opv s x = some (.c (.v (.int k a))) → opv s y = some (.c (.v (.int k b))) → Tv (a == b) r → Nat.blt d c.N = true → Ev c s ⟨some d, .binOp .eql t x y ty, rt, pos, af, g⟩ ⟨opk x ++ opk y, [(.t d, .v (.c (.v (.bool r))))]⟩
  | neq {d : Tmp} {x y : Operand} {k : IntKind} {a b : Int} {r : Bool} {t ty rt : TypeId} {pos : String} {af : Array Edge} {g : Option (Nat × Bool)} :
      opv s x = some (.c (.v (.int k a))) → opv s y = some (.c (.v (.int k b))) → Tv (a != b) r → Nat.blt d c.N = true → Ev c s ⟨some d, .binOp .neq t x y ty, rt, pos, af, g⟩ ⟨opk x ++ opk y, [(.t d, .v (.c (.v (.bool r))))]⟩
  | eqlB {d : Tmp} {x y : Operand} {a b r : Bool} {t ty rt : TypeId} {pos : String} {af : Array Edge} {g : Option (Nat × Bool)} :
      opv s x = some (.c (.v (.bool a))) → opv s y = some (.c (.v (.bool b))) → c.P.underlying t = some .bool → Tv (a == b) r → Nat.blt d c.N = true → Ev c s ⟨some d, .binOp .eql t x y ty, rt, pos, af, g⟩ ⟨opk x ++ opk y, [(.t d, .v (.c (.v (.bool r))))]⟩
  | neqB {d : Tmp} {x y : Operand} {a b r : Bool} {t ty rt : TypeId} {pos : String} {af : Array Edge} {g : Option (Nat × Bool)} :
      opv s x = some (.c (.v (.bool a))) → opv s y = some (.c (.v (.bool b))) → c.P.underlying t = some .bool → Tv (a != b) r → Nat.blt d c.N = true → Ev c s ⟨some d, .binOp .neq t x y ty, rt, pos, af, g⟩ ⟨opk x ++ opk y, [(.t d, .v (.c (.v (.bool r))))]⟩
  | eqlA {d : Tmp} {x y : Operand} {L M : List Value} {r : Bool} {t ty rt : TypeId} {pos : String} {af : Array Edge} {g : Option (Nat × Bool)} :
      opv s x = some (.c (.v (.agg L.toArray))) → opv s y = some (.c (.v (.agg M.toArray))) → EqOk c.P t L M → Tv (eqs L M) r → Nat.blt d c.N = true → Ev c s ⟨some d, .binOp .eql t x y ty, rt, pos, af, g⟩ ⟨opk x ++ opk y, [(.t d, .v (.c (.v (.bool r))))]⟩
  | neqA {d : Tmp} {x y : Operand} {L M : List Value} {r : Bool} {t ty rt : TypeId} {pos : String} {af : Array Edge} {g : Option (Nat × Bool)} :
      opv s x = some (.c (.v (.agg L.toArray))) → opv s y = some (.c (.v (.agg M.toArray))) → EqOk c.P t L M → Tv (!eqs L M) r → Nat.blt d c.N = true → Ev c s ⟨some d, .binOp .neq t x y ty, rt, pos, af, g⟩ ⟨opk x ++ opk y, [(.t d, .v (.c (.v (.bool r))))]⟩
  | bin {d : Tmp} {op : BinOp} {x y : Operand} {X Y Z : Value} {t ty rt : TypeId} {pos : String} {af : Array Edge} {g : Option (Nat × Bool)} :
      opv s x = some (.c (.v X)) → opv s y = some (.c (.v Y)) → RunS c.P (do eqGuard op t x y X Y; binOp op t X Y : Sem Value) Z → Nat.blt d c.N = true → Ev c s ⟨some d, .binOp op t x y ty, rt, pos, af, g⟩ ⟨opk x ++ opk y, [(.t d, .v (.c (.v Z)))]⟩
  | not {d : Tmp} {x : Operand} {b r : Bool} {t rt : TypeId} {pos : String} {af : Array Edge} {g : Option (Nat × Bool)} :
      opv s x = some (.c (.v (.bool b))) → Tv (!b) r → Nat.blt d c.N = true → Ev c s ⟨some d, .unOp .not t x, rt, pos, af, g⟩ ⟨opk x, [(.t d, .v (.c (.v (.bool r))))]⟩
  | neg {d : Tmp} {x : Operand} {k : IntKind} {a r : Int} {t rt : TypeId} {pos : String} {af : Array Edge} {g : Option (Nat × Bool)} :
      opv s x = some (.c (.v (.int k a))) → Wr k (-a) r → Nat.blt d c.N = true → Ev c s ⟨some d, .unOp .neg t x, rt, pos, af, g⟩ ⟨opk x, [(.t d, .v (.c (.v (.int k r))))]⟩
  | un {d : Tmp} {op : UnOp} {x : Operand} {X Z : Value} {t rt : TypeId} {pos : String} {af : Array Edge} {g : Option (Nat × Bool)} :
      opv s x = some (.c (.v X)) → RunS c.P (Op.unary op X) Z → Nat.blt d c.N = true → Ev c s ⟨some d, .unOp op t x, rt, pos, af, g⟩ ⟨opk x, [(.t d, .v (.c (.v Z)))]⟩
  | conv {d : Tmp} {x : Operand} {k k' : IntKind} {n r : Int} {e : TypeDesc} {src dst rt : TypeId} {pos : String} {af : Array Edge} {g : Option (Nat × Bool)} :
      opv s x = some (.c (.v (.int k n))) → c.P.underlying src = some e → c.P.underlying dst = some (.int k') → Wr k' n r → Nat.blt d c.N = true → Ev c s ⟨some d, .convert src dst x, rt, pos, af, g⟩ ⟨opk x, [(.t d, .v (.c (.v (.int k' r))))]⟩
  | convert {d : Tmp} {x : Operand} {X Z : Value} {src dst rt : TypeId} {pos : String} {af : Array Edge} {g : Option (Nat × Bool)} :
      opv s x = some (.c (.v X)) → RunS c.P (Go.convert src dst X) Z → Nat.blt d c.N = true → Ev c s ⟨some d, .convert src dst x, rt, pos, af, g⟩ ⟨opk x, [(.t d, .v (.c (.v Z)))]⟩
  | extract {d : Tmp} {x : Operand} {l : List Value} {i : Nat} {Z : Value} {rt : TypeId} {pos : String} {af : Array Edge} {g : Option (Nat × Bool)} :
      opv s x = some (.c (.v (.tuple l.toArray))) → l[i]? = some Z → Nat.blt d c.N = true → Ev c s ⟨some d, .extract x i, rt, pos, af, g⟩ ⟨opk x, [(.t d, .v (.c (.v Z)))]⟩
  | extractC {d : Tmp} {x : Operand} {l : List (C ⊕ List C)} {i : Nat} {z : C} {rt : TypeId} {pos : String} {af : Array Edge} {g : Option (Nat × Bool)} :
      opv s x = some (.t l) → l[i]? = some (.inl z) → Nat.blt d c.N = true → Ev c s ⟨some d, .extract x i, rt, pos, af, g⟩ ⟨opk x, [(.t d, .v (.c z))]⟩
  | extractA {d : Tmp} {x : Operand} {l : List (C ⊕ List C)} {i : Nat} {z : List C} {rt : TypeId} {pos : String} {af : Array Edge} {g : Option (Nat × Bool)} :
      opv s x = some (.t l) → l[i]? = some (.inr z) → Nat.blt d c.N = true → Ev c s ⟨some d, .extract x i, rt, pos, af, g⟩ ⟨opk x, [(.t d, .v (.a z))]⟩
  | field {d : Tmp} {x : Operand} {X Z : Value} {t rt : TypeId} {i : Nat} {pos : String} {af : Array Edge} {g : Option (Nat × Bool)} :
      opv s x = some (.c (.v X)) → RunS c.P (Instr.field t X i) Z → Nat.blt d c.N = true → Ev c s ⟨some d, .field t x i, rt, pos, af, g⟩ ⟨opk x, [(.t d, .v (.c (.v Z)))]⟩
  | fieldC {d : Tmp} {x : Operand} {l : List C} {z : C} {o : Nat} {t rt : TypeId} {i : Nat} {pos : String} {af : Array Edge} {g : Option (Nat × Bool)} :
      opv s x = some (.a l) → (∀ (A : Array Value) v w, A[o]? = some v → (Instr.field t (.agg A) i).run c.P w = .ok v w) → l[o]? = some z → Nat.blt d c.N = true → Ev c s ⟨some d, .field t x i, rt, pos, af, g⟩ ⟨opk x, [(.t d, .v (.c z))]⟩
  | index1 {d : Tmp} {x y : Operand} {L : List Value} {k : IntKind} {i : Int} {len : Nat} {e : TypeId} {Z : Value} {t rt : TypeId} {pos : String} {af : Array Edge} {g : Option (Nat × Bool)} :
      opv s x = some (.c (.v (.agg L.toArray))) → opv s y = some (.c (.v (.int k i))) → c.P.underlying t = some (.array len e) → (∀ w, (isAgg e).run c.P w = .ok false w) → (c.P.info? e).map (·.size) = some 1 → 0 ≤ i ∧ i < len → L[i.toNat]? = some Z → Nat.blt d c.N = true → Ev c s ⟨some d, .index t x y, rt, pos, af, g⟩ ⟨opk x ++ opk y, [(.t d, .v (.c (.v Z)))]⟩
  | index {d : Tmp} {x y : Operand} {X Y Z : Value} {t rt : TypeId} {pos : String} {af : Array Edge} {g : Option (Nat × Bool)} :
      opv s x = some (.c (.v X)) → opv s y = some (.c (.v Y)) → RunS c.P (Instr.index t X Y) Z → Nat.blt d c.N = true → Ev c s ⟨some d, .index t x y, rt, pos, af, g⟩ ⟨opk x ++ opk y, [(.t d, .v (.c (.v Z)))]⟩
  | fieldAddr {d : Tmp} {x : Operand} {n o o' : Nat} {t rt : TypeId} {i : Nat} {pos : String} {af : Array Edge} {g : Option (Nat × Bool)} :
      opv s x = some (.c (.p n o)) → RunP c.P (fun b => Instr.fieldAt t (.pointer (some ⟨b, o, none⟩)) i) o' → Nat.blt d c.N = true → Ev c s ⟨some d, .fieldAddr t x i, rt, pos, af, g⟩ ⟨opk x, [(.t d, .v (.c (.p n o')))]⟩
  | fieldAddrV {d : Tmp} {x : Operand} {X Z : Value} {t rt : TypeId} {i : Nat} {pos : String} {af : Array Edge} {g : Option (Nat × Bool)} :
      opv s x = some (.c (.v X)) → RunS c.P (Instr.fieldAt t X i) Z → Nat.blt d c.N = true → Ev c s ⟨some d, .fieldAddr t x i, rt, pos, af, g⟩ ⟨opk x, [(.t d, .v (.c (.v Z)))]⟩
  | indexAddr {d : Tmp} {x y : Operand} {n o o' : Nat} {Y : Value} {t rt : TypeId} {pos : String} {af : Array Edge} {g : Option (Nat × Bool)} :
      opv s x = some (.c (.p n o)) → opv s y = some (.c (.v Y)) → RunP c.P (fun b => Instr.indexAt t (.pointer (some ⟨b, o, none⟩)) Y) o' → Nat.blt d c.N = true → Ev c s ⟨some d, .indexAddr t x y, rt, pos, af, g⟩ ⟨opk x ++ opk y, [(.t d, .v (.c (.p n o')))]⟩
  | indexAddrS {d : Tmp} {x y : Operand} {n o len cap o' : Nat} {Y : Value} {t rt : TypeId} {pos : String} {af : Array Edge} {g : Option (Nat × Bool)} :
      opv s x = some (.c (.s n o len cap)) → opv s y = some (.c (.v Y)) → RunP c.P (fun b => Instr.indexAt t (.slice (some ⟨b, o, none⟩) len cap) Y) o' → Nat.blt d c.N = true → Ev c s ⟨some d, .indexAddr t x y, rt, pos, af, g⟩ ⟨opk x ++ opk y, [(.t d, .v (.c (.p n o')))]⟩
  | indexAddrV {d : Tmp} {x y : Operand} {X Y Z : Value} {t rt : TypeId} {pos : String} {af : Array Edge} {g : Option (Nat × Bool)} :
      opv s x = some (.c (.v X)) → opv s y = some (.c (.v Y)) → RunS c.P (Instr.indexAt t X Y) Z → Nat.blt d c.N = true → Ev c s ⟨some d, .indexAddr t x y, rt, pos, af, g⟩ ⟨opk x ++ opk y, [(.t d, .v (.c (.v Z)))]⟩
  | slice {d : Tmp} {x : Operand} {n o o' len cap : Nat} {lo hi mx : Option Operand} {lo' hi' mx' : Option Value} {t rt : TypeId} {pos : String} {af : Array Edge} {g : Option (Nat × Bool)} {k1 k2 k3 : List Key} :
      opv s x = some (.c (.p n o)) → OptV s lo lo' k1 → OptV s hi hi' k2 → OptV s mx mx' k3 → RunL c.P (fun b => Instr.sliceAt t (.pointer (some ⟨b, o, none⟩)) lo' hi' mx') o' len cap → Nat.blt d c.N = true →
      Ev c s ⟨some d, .slice t x lo hi mx, rt, pos, af, g⟩ ⟨opk x ++ (k1 ++ (k2 ++ k3)), [(.t d, .v (.c (.s n o' len cap)))]⟩
  | sliceS {d : Tmp} {x : Operand} {n o l k o' len cap : Nat} {lo hi mx : Option Operand} {lo' hi' mx' : Option Value} {t rt : TypeId} {pos : String} {af : Array Edge} {g : Option (Nat × Bool)} {k1 k2 k3 : List Key} :
      opv s x = some (.c (.s n o l k)) → OptV s lo lo' k1 → OptV s hi hi' k2 → OptV s mx mx' k3 → RunL c.P (fun b => Instr.sliceAt t (.slice (some ⟨b, o, none⟩) l k) lo' hi' mx') o' len cap → Nat.blt d c.N = true →
      Ev c s ⟨some d, .slice t x lo hi mx, rt, pos, af, g⟩ ⟨opk x ++ (k1 ++ (k2 ++ k3)), [(.t d, .v (.c (.s n o' len cap)))]⟩
  | sliceV {d : Tmp} {x : Operand} {X Z : Value} {lo hi mx : Option Operand} {lo' hi' mx' : Option Value} {t rt : TypeId} {pos : String} {af : Array Edge} {g : Option (Nat × Bool)} {k1 k2 k3 : List Key} :
      opv s x = some (.c (.v X)) → OptV s lo lo' k1 → OptV s hi hi' k2 → OptV s mx mx' k3 → RunS c.P (Instr.sliceAt t X lo' hi' mx') Z → Nat.blt d c.N = true →
      Ev c s ⟨some d, .slice t x lo hi mx, rt, pos, af, g⟩ ⟨opk x ++ (k1 ++ (k2 ++ k3)), [(.t d, .v (.c (.v Z)))]⟩
  | load {d : Tmp} {x : Operand} {n o : Nat} {z : C} {t rt : TypeId} {pos : String} {af : Array Edge} {g : Option (Nat × Bool)} :
      opv s x = some (.c (.p n o)) → s (.c n o) = some (.c z) → (∀ w, (isAgg t).run c.P w = .ok false w) → Nat.blt d c.N = true → Ev c s ⟨some d, .load t x, rt, pos, af, g⟩ ⟨.c n o :: opk x, [(.t d, .v (.c z))]⟩
  | loadA {d : Tmp} {x : Operand} {n o k : Nat} {l : List C} {L : List Value} {ks : List Key} {e : TypeDesc} {t rt : TypeId} {pos : String} {af : Array Edge} {g : Option (Nat × Bool)} :
      opv s x = some (.c (.p n o)) → c.P.underlying t = some e → e.isRow = true → (c.P.info? t).map (·.size) = some k → CellsAt s n o k l ks → Plain l L → Nat.blt d c.N = true → Ev c s ⟨some d, .load t x, rt, pos, af, g⟩ ⟨opk x ++ ks, [(.t d, .v (.c (.v (.agg L.toArray))))]⟩
  | loadM {d : Tmp} {x : Operand} {n o k : Nat} {l : List C} {ks : List Key} {e : TypeDesc} {t rt : TypeId} {pos : String} {af : Array Edge} {g : Option (Nat × Bool)} :
      opv s x = some (.c (.p n o)) → c.P.underlying t = some e → e.isRow = true → (c.P.info? t).map (·.size) = some k → CellsAt s n o k l ks → Nat.blt d c.N = true → Ev c s ⟨some d, .load t x, rt, pos, af, g⟩ ⟨opk x ++ ks, [(.t d, .v (.a l))]⟩
  | loadO {d : Tmp} {x : Operand} {b o : Nat} {z : Value} {t rt : TypeId} {pos : String} {af : Array Edge} {g : Option (Nat × Bool)} :
      opv s x = some (.c (.v (.pointer (some ⟨b, o, none⟩)))) → c.w0.cell? ⟨b, o, none⟩ = some z → (∀ n, n < c.m → c.ini n ≠ b) → (∀ w, (isAgg t).run c.P w = .ok false w) → Nat.blt d c.N = true → Ev c s ⟨some d, .load t x, rt, pos, af, g⟩ ⟨opk x, [(.t d, .v (.c (.v z)))]⟩
  | loadOA {d : Tmp} {x : Operand} {b o : Nat} {L : List Value} {e : TypeDesc} {t rt : TypeId} {pos : String} {af : Array Edge} {g : Option (Nat × Bool)} :
      opv s x = some (.c (.v (.pointer (some ⟨b, o, none⟩)))) → c.P.underlying t = some e → e.isRow = true → c.w0.rangeAt b o L → (c.P.info? t).map (·.size) = some L.length → (∀ n, n < c.m → c.ini n ≠ b) → b < c.B → Nat.blt d c.N = true → Ev c s ⟨some d, .load t x, rt, pos, af, g⟩ ⟨opk x, [(.t d, .v (.c (.v (.agg L.toArray))))]⟩
  | nilCheck {d : Tmp} {x : Operand} {n o : Nat} {rt : TypeId} {pos : String} {af : Array Edge} {g : Option (Nat × Bool)} :
      opv s x = some (.c (.p n o)) → Nat.blt d c.N = true → Ev c s ⟨some d, .nilCheck x, rt, pos, af, g⟩ ⟨opk x, [(.t d, .v (.c (.p n o)))]⟩
  | nilCheckV {d : Tmp} {x : Operand} {p : Addr} {rt : TypeId} {pos : String} {af : Array Edge} {g : Option (Nat × Bool)} :
      opv s x = some (.c (.v (.pointer (some p)))) → Nat.blt d c.N = true → Ev c s ⟨some d, .nilCheck x, rt, pos, af, g⟩ ⟨opk x, [(.t d, .v (.c (.v (.pointer (some p)))))]⟩
  | makeFunc {d : Tmp} {f : FuncId} {xs : List Operand} {l : List (Nat × Nat)} {ks : List Key} {rt : TypeId} {pos : String} {af : Array Edge} {g : Option (Nat × Bool)} :
      Caps s xs l ks → Nat.blt d c.N = true → Ev c s ⟨some d, .makeFunc (.func f) #[] xs.toArray, rt, pos, af, g⟩ ⟨ks, [(.t d, .v (.c (.f f l)))]⟩
  | min2 {d : Tmp} {x y : Operand} {k : IntKind} {a b : Int} {tys : Array TypeId} {rt : TypeId} {pos : String} {af : Array Edge} {g : Option (Nat × Bool)} :
      opv s x = some (.c (.v (.int k a))) → opv s y = some (.c (.v (.int k b))) → (∀ cs w, (Go.builtin .min tys rt cs #[.int k a, .int k b]).run c.P w = .ok (.value (.int k (if b < a then b else a))) w) → Nat.blt d c.N = true → Ev c s ⟨some d, .call ⟨.builtin .min, #[x, y], tys⟩, rt, pos, af, g⟩ ⟨opk x ++ opk y, [(.t d, .v (.c (.v (.int k (min a b)))))]⟩
  | max2 {d : Tmp} {x y : Operand} {k : IntKind} {a b : Int} {tys : Array TypeId} {rt : TypeId} {pos : String} {af : Array Edge} {g : Option (Nat × Bool)} :
      opv s x = some (.c (.v (.int k a))) → opv s y = some (.c (.v (.int k b))) → (∀ cs w, (Go.builtin .max tys rt cs #[.int k a, .int k b]).run c.P w = .ok (.value (.int k (if b > a then b else a))) w) → Nat.blt d c.N = true → Ev c s ⟨some d, .call ⟨.builtin .max, #[x, y], tys⟩, rt, pos, af, g⟩ ⟨opk x ++ opk y, [(.t d, .v (.c (.v (.int k (max a b)))))]⟩
  | min4 {d : Tmp} {x y z u' : Operand} {k : IntKind} {p q u v : Int} {tys : Array TypeId} {rt : TypeId} {pos : String} {af : Array Edge} {g : Option (Nat × Bool)} :
      opv s x = some (.c (.v (.int k p))) → opv s y = some (.c (.v (.int k q))) → opv s z = some (.c (.v (.int k u))) → opv s u' = some (.c (.v (.int k v))) → (∀ cs w, (Go.builtin .min tys rt cs #[.int k p, .int k q, .int k u, .int k v]).run c.P w = .ok (.value (.int k (if v < (if u < (if q < p then q else p) then u else (if q < p then q else p)) then v else (if u < (if q < p then q else p) then u else (if q < p then q else p))))) w) → Nat.blt d c.N = true → Ev c s ⟨some d, .call ⟨.builtin .min, #[x, y, z, u'], tys⟩, rt, pos, af, g⟩ ⟨opk x ++ (opk y ++ (opk z ++ opk u')), [(.t d, .v (.c (.v (.int k (min (min (min p q) u) v)))))]⟩
  | max4 {d : Tmp} {x y z u' : Operand} {k : IntKind} {p q u v : Int} {tys : Array TypeId} {rt : TypeId} {pos : String} {af : Array Edge} {g : Option (Nat × Bool)} :
      opv s x = some (.c (.v (.int k p))) → opv s y = some (.c (.v (.int k q))) → opv s z = some (.c (.v (.int k u))) → opv s u' = some (.c (.v (.int k v))) → (∀ cs w, (Go.builtin .max tys rt cs #[.int k p, .int k q, .int k u, .int k v]).run c.P w = .ok (.value (.int k (if v > (if u > (if q > p then q else p) then u else (if q > p then q else p)) then v else (if u > (if q > p then q else p) then u else (if q > p then q else p))))) w) → Nat.blt d c.N = true → Ev c s ⟨some d, .call ⟨.builtin .max, #[x, y, z, u'], tys⟩, rt, pos, af, g⟩ ⟨opk x ++ (opk y ++ (opk z ++ opk u')), [(.t d, .v (.c (.v (.int k (max (max (max p q) u) v)))))]⟩
  | pickT {d : Tmp} {x y z : Operand} {b : Bool} {v : V} {rt : TypeId} {pos : String} {af : Array Edge} {g : Option (Nat × Bool)} :
      opv s x = some (.c (.v (.bool b))) → Tk b true → opv s y = some v → Nat.blt d c.N = true → Ev c s ⟨some d, .pick x y z, rt, pos, af, g⟩ ⟨opk x ++ opk y, [(.t d, .v v)]⟩
  | pickF {d : Tmp} {x y z : Operand} {b : Bool} {v : V} {rt : TypeId} {pos : String} {af : Array Edge} {g : Option (Nat × Bool)} :
      opv s x = some (.c (.v (.bool b))) → Tk b false → opv s z = some v → Nat.blt d c.N = true → Ev c s ⟨some d, .pick x y z, rt, pos, af, g⟩ ⟨opk x ++ opk z, [(.t d, .v v)]⟩
  | builtin {d : Tmp} {b : Builtin} {xs : List Operand} {L : List Value} {l : List V} {ks : List Key} {tys : Array TypeId} {Z : Value} {rt : TypeId} {pos : String} {af : Array Edge} {g : Option (Nat × Bool)} :
      Vals s xs l ks → LeafL l L → (∀ cs w, (Go.builtin b tys rt cs L.toArray).run c.P w = .ok (.value Z) w) → Nat.blt d c.N = true → Ev c s ⟨some d, .call ⟨.builtin b, xs.toArray, tys⟩, rt, pos, af, g⟩ ⟨ks, [(.t d, .v (.c (.v Z)))]⟩
  | lenS {d : Tmp} {b : Builtin} {x : Operand} {n o l k : Nat} {Z : Value} {tys : Array TypeId} {rt : TypeId} {pos : String} {af : Array Edge} {g : Option (Nat × Bool)} :
      opv s x = some (.c (.s n o l k)) → (∀ bl cs w, (Go.builtin b tys rt cs #[.slice (some ⟨bl, o, none⟩) l k]).run c.P w = .ok (.value Z) w) → Nat.blt d c.N = true → Ev c s ⟨some d, .call ⟨.builtin b, #[x], tys⟩, rt, pos, af, g⟩ ⟨opk x, [(.t d, .v (.c (.v Z)))]⟩
  | build1 {d : Tmp} {ps : List (Nat × Operand)} {xs : List Operand} {l : List V} {L : List Value} {ks : List Key} {t rt : TypeId} {pos : String} {af : Array Edge} {g : Option (Nat × Bool)} :
      Is (ps.map (·.2)) xs → Vals s xs l ks → LeafL l L → c.P.built t ((ps.map (·.1)).zip L) = some L.toArray → Nat.blt d c.N = true → Ev c s ⟨some d, .build t ps.toArray, rt, pos, af, g⟩ ⟨ks, [(.t d, .v (.c (.v (.agg L.toArray))))]⟩
  | build {d : Tmp} {ps : List (Nat × Operand)} {xs : List Operand} {l : List V} {L : List Value} {ks : List Key} {Z : Value} {t rt : TypeId} {pos : String} {af : Array Edge} {g : Option (Nat × Bool)} :
      Is (ps.map (·.2)) xs → Vals s xs l ks → LeafL l L → RunS c.P (Instr.build t ((ps.map (·.1)).zip L).toArray) Z → Nat.blt d c.N = true → Ev c s ⟨some d, .build t ps.toArray, rt, pos, af, g⟩ ⟨ks, [(.t d, .v (.c (.v Z)))]⟩

section
variable {c : Ctx} {F : Fence} {nn : Nat} {σ : Sf}
theorem den_p {ids : Nat → Nat} {n o : Nat} : (C.p n o).den ids = .pointer (some ⟨ids n, o, none⟩) := rfl
theorem run_bin {P : Program} {w : World} {a : Act} {d : Option Tmp} {op : BinOp} {x y : Operand} {X Y Z : Value} {t ty rt : TypeId} {pos : String} {af : Array Edge} {g : Option (Nat × Bool)} (hx : a.eval x = X) (hy : a.eval y = Y)
    (h : (do eqGuard op t x y X Y; binOp op t X Y : Sem Value).run P w = .ok Z w) : (execOp a.eval ⟨d, .binOp op t x y ty, rt, pos, af, g⟩).run P w = .ok (.value Z) w := by
  simp only [execOp, hx, hy, Sem.run_bind, Sem.run_pure, Result.andThen_ok] at h ⊢
  simp [h]
theorem run_int {P : Program} {w : World} {a : Act} {d : Option Tmp} {op : BinOp} {x y : Operand} {k k' : IntKind} {p q : Int} {Z : Value} {t ty rt : TypeId} {pos : String} {af : Array Edge} {g : Option (Nat × Bool)} (hx : a.eval x = .int k p) (hy : a.eval y = .int k' q)
    (h : (binOp op t (.int k p) (.int k' q)).run P w = .ok Z w) : (execOp a.eval ⟨d, .binOp op t x y ty, rt, pos, af, g⟩).run P w = .ok (.value Z) w := by
  refine run_bin hx hy ?_
  have : eqGuard op t x y (.int k p) (.int k' q) = pure () := by unfold eqGuard; cases op <;> rfl
  rw [this]; simpa using h
theorem Ev.sound (hF : WideLike F) {o : Oper} {t : Tr} (h : Ev c σ o t) : LocalO c F nn o σ t := by
  have nil : ∀ {rd : List Key} {x : Value}, ∀ n ∈ (V.c (C.v x)).names, ∃ q ∈ rd, ∃ y, σ q = some y ∧ n ∈ y.names := fun n hn => by cases hn
  cases h with
  | move hx hN =>
    refine LocalO.val hF rfl hN (noDefer rfl) (fun n hn => opv_names hx hn) fun s ids a w hag hR => ?_
    simp [execOp, ev1 hx hag (fun q h => h) hR]
  | assign hx hN =>
    refine LocalO.val hF rfl hN (noDefer rfl) (fun n hn => opv_names hx hn) fun s ids a w hag hR => ?_
    simp [execOp, ev1 hx hag (fun q h => h) hR]
  | add hx hy hr hN | sub hx hy hr hN | mul hx hy hr hN =>
    obtain ⟨rfl⟩ := hr
    refine LocalO.val hF rfl hN (noDefer rfl) nil fun s ids a w hag hR => run_int (ev1 hx hag (fun q h => by simp [h]) hR) (ev1 hy hag (fun q h => by simp [h]) hR) ?_
    simp [binOp, Op.intArith, V.den, C.den]
  | quo hx hy hb hr hN =>
    obtain ⟨rfl⟩ := hr
    refine LocalO.val hF rfl hN (noDefer rfl) nil fun s ids a w hag hR => run_int (ev1 hx hag (fun q h => by simp [h]) hR) (ev1 hy hag (fun q h => by simp [h]) hR) ?_
    simp [binOp, Op.intDiv, V.den, C.den, hb]
  | rem hx hy hb hr hN =>
    obtain ⟨rfl⟩ := hr
    refine LocalO.val hF rfl hN (noDefer rfl) nil fun s ids a w hag hR => run_int (ev1 hx hag (fun q h => by simp [h]) hR) (ev1 hy hag (fun q h => by simp [h]) hR) ?_
    simp [binOp, Op.intDiv, V.den, C.den, hb]
  | @shl d x y k yk a b m r t ty rt pos af g hx hy hb hm hr hN =>
    obtain ⟨rfl⟩ := hr
    refine LocalO.val hF rfl hN (noDefer rfl) nil fun s ids a w hag hR => run_int (ev1 hx hag (fun q h => by simp [h]) hR) (ev1 hy hag (fun q h => by simp [h]) hR) ?_
    have hb' : ¬ b < 0 := by omega
    have hm' : (2 ^ (min b.toNat k.bits) : Int) = m := hm.eq
    simp [binOp, Op.shift, V.den, C.den, hb', hm']
  | @shr d x y k yk a b m t ty rt pos af g hx hy hb hm hN =>
    refine LocalO.val hF rfl hN (noDefer rfl) nil fun s ids a w hag hR => run_int (ev1 hx hag (fun q h => by simp [h]) hR) (ev1 hy hag (fun q h => by simp [h]) hR) ?_
    have hb' : ¬ b < 0 := by omega
    have hm' : (2 ^ (min b.toNat k.bits) : Int) = m := hm.eq
    have hp : 0 ≤ m := by rw [← hm']; exact Int.le_of_lt (Int.pow_pos (by omega))
    simp [binOp, Op.shift, V.den, C.den, hb', hm', Int.fdiv_eq_ediv_of_nonneg _ hp]
  | lss hx hy hr hN | leq hx hy hr hN | gtr hx hy hr hN | geq hx hy hr hN | eql hx hy hr hN | neq hx hy hr hN =>
    obtain ⟨rfl⟩ := hr
    refine LocalO.val hF rfl hN (noDefer rfl) nil fun s ids a w hag hR => run_int (ev1 hx hag (fun q h => by simp [h]) hR) (ev1 hy hag (fun q h => by simp [h]) hR) ?_
    simp [binOp, Op.intCmp, V.den, C.den]
  | @eqlB d x y a b r t ty rt pos af g hx hy hu hr hN =>
    obtain ⟨rfl⟩ := hr
    refine LocalO.val hF rfl hN (noDefer rfl) nil fun s ids act w hag hR => run_bin (ev1 hx hag (fun q h => by simp [h]) hR) (ev1 hy hag (fun q h => by simp [h]) hR) ?_
    have e : eqGuard .eql t x y ((V.c (C.v (.bool a))).den ids) ((V.c (C.v (.bool b))).den ids) = pure () := rfl
    rw [e]; simpa [V.den, C.den] using run_eql_bool (P := c.P) w t a b hu
  | @neqB d x y a b r t ty rt pos af g hx hy hu hr hN =>
    obtain ⟨rfl⟩ := hr
    refine LocalO.val hF rfl hN (noDefer rfl) nil fun s ids act w hag hR => run_bin (ev1 hx hag (fun q h => by simp [h]) hR) (ev1 hy hag (fun q h => by simp [h]) hR) ?_
    have e : eqGuard .neq t x y ((V.c (C.v (.bool a))).den ids) ((V.c (C.v (.bool b))).den ids) = pure () := rfl
    rw [e]; simpa [V.den, C.den, bne] using run_neq_bool (P := c.P) w t a b hu
  | @eqlA d x y L M r t ty rt pos af g hx hy hu hr hN =>
    obtain ⟨rfl⟩ := hr
    refine LocalO.val hF rfl hN (noDefer rfl) nil fun s ids act w hag hR => run_bin (ev1 hx hag (fun q h => by simp [h]) hR) (ev1 hy hag (fun q h => by simp [h]) hR) ?_
    obtain ⟨h1, h2, h3⟩ := hu.eql w
    simp only [V.den, C.den, Sem.run_bind, run_eqGuard_agg w _ t x y _ _ h3, Result.andThen_ok, h1]
  | @neqA d x y L M r t ty rt pos af g hx hy hu hr hN =>
    obtain ⟨rfl⟩ := hr
    refine LocalO.val hF rfl hN (noDefer rfl) nil fun s ids act w hag hR => run_bin (ev1 hx hag (fun q h => by simp [h]) hR) (ev1 hy hag (fun q h => by simp [h]) hR) ?_
    obtain ⟨h1, h2, h3⟩ := hu.eql w
    simp only [V.den, C.den, Sem.run_bind, run_eqGuard_agg w _ t x y _ _ h3, Result.andThen_ok, h2]
  | bin hx hy hrun hN =>
    exact LocalO.val hF rfl hN (noDefer rfl) nil fun s ids a w hag hR => run_bin (ev1 hx hag (fun q h => by simp [h]) hR) (ev1 hy hag (fun q h => by simp [h]) hR) (hrun.eq w)
  | not hx hr hN =>
    obtain ⟨rfl⟩ := hr
    refine LocalO.val hF rfl hN (noDefer rfl) nil fun s ids a w hag hR => ?_
    simp [execOp, ev1 hx hag (fun q h => h) hR, V.den, C.den, Op.unary]
  | neg hx hr hN =>
    obtain ⟨rfl⟩ := hr
    refine LocalO.val hF rfl hN (noDefer rfl) nil fun s ids a w hag hR => ?_
    simp [execOp, ev1 hx hag (fun q h => h) hR, V.den, C.den, Op.unary, Op.intArith]
  | un hx hrun hN =>
    refine LocalO.val hF rfl hN (noDefer rfl) nil fun s ids a w hag hR => ?_
    simp [execOp, ev1 hx hag (fun q h => h) hR, V.den, C.den, hrun.eq]
  | @conv d x k k' n r e src dst rt pos af g hx he hk hr hN =>
    obtain ⟨rfl⟩ := hr
    refine LocalO.val hF rfl hN (noDefer rfl) nil fun s ids a w hag hR => ?_
    simp only [execOp, ev1 hx hag (fun q h => h) hR, V.den, C.den]
    have e1 : (underlying src).run c.P w = .ok e w := run_underlying he w
    have e2 : (underlying dst).run c.P w = .ok (.int k') w := run_underlying hk w
    simp [Go.convert, e1, e2, Conv.intToInt]
  | convert hx hrun hN =>
    refine LocalO.val hF rfl hN (noDefer rfl) nil fun s ids a w hag hR => ?_
    simp [execOp, ev1 hx hag (fun q h => h) hR, V.den, C.den, hrun.eq]
  | extract hx hl hN =>
    refine LocalO.val hF rfl hN (noDefer rfl) nil fun s ids a w hag hR => ?_
    simp [execOp, ev1 hx hag (fun q h => h) hR, V.den, C.den, Instr.extract, hl]
  | extractC hx hl hN =>
    refine LocalO.val hF rfl hN (noDefer rfl) (fun n hn => opv_names hx (by simp only [V.names, List.mem_flatMap]; exact ⟨_, List.mem_of_getElem? hl, hn⟩)) fun s ids a w hag hR => ?_
    simp [execOp, ev1 hx hag (fun q h => h) hR, V.den, Instr.extract, hl, denP]
  | extractA hx hl hN =>
    refine LocalO.val hF rfl hN (noDefer rfl) (fun n hn => opv_names hx (by simp only [V.names, List.mem_flatMap]; exact ⟨_, List.mem_of_getElem? hl, hn⟩)) fun s ids a w hag hR => ?_
    simp [execOp, ev1 hx hag (fun q h => h) hR, V.den, Instr.extract, hl, denP]
  | field hx hrun hN =>
    refine LocalO.val hF rfl hN (noDefer rfl) nil fun s ids a w hag hR => ?_
    simp [execOp, ev1 hx hag (fun q h => h) hR, V.den, C.den, hrun.eq]
  | @fieldC d x l z o t rt i pos af g hx hrun hl hN =>
    refine LocalO.val hF rfl hN (noDefer rfl) (fun n hn => opv_names hx (by simp only [V.names, List.mem_flatMap] at hn ⊢; exact ⟨_, List.mem_of_getElem? hl, hn⟩)) fun s ids a w hag hR => ?_
    have := hrun ((List.map (C.den ids) l).toArray) (z.den ids) w (by simp only [List.getElem?_toArray, List.getElem?_map, hl, Option.map_some])
    simp [execOp, ev1 hx hag (fun q h => h) hR, V.den, this]
  | @index1 d x y L k i len e Z t rt pos af g hx hy hu ha hs hi hL hN =>
    refine LocalO.val hF rfl hN (noDefer rfl) nil fun s ids a w hag hR => ?_
    have hsz : (sizeOf e).run c.P w = .ok 1 w := by
      cases hq : c.P.info? e with
      | none => rw [hq] at hs; cases hs
      | some inf =>
        rw [hq] at hs
        simp only [Option.map_some, Option.some.injEq] at hs
        simp [sizeOf, typeInfo, hq, hs]
    have e1 : (underlying t).run c.P w = .ok (.array len e) w := run_underlying hu w
    simp only [execOp, ev1 hx hag (fun q h => by simp [h]) hR, ev1 hy hag (fun q h => by simp [h]) hR, V.den, C.den]
    simp [Instr.index, asIntOf, e1, hi, hsz, part, ha, hL]
  | index hx hy hrun hN =>
    refine LocalO.val hF rfl hN (noDefer rfl) nil fun s ids a w hag hR => ?_
    simp [execOp, ev1 hx hag (fun q h => by simp [h]) hR, ev1 hy hag (fun q h => by simp [h]) hR, V.den, C.den, hrun.eq]
  | fieldAddr hx hrun hN =>
    refine LocalO.val hF rfl hN (noDefer rfl) (fun n hn => opv_names hx hn) fun s ids a w hag hR => ?_
    simp [execOp, ev1 hx hag (fun q h => h) hR, V.den, C.den, hrun.eq]
  | fieldAddrV hx hrun hN =>
    refine LocalO.val hF rfl hN (noDefer rfl) nil fun s ids a w hag hR => ?_
    simp [execOp, ev1 hx hag (fun q h => h) hR, V.den, C.den, hrun.eq]
  | indexAddr hx hy hrun hN =>
    refine LocalO.val hF rfl hN (noDefer rfl) (fun n hn => by obtain ⟨q, hq, z⟩ := opv_names hx hn; exact ⟨q, by simp [hq], z⟩) fun s ids a w hag hR => ?_
    simp [execOp, ev1 hx hag (fun q h => by simp [h]) hR, ev1 hy hag (fun q h => by simp [h]) hR, V.den, C.den, hrun.eq]
  | indexAddrS hx hy hrun hN =>
    refine LocalO.val hF rfl hN (noDefer rfl) (fun n hn => by obtain ⟨q, hq, z⟩ := opv_names hx hn; exact ⟨q, by simp [hq], z⟩) fun s ids a w hag hR => ?_
    simp [execOp, ev1 hx hag (fun q h => by simp [h]) hR, ev1 hy hag (fun q h => by simp [h]) hR, V.den, C.den, hrun.eq]
  | indexAddrV hx hy hrun hN =>
    refine LocalO.val hF rfl hN (noDefer rfl) nil fun s ids a w hag hR => ?_
    simp [execOp, ev1 hx hag (fun q h => by simp [h]) hR, ev1 hy hag (fun q h => by simp [h]) hR, V.den, C.den, hrun.eq]
  | slice hx hlo hhi hmx hrun hN =>
    refine LocalO.val hF rfl hN (noDefer rfl) (fun n hn => by obtain ⟨q, hq, z⟩ := opv_names hx hn; exact ⟨q, by simp [hq], z⟩) fun s ids a w hag hR => ?_
    simp only [execOp, ev1 hx hag (fun q h => by simp [h]) hR, V.den, C.den, hlo.agree (fun q hq => hag q (by simp [hq])) hR, hhi.agree (fun q hq => hag q (by simp [hq])) hR, hmx.agree (fun q hq => hag q (by simp [hq])) hR]
    simp [hrun.eq]
  | sliceS hx hlo hhi hmx hrun hN =>
    refine LocalO.val hF rfl hN (noDefer rfl) (fun n hn => by obtain ⟨q, hq, z⟩ := opv_names hx hn; exact ⟨q, by simp [hq], z⟩) fun s ids a w hag hR => ?_
    simp only [execOp, ev1 hx hag (fun q h => by simp [h]) hR, V.den, C.den, hlo.agree (fun q hq => hag q (by simp [hq])) hR, hhi.agree (fun q hq => hag q (by simp [hq])) hR, hmx.agree (fun q hq => hag q (by simp [hq])) hR]
    simp [hrun.eq]
  | sliceV hx hlo hhi hmx hrun hN =>
    refine LocalO.val hF rfl hN (noDefer rfl) nil fun s ids a w hag hR => ?_
    simp only [execOp, ev1 hx hag (fun q h => by simp [h]) hR, V.den, C.den, hlo.agree (fun q hq => hag q (by simp [hq])) hR, hhi.agree (fun q hq => hag q (by simp [hq])) hR, hmx.agree (fun q hq => hag q (by simp [hq])) hR]
    simp [hrun.eq]
  | @load d x n o z t rt pos af g hx hz ht hN =>
    refine LocalO.val hF rfl hN (noDefer rfl) (fun n hn => ⟨_, List.mem_cons_self, _, hz, hn⟩) fun s ids a w hag hR => ?_
    have hc := hR.W.cell n o z (by rw [hag _ List.mem_cons_self]; exact hz)
    simp only [execOp, ev1 hx hag (fun q h => by simp [h]) hR, V.den, den_p]
    simp [Instr.loadAt, Instr.sureAddr, loadVar, ht, run_load, hc]
  | @loadA d x n o k l L ks e t rt pos af g hx hu hd hi hl hp hN =>
    refine LocalO.val hF rfl hN (noDefer rfl) nil fun s ids a w hag hR => ?_
    obtain ⟨h1, h2⟩ := hl.spec (fun q hq => hag q (by simp [hq])) hR.W
    rw [hp.eq] at h2
    have h3 : L.length = k := by rw [← h1, ← hp.eq ids]; simp
    simp only [execOp, ev1 hx hag (fun q h => by simp [h]) hR, V.den, C.den]
    simp [run_loadAt_mid w (ids n) o t L e h2 hu hd (by rw [hi, h3])]
  | @loadM d x n o k l ks e t rt pos af g hx hu hd hi hl hN =>
    refine LocalO.val hF rfl hN (noDefer rfl) (fun m hm => by obtain ⟨q, hq, z⟩ := hl.names hm; exact ⟨q, by simp [hq], z⟩) fun s ids a w hag hR => ?_
    obtain ⟨h1, h2⟩ := hl.spec (fun q hq => hag q (by simp [hq])) hR.W
    simp only [execOp, ev1 hx hag (fun q h => by simp [h]) hR, V.den, C.den]
    simp [run_loadAt_mid w (ids n) o t _ e h2 hu hd (by rw [hi]; simp [h1])]
  | @loadO d x b o z t rt pos af g hx hz hini ht hN =>
    refine LocalO.val hF rfl hN (noDefer rfl) nil fun s ids a w hag hR => ?_
    have hb : b < c.B := by
      unfold World.cell? at hz
      split at hz
      · rename_i h; exact (Array.getElem?_eq_some_iff.1 h).1
      · cases hz
    have hc : w.cell? ⟨b, o, none⟩ = some z := by
      rw [← hz]; exact World.cell?_of_block (a := ⟨b, o, none⟩) (hR.W.old b hb hini)
    simp only [execOp, ev1 hx hag (fun q h => by simp [h]) hR, V.den, C.den]
    simp [Instr.loadAt, Instr.sureAddr, loadVar, ht, run_load, hc]
  | @loadOA d x b o L e t rt pos af g hx hu hd hz hi hini hb hN =>
    refine LocalO.val hF rfl hN (noDefer rfl) nil fun s ids a w hag hR => ?_
    have hc : w.rangeAt b o L := fun j v hv => by
      rw [← hz j v hv]; exact World.cell?_of_block (a := ⟨b, o + j, none⟩) (hR.W.old b hb hini)
    simp only [execOp, ev1 hx hag (fun q h => by simp [h]) hR, V.den, C.den]
    simp [run_loadAt_mid w b o t _ e hc hu hd hi]
  | nilCheck hx hN =>
    refine LocalO.val hF rfl hN (noDefer rfl) (fun n hn => opv_names hx hn) fun s ids a w hag hR => ?_
    simp [execOp, ev1 hx hag (fun q h => h) hR, V.den, C.den]
  | nilCheckV hx hN =>
    refine LocalO.val hF rfl hN (noDefer rfl) nil fun s ids a w hag hR => ?_
    simp [execOp, ev1 hx hag (fun q h => h) hR, V.den, C.den]
  | makeFunc hx hN =>
    refine LocalO.val hF rfl hN (noDefer rfl) (fun n hn => hx.names hn) fun s ids a w hag hR => ?_
    have e := hx.agree hag hR
    simp [execOp, Instr.makeFunc, V.den, C.den, e]
  | min2 hx hy hrun hN =>
    rename_i a b _ _ _ _ _
    refine LocalO.val hF rfl hN (noDefer rfl) nil fun s ids act w hag hR => ?_
    have e : (if b < a then b else a) = min a b := by omega
    rw [e] at hrun
    simp [execOp, resolve, invoke, ev1 hx hag (fun q h => by simp [h]) hR, ev1 hy hag (fun q h => by simp [h]) hR, V.den, C.den, hrun]
  | max2 hx hy hrun hN =>
    rename_i a b _ _ _ _ _
    refine LocalO.val hF rfl hN (noDefer rfl) nil fun s ids act w hag hR => ?_
    have e : (if b > a then b else a) = max a b := by omega
    rw [e] at hrun
    simp [execOp, resolve, invoke, ev1 hx hag (fun q h => by simp [h]) hR, ev1 hy hag (fun q h => by simp [h]) hR, V.den, C.den, hrun]
  | min4 hx hy hz hu hrun hN =>
    rename_i p q u v _ _ _ _ _
    refine LocalO.val hF rfl hN (noDefer rfl) nil fun s ids act w hag hR => ?_
    have e1 : (if q < p then q else p) = min p q := by omega
    have e2 : (if u < min p q then u else min p q) = min (min p q) u := by omega
    have e3 : (if v < min (min p q) u then v else min (min p q) u) = min (min (min p q) u) v := by omega
    simp only [e1, e2, e3] at hrun
    simp [execOp, resolve, invoke, ev1 hx hag (fun q h => by simp [h]) hR, ev1 hy hag (fun q h => by simp [h]) hR, ev1 hz hag (fun q h => by simp [h]) hR, ev1 hu hag (fun q h => by simp [h]) hR, V.den, C.den, hrun]
  | max4 hx hy hz hu hrun hN =>
    rename_i p q u v _ _ _ _ _
    refine LocalO.val hF rfl hN (noDefer rfl) nil fun s ids act w hag hR => ?_
    have e1 : (if q > p then q else p) = max p q := by omega
    have e2 : (if u > max p q then u else max p q) = max (max p q) u := by omega
    have e3 : (if v > max (max p q) u then v else max (max p q) u) = max (max (max p q) u) v := by omega
    simp only [e1, e2, e3] at hrun
    simp [execOp, resolve, invoke, ev1 hx hag (fun q h => by simp [h]) hR, ev1 hy hag (fun q h => by simp [h]) hR, ev1 hz hag (fun q h => by simp [h]) hR, ev1 hu hag (fun q h => by simp [h]) hR, V.den, C.den, hrun]
  | pickT hx hb hy hN =>
    refine LocalO.val hF rfl hN (noDefer rfl) (fun n hn => by obtain ⟨q, hq, z⟩ := opv_names hy hn; exact ⟨q, by simp [hq], z⟩) fun s ids act w hag hR => ?_
    simp [execOp, ev1 hx hag (fun q h => by simp [h]) hR, ev1 hy hag (fun q h => by simp [h]) hR, V.den, C.den, asBool, hb.eq]
  | pickF hx hb hy hN =>
    refine LocalO.val hF rfl hN (noDefer rfl) (fun n hn => by obtain ⟨q, hq, z⟩ := opv_names hy hn; exact ⟨q, by simp [hq], z⟩) fun s ids act w hag hR => ?_
    simp [execOp, ev1 hx hag (fun q h => by simp [h]) hR, ev1 hy hag (fun q h => by simp [h]) hR, V.den, C.den, asBool, hb.eq]
  | builtin hx hl hrun hN =>
    refine LocalO.val hF rfl hN (noDefer rfl) nil fun s ids a w hag hR => ?_
    have e := hx.agree hag hR
    rw [hl.eq] at e
    simp [execOp, resolve, invoke, e, hrun, V.den, C.den]
  | lenS hx hrun hN =>
    refine LocalO.val hF rfl hN (noDefer rfl) nil fun s ids a w hag hR => ?_
    simp [execOp, resolve, invoke, ev1 hx hag (fun q h => h) hR, V.den, C.den, hrun]
  | @build1 d ps xs l L ks t rt pos af g hxs hx hl hrun hN =>
    obtain ⟨rfl⟩ := hxs
    refine LocalO.val hF rfl hN (noDefer rfl) nil fun s ids a w hag hR => ?_
    have e := hx.agree hag hR
    rw [hl.eq] at e
    have e2 : ps.map (fun q => (q.1, a.eval q.2)) = (ps.map (·.1)).zip L := by
      rw [← e, List.map_map]
      clear e hrun hl hx hag
      induction ps with
      | nil => rfl
      | cons p r ih => simp [ih]
    simp only [execOp, List.map_toArray, e2, Sem.run_bind, run_build w t ((ps.map (·.1)).zip L).toArray L.toArray (by simpa using hrun), V.den, C.den]
    simp
  | @build d ps xs l L ks Z t rt pos af g hxs hx hl hrun hN =>
    obtain ⟨rfl⟩ := hxs
    refine LocalO.val hF rfl hN (noDefer rfl) nil fun s ids a w hag hR => ?_
    have e := hx.agree hag hR
    rw [hl.eq] at e
    have e2 : ps.map (fun q => (q.1, a.eval q.2)) = (ps.map (·.1)).zip L := by
      rw [← e, List.map_map]
      clear e hrun hl hx hag
      induction ps with
      | nil => rfl
      | cons p r ih => simp [ih]
    simp only [execOp, List.map_toArray, e2, Sem.run_bind, hrun.eq, V.den, C.den]
    simp
end
end Go.Proofs.Ytleelfdpefmnnaa.SX
