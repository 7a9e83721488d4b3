/- States as lists: what a frame and the blocks of a call hold, said by names; a region whose order is open comes to what its text comes to. No program in sight. Walking by states: what each operation leaves of a state. No program in sight. Walking by states: the rules, operation by operation, and the code around them. No program in sight. Walking by states: the rules of the operations, one by one. No program in sight. -/
import Derived.Test.YtafhojmnbpegpaaGreatHZA
namespace Go.Proofs.YtafhojmnbpegpaaGreat.SX
set_option linter.unusedSectionVars false
open Go.RowKit
/-- What one cell holds: a plain value, a pointer into a named block, a slice of one, a function that keeps such pointers. -/
inductive C where
  | v (x : Value)
  | p (n off : Nat)
  | s (n off len cap : Nat)
  | f (g : FuncId) (caps : List (Nat × Nat))
def C.den (ids : Nat → Nat) : C → Value
  | .v x => x
  | .p n o => .pointer (some ⟨ids n, o, none⟩)
  | .s n o l k => .slice (some ⟨ids n, o, none⟩) l k
  | .f g caps => .func (.func g) #[] (caps.map fun q => Value.pointer (some ⟨ids q.1, q.2, none⟩)).toArray
def C.names : C → List Nat
  | .v _ => []
  | .p n _ => [n]
  | .s n _ _ _ => [n]
  | .f _ caps => caps.map (·.1)
/-- What a slot holds. -/
inductive V where
  | c (x : C)
  | a (l : List C)
  | t (l : List (C ⊕ List C))
def denP (ids : Nat → Nat) : C ⊕ List C → Value
  | .inl x => x.den ids
  | .inr l => .agg (l.map (C.den ids)).toArray
def namesP : C ⊕ List C → List Nat
  | .inl x => x.names
  | .inr l => l.flatMap C.names
def V.den (ids : Nat → Nat) : V → Value
  | .c x => x.den ids
  | .a l => .agg (l.map (C.den ids)).toArray
  | .t l => .tuple (l.map (denP ids)).toArray
def V.names : V → List Nat
  | .c x => x.names
  | .a l => l.flatMap C.names
  | .t l => l.flatMap namesP
/-- Where something is held: a slot, a cell of a named block, the block itself. -/
inductive Key where
  | t (i : Nat)
  | c (n off : Nat)
  | b (n : Nat)
  deriving DecidableEq
def Key.beq : Key → Key → Bool
  | .t i, .t j => Nat.beq i j
  | .c n o, .c m q => Nat.beq n m && Nat.beq o q
  | .b n, .b m => Nat.beq n m
  | _, _ => false
theorem Key.beq_iff (a b : Key) : a.beq b = true ↔ a = b := by
  cases a <;> cases b <;> simp [Key.beq]
theorem Key.beq_refl (a : Key) : a.beq a = true := (Key.beq_iff a a).2 rfl
inductive KV where
  | v (x : V)
  | c (x : C)
  | b (ty : TypeId) (k : Nat)
def KV.names : KV → List Nat
  | .v x => x.names
  | .c x => x.names
  | .b _ _ => []
abbrev Ws := List (Key × KV)
abbrev Sf := Key → Option KV
def lookW : Ws → Sf
  | [], _ => none
  | (k, x) :: r, q => bif Key.beq k q then some x else lookW r q
def upd (s : Sf) (ws : Ws) : Sf := fun q => (lookW ws q).or (s q)
theorem look_mem {ws : Ws} {q : Key} {x : KV} (h : lookW ws q = some x) : (q, x) ∈ ws := by
  induction ws with
  | nil => cases h
  | cons y r ih =>
    obtain ⟨k, y⟩ := y
    simp only [lookW] at h
    cases hk : Key.beq k q with
    | true =>
      rw [hk] at h
      simp only [cond_true, Option.some.injEq] at h
      rw [(Key.beq_iff _ _).1 hk, h]; exact List.mem_cons_self
    | false => rw [hk] at h; exact List.mem_cons_of_mem _ (ih h)
theorem look_isSome {ws : Ws} {q : Key} : (lookW ws q).isSome = ws.any fun x => Key.beq x.1 q := by
  induction ws with
  | nil => rfl
  | cons y r ih =>
    obtain ⟨k, y⟩ := y
    simp only [lookW, List.any_cons]
    cases hk : Key.beq k q with
    | true => simp
    | false => simpa using ih
def live (s : Sf) (n : Nat) : Prop := ∃ t k, s (.b n) = some (.b t k)
/-- What does not change in a walk: the program, the blocks that were handed in, the world at the start, how many slots. -/
structure Ctx where
  P : Program
  m : Nat
  ini : Nat → Nat
  w0 : World
  N : Nat
  mks : List Nat
/-- The mark that a range over a function leaves. -/
def mark1 (D : Nat) : Deferred := { target := .collected D, args := #[] }
def Ctx.B (c : Ctx) : Nat := c.w0.heap.size
/-- The world part of 'the state s stands'. -/
structure RealW (c : Ctx) (s : Sf) (ids : Nat → Nat) (w : World) : Prop where
  cell : ∀ n o x, s (.c n o) = some (.c x) → w.cell? ⟨ids n, o, none⟩ = some (x.den ids)
  blk : ∀ n t k, s (.b n) = some (.b t k) → ∃ cs, w.heap[ids n]? = some (.cells cs t (0, 0)) ∧ cs.size = k
  inj : ∀ n n', live s n → live s n' → ids n = ids n' → n = n'
  given : ∀ n, n < c.m → ids n = c.ini n
  own : ∀ n, c.m ≤ n → live s n → c.B ≤ ids n
  closed : ∀ q x, s q = some x → ∀ n ∈ x.names, live s n
  cellLive : ∀ n o x, s (.c n o) = some x → live s n
  os : w.os = c.w0.os
  tape : w.tape = c.w0.tape
  output : w.output = c.w0.output
  size : c.B ≤ w.heap.size
  old : ∀ k, k < c.B → (∀ n, n < c.m → c.ini n ≠ k) → w.heap[k]? = c.w0.heap[k]?
  marks : ∀ D ∈ c.mks, w.heap[D]? = some (.deferred (some []))
structure Real (c : Ctx) (s : Sf) (ids : Nat → Nat) (a : Act) (w : World) : Prop where
  W : RealW c s ids w
  defers : a.defers = c.mks.map mark1
  slots : a.tmps.size = c.N
  tmp : ∀ i v, s (.t i) = some (.v v) → a.tmps[i]? = some (v.den ids)
/-- What an operation reads, and what it leaves. -/
structure Tr where
  rd : List Key
  ws : Ws
section
variable {c : Ctx} {F : Fence} {nn : Nat}
/-- The state when of the first j operations those of E are done. -/
def stAt (s0 : Sf) (T : Nat → Tr) (E : Nat → Bool) : Nat → Sf
  | 0 => s0
  | j + 1 => bif E j then upd (stAt s0 T E j) (T j).ws else stAt s0 T E j
def keysMeet (ws : Ws) (ks : List Key) : Bool := ws.any fun x => ks.any fun q => Key.beq x.1 q
/-- Does one write what the other reads or writes? -/
def conf (a b : Tr) : Bool := keysMeet a.ws b.rd || keysMeet b.ws a.rd || keysMeet a.ws (b.ws.map (·.1))
theorem keysMeet_of {ws : Ws} {ks : List Key} {q : Key} (h : (lookW ws q).isSome = true) (hq : q ∈ ks) : keysMeet ws ks = true := by
  rw [look_isSome, List.any_eq_true] at h
  obtain ⟨x, hx, hk⟩ := h
  exact List.any_eq_true.2 ⟨x, hx, List.any_eq_true.2 ⟨q, hq, hk⟩⟩
theorem conf_comm {a b : Tr} (h : conf a b = true) : conf b a = true := by
  have e : keysMeet b.ws (a.ws.map (·.1)) = keysMeet a.ws (b.ws.map (·.1)) := by
    rw [Bool.eq_iff_iff]
    simp only [keysMeet, List.any_eq_true, List.mem_map, Key.beq_iff]
    constructor
    · rintro ⟨x, hx, _, ⟨y, hy, rfl⟩, h⟩; exact ⟨y, hy, _, ⟨x, hx, rfl⟩, h.symm⟩
    · rintro ⟨x, hx, _, ⟨y, hy, rfl⟩, h⟩; exact ⟨y, hy, _, ⟨x, hx, rfl⟩, h.symm⟩
  simp only [conf, e, Bool.or_eq_true] at h ⊢
  rcases h with (h | h) | h
  · exact .inl (.inr h)
  · exact .inl (.inl h)
  · exact .inr h
def deps (ops : Array Oper) (i : Nat) : List Nat := match ops[i]? with
  | some o => (o.after.toList.filter (Region.binds .any ·)).map (·.on)
  | none => []
/-- Must k be done when i is done? -/
def reach (ops : Array Oper) : Nat → Nat → Nat → Bool
  | 0, _, _ => false
  | f + 1, i, k => (deps ops i).any (fun j => Nat.beq j k) || (deps ops i).any (fun j => Nat.ble (k + 1) j && reach ops f j k)
def Shut (ops : Array Oper) (E : Nat → Bool) : Prop := ∀ i, E i = true → ∀ j ∈ deps ops i, E j = true
theorem reach_sound {ops : Array Oper} {E : Nat → Bool} (hE : Shut ops E) : ∀ (f i k : Nat), reach ops f i k = true → (∀ j ∈ deps ops i, E j = true) → E k = true
  | 0, _, _, h, _ => by cases h
  | f + 1, i, k, h, hd => by
    simp only [reach, Bool.or_eq_true, List.any_eq_true, Bool.and_eq_true] at h
    rcases h with ⟨j, hj, hk⟩ | ⟨j, hj, _, hr⟩
    · rw [← Nat.eq_of_beq_eq_true hk]; exact hd j hj
    · exact reach_sound hE f j k hr (fun x hx => hE j (hd j hj) x hx)
def pairsOk (ops : Array Oper) (tr : List Tr) : Nat → Tr → Nat → List Tr → Bool
  | _, _, _, [] => true
  | i, t, k, u :: r => (!conf u t || reach ops (i + 1) i k) && pairsOk ops tr i t (k + 1) r
/-- Whoever meets in a key stands in a fixed order; nobody waits for what stands behind. -/
def ordB (ops : Array Oper) (tr : List Tr) : Bool :=
  tr.zipIdx.all (fun x => pairsOk ops tr x.2 x.1 0 (tr.take x.2)) && (List.range ops.size).all fun i => (deps ops i).all fun j => Nat.blt j i
def unlisted (listed : Array Bool) (n : Nat) : Nat := (List.range n).countP fun i => !listed.getD i false
end
end Go.Proofs.YtafhojmnbpegpaaGreat.SX
namespace Go.Proofs.YtafhojmnbpegpaaGreat.SX
open Go.RowKit
section
variable {c : Ctx} {F : Fence} {nn : Nat} {s : Sf} {ids : Nat → Nat} {a : Act} {w : World}
theorem Real.same (h : Real c s ids a w) : Real c (upd s []) ids a w := by
  have : upd s [] = s := by funext q; simp [upd, lookW]
  rw [this]; exact h
end
end Go.Proofs.YtafhojmnbpegpaaGreat.SX
namespace Go.Proofs.YtafhojmnbpegpaaGreat.SX
open Go.RowKit
def opv (s : Sf) : Operand → Option V
  | .tmp t => match s (.t t) with
    | some (.v v) => some v
    | _ => none
  | .const x => some (.c (.v x))
  | .global g => some (.c (.v (.pointer (some ⟨g, 0, none⟩))))
  | .func f => some (.c (.v (.func (.func f) #[] #[])))
def opk : Operand → List Key
  | .tmp t => [.t t]
  | _ => []
section
variable {c : Ctx} {F : Fence} {nn : Nat} {σ s : Sf} {ids : Nat → Nat} {a : Act} {w : World}
theorem opv_agree {x : Operand} (h : ∀ q ∈ opk x, s q = σ q) : opv s x = opv σ x := by
  cases x with
  | tmp t => simp only [opv]; rw [h (.t t) (by simp [opk])]
  | _ => rfl
structure Wr (k : IntKind) (n r : Int) : Prop where
  eq : k.wrap n = r
theorem Wr.lit {k : IntKind} {n m r : Int} (h : n = m) (hw : Wr k m r) : Wr k n r := h ▸ hw
theorem Wr.i64 {n : Int} (h : -9223372036854775808 ≤ n ∧ n ≤ 9223372036854775807) : Wr .i64 n n := by
  constructor
  simp only [IntKind.wrap, IntKind.bits, IntKind.signed, Bool.true_and]
  split
  · rename_i h'; simp at h'; omega
  · rename_i h'; simp at h'; omega
/-- A truth value, as it is or settled. -/
structure Tv (b r : Bool) : Prop where
  eq : b = r
theorem Tv.raw {b : Bool} : Tv b b := ⟨rfl⟩
theorem Tv.yes {p : Prop} [Decidable p] (h : p) : Tv (decide p) true := ⟨decide_eq_true h⟩
theorem Tv.no {p : Prop} [Decidable p] (h : ¬ p) : Tv (decide p) false := ⟨decide_eq_false h⟩
theorem Tv.b1 : Tv (true == true) true := ⟨rfl⟩
theorem Tv.b2 : Tv (true == false) false := ⟨rfl⟩
theorem Tv.b3 : Tv (false == true) false := ⟨rfl⟩
theorem Tv.c1 : Tv (true != true) false := ⟨rfl⟩
theorem Tv.c2 : Tv (true != false) true := ⟨rfl⟩
theorem Tv.c3 : Tv (false != true) true := ⟨rfl⟩
theorem Tv.e1 {b : Bool} : Tv (b == false) (!b) := ⟨by cases b <;> rfl⟩
theorem Tv.e2 {b : Bool} : Tv (false == b) (!b) := ⟨by cases b <;> rfl⟩
theorem Tv.e3 {b : Bool} : Tv (b != true) (!b) := ⟨by cases b <;> rfl⟩
/-- A number that is not to be left as a sum. -/
structure Is {α : Type} (x y : α) : Prop where
  eq : x = y
/-- A quotient and a rest. -/
structure Qu (k : IntKind) (a b r : Int) : Prop where
  eq : k.wrap (a.tdiv b) = r
structure Rm (a b r : Int) : Prop where
  eq : a.tmod b = r
/-- 2 to the number of places by which is shifted. -/
structure Sh (k : IntKind) (b : Int) (m : Int) : Prop where
  eq : (2 ^ (min b.toNat k.bits) : Int) = m
/-- The cells of a list are plain. -/
inductive Plain : List C → List Value → Prop
  | nil : Plain [] []
  | cons {x : Value} {l : List C} {r : List Value} : Plain l r → Plain (.v x :: l) (x :: r)
theorem Plain.eq {l : List C} {r : List Value} (h : Plain l r) (ids : Nat → Nat) : l.map (C.den ids) = r := by
  induction h with
  | nil => rfl
  | cons _ ih => simp [C.den, ih]
/-- Plain values. -/
inductive LeafL : List V → List Value → Prop
  | nil : LeafL [] []
  | cons {x : Value} {l : List V} {r : List Value} : LeafL l r → LeafL (.c (.v x) :: l) (x :: r)
theorem LeafL.eq {l : List V} {r : List Value} (h : LeafL l r) (ids : Nat → Nat) : l.map (V.den ids) = r := by
  induction h with
  | nil => rfl
  | cons _ ih => simp [V.den, C.den, ih]
theorem noDefer {o : Op} (h : (match o with | .defer _ => true | _ => false) = false) : ∀ q, o ≠ .defer q := by
  rintro q rfl; cases h
end
end Go.Proofs.YtafhojmnbpegpaaGreat.SX
namespace Go.Proofs.YtafhojmnbpegpaaGreat.SX
open Go.RowKit
def eqOkB (P : Program) (t : TypeId) (L M : List Value) : Bool := match flatK P 9 t with
  | some ks => plainT P 9 t && aggT P t && fitB ks L && fitB ks M && !P.eqGuardType P.depth t
  | none => false
theorem eqs_false {L M : List Value} : eqs L M = false ↔ ¬ conjP L M := by rw [← eqs_iff, Bool.not_eq_true]
end Go.Proofs.YtafhojmnbpegpaaGreat.SX
