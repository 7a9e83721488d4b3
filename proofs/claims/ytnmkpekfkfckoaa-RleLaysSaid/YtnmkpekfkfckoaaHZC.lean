/- States as lists: what a frame and the blocks of a call hold, said by names; a region whose order is open comes to what its text comes to. No program in sight. Walking by states: what each operation leaves of a state. No program in sight. Walking by states: the rules, operation by operation, and the code around them. No program in sight. Walking by states: the rules of the operations, one by one. No program in sight. -/
import Derived.Test.YtnmkpekfkfckoaaHZA
namespace Go.Proofs.Ytnmkpekfkfckoaa.SX
set_option linter.unusedSectionVars false
open Go.RowKit
/-- What one cell holds: a plain value, a pointer into a named block, a slice of one, a function that keeps such pointers. -/
inductive C where
  | v (x : Value)
  | p (n off : Nat)
  | s (n off len cap : Nat)
  | f (g : FuncId) (caps : List (Nat × Nat))
def C.den (ids : Nat → Nat) : C → Value
  | .v x => x
  | .p n o => .pointer (some ⟨ids n, o, none⟩)
  | .s n o l k => .slice (some ⟨ids n, o, none⟩) l k
  | .f g caps => .func (.func g) #[] (caps.map fun q => Value.pointer (some ⟨ids q.1, q.2, none⟩)).toArray
def C.names : C → List Nat
  | .v _ => []
  | .p n _ => [n]
  | .s n _ _ _ => [n]
  | .f _ caps => caps.map (·.1)
/-- What a slot holds. -/
inductive V where
  | c (x : C)
  | a (l : List C)
  | t (l : List (C ⊕ List C))
def denP (ids : Nat → Nat) : C ⊕ List C → Value
  | .inl x => x.den ids
  | .inr l => .agg (l.map (C.den ids)).toArray
def namesP : C ⊕ List C → List Nat
  | .inl x => x.names
  | .inr l => l.flatMap C.names
def V.den (ids : Nat → Nat) : V → Value
  | .c x => x.den ids
  | .a l => .agg (l.map (C.den ids)).toArray
  | .t l => .tuple (l.map (denP ids)).toArray
def V.names : V → List Nat
  | .c x => x.names
  | .a l => l.flatMap C.names
  | .t l => l.flatMap namesP
/-- Where something is held: a slot, a cell of a named block, the block itself. -/
inductive Key where
  | t (i : Nat)
  | c (n off : Nat)
  | b (n : Nat)
  deriving DecidableEq
def Key.beq : Key → Key → Bool
  | .t i, .t j => Nat.beq i j
  | .c n o, .c m q => Nat.beq n m && Nat.beq o q
  | .b n, .b m => Nat.beq n m
  | _, _ => false
theorem Key.beq_iff (a b : Key) : a.beq b = true ↔ a = b := by
  cases a <;> cases b <;> simp [Key.beq]
theorem Key.beq_refl (a : Key) : a.beq a = true := (Key.beq_iff a a).2 rfl
inductive KV where
  | v (x : V)
  | c (x : C)
  | b (ty : TypeId) (k : Nat)
def KV.names : KV → List Nat
  | .v x => x.names
  | .c x => x.names
  | .b _ _ => []
abbrev Ws := List (Key × KV)
abbrev Sf := Key → Option KV
def lookW : Ws → Sf
  | [], _ => none
  | (k, x) :: r, q => bif Key.beq k q then some x else lookW r q
def upd (s : Sf) (ws : Ws) : Sf := fun q => (lookW ws q).or (s q)
theorem look_mem {ws : Ws} {q : Key} {x : KV} (h : lookW ws q = some x) : (q, x) ∈ ws := by
  induction ws with
  | nil => cases h
  | cons y r ih =>
    obtain ⟨k, y⟩ := y
    simp only [lookW] at h
    cases hk : Key.beq k q with
    | true =>
      rw [hk] at h
      simp only [cond_true, Option.some.injEq] at h
      rw [(Key.beq_iff _ _).1 hk, h]; exact List.mem_cons_self
    | false => rw [hk] at h; exact List.mem_cons_of_mem _ (ih h)
theorem look_isSome {ws : Ws} {q : Key} : (lookW ws q).isSome = ws.any fun x => Key.beq x.1 q := by
  induction ws with
  | nil => rfl
  | cons y r ih =>
    obtain ⟨k, y⟩ := y
    simp only [lookW, List.any_cons]
    cases hk : Key.beq k q with
    | true => simp
    | false => simpa using ih
def live (s : Sf) (n : Nat) : Prop := ∃ t k, s (.b n) = some (.b t k)
/-- What does not change in a walk: the program, the blocks that were handed in, the world at the start, how many slots. -/
structure Ctx where
  P : Program
  m : Nat
  ini : Nat → Nat
  w0 : World
  N : Nat
  mks : List Nat
/-- What an operation reads, and what it leaves. -/
structure Tr where
  rd : List Key
  ws : Ws
section
variable {c : Ctx} {F : Fence} {nn : Nat}
/-- The state when of the first j operations those of E are done. -/
def stAt (s0 : Sf) (T : Nat → Tr) (E : Nat → Bool) : Nat → Sf
  | 0 => s0
  | j + 1 => bif E j then upd (stAt s0 T E j) (T j).ws else stAt s0 T E j
def keysMeet (ws : Ws) (ks : List Key) : Bool := ws.any fun x => ks.any fun q => Key.beq x.1 q
/-- Does one write what the other reads or writes? -/
def conf (a b : Tr) : Bool := keysMeet a.ws b.rd || keysMeet b.ws a.rd || keysMeet a.ws (b.ws.map (·.1))
theorem keysMeet_of {ws : Ws} {ks : List Key} {q : Key} (h : (lookW ws q).isSome = true) (hq : q ∈ ks) : keysMeet ws ks = true := by
  rw [look_isSome, List.any_eq_true] at h
  obtain ⟨x, hx, hk⟩ := h
  exact List.any_eq_true.2 ⟨x, hx, List.any_eq_true.2 ⟨q, hq, hk⟩⟩
theorem conf_comm {a b : Tr} (h : conf a b = true) : conf b a = true := by
  have e : keysMeet b.ws (a.ws.map (·.1)) = keysMeet a.ws (b.ws.map (·.1)) := by
    rw [Bool.eq_iff_iff]
    simp only [keysMeet, List.any_eq_true, List.mem_map, Key.beq_iff]
    constructor
    · rintro ⟨x, hx, _, ⟨y, hy, rfl⟩, h⟩; exact ⟨y, hy, _, ⟨x, hx, rfl⟩, h.symm⟩
    · rintro ⟨x, hx, _, ⟨y, hy, rfl⟩, h⟩; exact ⟨y, hy, _, ⟨x, hx, rfl⟩, h.symm⟩
  simp only [conf, e, Bool.or_eq_true] at h ⊢
  rcases h with (h | h) | h
  · exact .inl (.inr h)
  · exact .inl (.inl h)
  · exact .inr h
def deps (ops : Array Oper) (i : Nat) : List Nat := match ops[i]? with
  | some o => (o.after.toList.filter (Region.binds .any ·)).map (·.on)
  | none => []
/-- Must k be done when i is done? -/
def reach (ops : Array Oper) : Nat → Nat → Nat → Bool
  | 0, _, _ => false
  | f + 1, i, k => (deps ops i).any (fun j => Nat.beq j k) || (deps ops i).any (fun j => Nat.ble (k + 1) j && reach ops f j k)
def Shut (ops : Array Oper) (E : Nat → Bool) : Prop := ∀ i, E i = true → ∀ j ∈ deps ops i, E j = true
theorem reach_sound {ops : Array Oper} {E : Nat → Bool} (hE : Shut ops E) : ∀ (f i k : Nat), reach ops f i k = true → (∀ j ∈ deps ops i, E j = true) → E k = true
  | 0, _, _, h, _ => by cases h
  | f + 1, i, k, h, hd => by
    simp only [reach, Bool.or_eq_true, List.any_eq_true, Bool.and_eq_true] at h
    rcases h with ⟨j, hj, hk⟩ | ⟨j, hj, _, hr⟩
    · rw [← Nat.eq_of_beq_eq_true hk]; exact hd j hj
    · exact reach_sound hE f j k hr (fun x hx => hE j (hd j hj) x hx)
def pairsOk (ops : Array Oper) (tr : List Tr) : Nat → Tr → Nat → List Tr → Bool
  | _, _, _, [] => true
  | i, t, k, u :: r => (!conf u t || reach ops (i + 1) i k) && pairsOk ops tr i t (k + 1) r
/-- Whoever meets in a key stands in a fixed order; nobody waits for what stands behind. -/
def ordB (ops : Array Oper) (tr : List Tr) : Bool :=
  tr.zipIdx.all (fun x => pairsOk ops tr x.2 x.1 0 (tr.take x.2)) && (List.range ops.size).all fun i => (deps ops i).all fun j => Nat.blt j i
def unlisted (listed : Array Bool) (n : Nat) : Nat := (List.range n).countP fun i => !listed.getD i false
end
end Go.Proofs.Ytnmkpekfkfckoaa.SX
namespace Go.Proofs.Ytnmkpekfkfckoaa.SX
open Go.RowKit
def opv (s : Sf) : Operand → Option V
  | .tmp t => match s (.t t) with
    | some (.v v) => some v
    | _ => none
  | .const x => some (.c (.v x))
  | .global g => some (.c (.v (.pointer (some ⟨g, 0, none⟩))))
  | .func f => some (.c (.v (.func (.func f) #[] #[])))
def opk : Operand → List Key
  | .tmp t => [.t t]
  | _ => []
section
variable {c : Ctx} {F : Fence} {nn : Nat} {σ s : Sf} {ids : Nat → Nat} {a : Act} {w : World}
theorem opv_agree {x : Operand} (h : ∀ q ∈ opk x, s q = σ q) : opv s x = opv σ x := by
  cases x with
  | tmp t => simp only [opv]; rw [h (.t t) (by simp [opk])]
  | _ => rfl
structure Wr (k : IntKind) (n r : Int) : Prop where
  eq : k.wrap n = r
theorem Wr.lit {k : IntKind} {n m r : Int} (h : n = m) (hw : Wr k m r) : Wr k n r := h ▸ hw
theorem Wr.i64 {n : Int} (h : -9223372036854775808 ≤ n ∧ n ≤ 9223372036854775807) : Wr .i64 n n := by
  constructor
  simp only [IntKind.wrap, IntKind.bits, IntKind.signed, Bool.true_and]
  split
  · rename_i h'; simp at h'; omega
  · rename_i h'; simp at h'; omega
theorem Wr.u64 {n : Int} (h : 0 ≤ n ∧ n ≤ 18446744073709551615) : Wr .u64 n n := by
  constructor
  simp only [IntKind.wrap, IntKind.bits, IntKind.signed, Bool.false_and]; simp; omega
theorem Wr.u32 {n : Int} (h : 0 ≤ n ∧ n ≤ 4294967295) : Wr .u32 n n := by
  constructor
  simp only [IntKind.wrap, IntKind.bits, IntKind.signed, Bool.false_and]; simp; omega
theorem Wr.u8 {n : Int} (h : 0 ≤ n ∧ n ≤ 255) : Wr .u8 n n := by
  constructor
  simp only [IntKind.wrap, IntKind.bits, IntKind.signed, Bool.false_and]; simp; omega
theorem Wr.u64m {n : Int} : Wr .u64 n (n % 18446744073709551616) := ⟨by simp [IntKind.wrap, IntKind.bits, IntKind.signed]⟩
theorem Wr.u32m {n : Int} : Wr .u32 n (n % 4294967296) := ⟨by simp [IntKind.wrap, IntKind.bits, IntKind.signed]⟩
theorem Wr.u8m {n : Int} : Wr .u8 n (n % 256) := ⟨by simp [IntKind.wrap, IntKind.bits, IntKind.signed]⟩
/-- A truth value, as it is or settled. -/
structure Tv (b r : Bool) : Prop where
  eq : b = r
theorem Tv.raw {b : Bool} : Tv b b := ⟨rfl⟩
theorem Tv.yes {p : Prop} [Decidable p] (h : p) : Tv (decide p) true := ⟨decide_eq_true h⟩
theorem Tv.no {p : Prop} [Decidable p] (h : ¬ p) : Tv (decide p) false := ⟨decide_eq_false h⟩
theorem Tv.ney {a b : Int} (h : ¬ a = b) : Tv (a != b) true := ⟨by simpa using h⟩
theorem Tv.nen {a b : Int} (h : a = b) : Tv (a != b) false := ⟨by simpa using h⟩
theorem Tv.b1 : Tv (true == true) true := ⟨rfl⟩
theorem Tv.b2 : Tv (true == false) false := ⟨rfl⟩
theorem Tv.b3 : Tv (false == true) false := ⟨rfl⟩
theorem Tv.c1 : Tv (true != true) false := ⟨rfl⟩
theorem Tv.c2 : Tv (true != false) true := ⟨rfl⟩
theorem Tv.c3 : Tv (false != true) true := ⟨rfl⟩
theorem Tv.d1 {b : Bool} : Tv (b == true) b := ⟨by cases b <;> rfl⟩
theorem Tv.d2 {b : Bool} : Tv (true == b) b := ⟨by cases b <;> rfl⟩
theorem Tv.d3 {b : Bool} : Tv (b != false) b := ⟨by cases b <;> rfl⟩
theorem Tv.e1 {b : Bool} : Tv (b == false) (!b) := ⟨by cases b <;> rfl⟩
theorem Tv.e2 {b : Bool} : Tv (false == b) (!b) := ⟨by cases b <;> rfl⟩
theorem Tv.e3 {b : Bool} : Tv (b != true) (!b) := ⟨by cases b <;> rfl⟩
/-- A number that is not to be left as a sum. -/
structure Is {α : Type} (x y : α) : Prop where
  eq : x = y
/-- A quotient and a rest. -/
structure Qu (k : IntKind) (a b r : Int) : Prop where
  eq : k.wrap (a.tdiv b) = r
theorem Qu.u64 {a b : Int} (h : 0 ≤ a ∧ a ≤ 18446744073709551615 ∧ 0 < b) : Qu .u64 a b (a / b) := by
  have e : a.tdiv b = a / b := Int.tdiv_eq_ediv_of_nonneg h.1
  have h1 : 0 ≤ a / b := Int.ediv_nonneg h.1 (by omega)
  have h2 : a / b ≤ a := Int.ediv_le_self b h.1
  constructor; rw [e]; exact (Wr.u64 ⟨by omega, by omega⟩).eq
structure Rm (a b r : Int) : Prop where
  eq : a.tmod b = r
theorem Rm.pos {a b : Int} (h : 0 ≤ a) : Rm a b (a % b) := ⟨Int.tmod_eq_emod_of_nonneg h⟩
/-- 2 to the number of places by which is shifted. -/
structure Sh (k : IntKind) (b : Int) (m : Int) : Prop where
  eq : (2 ^ (min b.toNat k.bits) : Int) = m
theorem noDefer {o : Op} (h : (match o with | .defer _ => true | _ => false) = false) : ∀ q, o ≠ .defer q := by
  rintro q rfl; cases h
end
end Go.Proofs.Ytnmkpekfkfckoaa.SX
namespace Go.Proofs.Ytnmkpekfkfckoaa.SX
open Go.RowKit
def eqOkB (P : Program) (t : TypeId) (L M : List Value) : Bool := match flatK P 9 t with
  | some ks => plainT P 9 t && aggT P t && fitB ks L && fitB ks M && !P.eqGuardType P.depth t
  | none => false
theorem Tv.eqsN {L M : List Value} (h : ¬ conjP L M) : Tv (eqs L M) false := ⟨by rw [← Bool.not_eq_true]; exact fun e => h ((eqs_iff L M).1 e)⟩
theorem eqs_false {L M : List Value} : eqs L M = false ↔ ¬ conjP L M := by rw [← eqs_iff, Bool.not_eq_true]
end Go.Proofs.Ytnmkpekfkfckoaa.SX
