/- Walking by states: the rules of the operations, one by one. No program in sight. -/
import Derived.Test.YtbjogekhedglgaaSx3
import Derived.Test.YtbjogekhedglgaaSx0
namespace Go.Proofs.Ytbjogekhedglgaa.SX
open Go.RowKit

def eqOkB (P : Program) (t : TypeId) (L M : List Value) : Bool := match flatK P 9 t with
  | some ks => plainT P 9 t && aggT P t && fitB ks L && fitB ks M && !P.eqGuardType P.depth t
  | none => false
structure EqOk (P : Program) (t : TypeId) (L M : List Value) : Prop where
  eq : eqOkB P t L M = true
theorem EqOk.eql {P : Program} {t : TypeId} {L M : List Value} (h : EqOk P t L M) (w : World) : (binOp .eql t (.agg L.toArray) (.agg M.toArray)).run P w = .ok (.bool (eqs L M)) w ∧ (binOp .neq t (.agg L.toArray) (.agg M.toArray)).run P w = .ok (.bool (!eqs L M)) w ∧ P.eqGuardType P.depth t = false := by
  have h := h.eq
  unfold eqOkB at h
  cases hk : flatK P 9 t with
  | none => rw [hk] at h; cases h
  | some ks =>
    rw [hk] at h
    simp only [Bool.and_eq_true, Bool.not_eq_true'] at h
    obtain ⟨⟨⟨⟨h1, h2⟩, h3⟩, h4⟩, h5⟩ := h
    exact ⟨run_eql_flat hk h1 h2 h3 h4 w, run_neq_flat hk h1 h2 h3 h4 w, h5⟩
theorem Tv.eqsY {L M : List Value} (h : conjP L M) : Tv (eqs L M) true := ⟨(eqs_iff L M).2 h⟩
theorem Tv.eqsN {L M : List Value} (h : ¬ conjP L M) : Tv (eqs L M) false := ⟨by rw [← Bool.not_eq_true]; exact fun e => h ((eqs_iff L M).1 e)⟩
theorem Tv.neqsN {L M : List Value} (h : conjP L M) : Tv (!eqs L M) false := ⟨by rw [(eqs_iff L M).2 h]; rfl⟩
theorem Tv.neqsY {L M : List Value} (h : ¬ conjP L M) : Tv (!eqs L M) true := ⟨by rw [(Tv.eqsN h).eq]; rfl⟩
theorem eqs_false {L M : List Value} : eqs L M = false ↔ ¬ conjP L M := by rw [← eqs_iff, Bool.not_eq_true]
/-- What an operation leaves of a state. -/
inductive Ev (c : Ctx) (s : Sf) : Oper → Tr → Prop
  | move {d : Tmp} {x : Operand} {v : V} {rt : TypeId} {pos : String} {af : Array Edge} {g : Option (Nat × Bool)} :
      opv s x = some v → Nat.blt d c.N = true → Ev c s ⟨some d, .move x, rt, pos, af, g⟩ ⟨opk x, [(.t d, .v v)]⟩
  | assign {d : Tmp} {x : Operand} {v : V} {rt : TypeId} {pos : String} {af : Array Edge} {g : Option (Nat × Bool)} :
      opv s x = some v → Nat.blt d c.N = true → Ev c s ⟨some d, .assign x, rt, pos, af, g⟩ ⟨opk x, [(.t d, .v v)]⟩
  | add {d : Tmp} {x y : Operand} {k : IntKind} {a b r : Int} {t ty rt : TypeId} {pos : String} {af : Array Edge} {g : Option (Nat × Bool)} :
      opv s x = some (.c (.v (.int k a))) → opv s y = some (.c (.v (.int k b))) → Wr k (a + b) r → Nat.blt d c.N = true → Ev c s ⟨some d, .binOp .add t x y ty, rt, pos, af, g⟩ ⟨opk x ++ opk y, [(.t d, .v (.c (.v (.int k r))))]⟩
  | sub {d : Tmp} {x y : Operand} {k : IntKind} {a b r : Int} {t ty rt : TypeId} {pos : String} {af : Array Edge} {g : Option (Nat × Bool)} :
      opv s x = some (.c (.v (.int k a))) → opv s y = some (.c (.v (.int k b))) → Wr k (a - b) r → Nat.blt d c.N = true → Ev c s ⟨some d, .binOp .sub t x y ty, rt, pos, af, g⟩ ⟨opk x ++ opk y, [(.t d, .v (.c (.v (.int k r))))]⟩
  | mul {d : Tmp} {x y : Operand} {k : IntKind} {a b r : Int} {t ty rt : TypeId} {pos : String} {af : Array Edge} {g : Option (Nat × Bool)} :
      opv s x = some (.c (.v (.int k a))) → opv s y = some (.c (.v (.int k b))) → Wr k (a * b) r → Nat.blt d c.N = true → Ev c s ⟨some d, .binOp .mul t x y ty, rt, pos, af, g⟩ ⟨opk x ++ opk y, [(.t d, .v (.c (.v (.int k r))))]⟩
  | quo {d : Tmp} {x y : Operand} {k : IntKind} {a b r : Int} {t ty rt : TypeId} {pos : String} {af : Array Edge} {g : Option (Nat × Bool)} :
      opv s x = some (.c (.v (.int k a))) → opv s y = some (.c (.v (.int k b))) → b ≠ 0 → Qu k a b r → Nat.blt d c.N = true → Ev c s ⟨some d, .binOp .quo t x y ty, rt, pos, af, g⟩ ⟨opk x ++ opk y, [(.t d, .v (.c (.v (.int k r))))]⟩
  | rem {d : Tmp} {x y : Operand} {k : IntKind} {a b r : Int} {t ty rt : TypeId} {pos : String} {af : Array Edge} {g : Option (Nat × Bool)} :
      opv s x = some (.c (.v (.int k a))) → opv s y = some (.c (.v (.int k b))) → b ≠ 0 → Rm a b r → Nat.blt d c.N = true → Ev c s ⟨some d, .binOp .rem t x y ty, rt, pos, af, g⟩ ⟨opk x ++ opk y, [(.t d, .v (.c (.v (.int k r))))]⟩
  | shl {d : Tmp} {x y : Operand} {k yk : IntKind} {a b m r : Int} {t ty rt : TypeId} {pos : String} {af : Array Edge} {g : Option (Nat × Bool)} :
      opv s x = some (.c (.v (.int k a))) → opv s y = some (.c (.v (.int yk b))) → 0 ≤ b → Sh k b m → Wr k (a * m) r → Nat.blt d c.N = true → Ev c s ⟨some d, .binOp .shl t x y ty, rt, pos, af, g⟩ ⟨opk x ++ opk y, [(.t d, .v (.c (.v (.int k r))))]⟩
  | shr {d : Tmp} {x y : Operand} {k yk : IntKind} {a b m : Int} {t ty rt : TypeId} {pos : String} {af : Array Edge} {g : Option (Nat × Bool)} :
      opv s x = some (.c (.v (.int k a))) → opv s y = some (.c (.v (.int yk b))) → 0 ≤ b → Sh k b m → Nat.blt d c.N = true → Ev c s ⟨some d, .binOp .shr t x y ty, rt, pos, af, g⟩ ⟨opk x ++ opk y, [(.t d, .v (.c (.v (.int k (a / m)))))]⟩
  | lss {d : Tmp} {x y : Operand} {k : IntKind} {a b : Int} {r : Bool} {t ty rt : TypeId} {pos : String} {af : Array Edge} {g : Option (Nat × Bool)} :
      opv s x = some (.c (.v (.int k a))) → opv s y = some (.c (.v (.int k b))) → Tv (decide (a < b)) r → Nat.blt d c.N = true → Ev c s ⟨some d, .binOp .lss t x y ty, rt, pos, af, g⟩ ⟨opk x ++ opk y, [(.t d, .v (.c (.v (.bool r))))]⟩
  | leq {d : Tmp} {x y : Operand} {k : IntKind} {a b : Int} {r : Bool} {t ty rt : TypeId} {pos : String} {af : Array Edge} {g : Option (Nat × Bool)} :
      opv s x = some (.c (.v (.int k a))) → opv s y = some (.c (.v (.int k b))) → Tv (decide (a ≤ b)) r → Nat.blt d c.N = true → Ev c s ⟨some d, .binOp .leq t x y ty, rt, pos, af, g⟩ ⟨opk x ++ opk y, [(.t d, .v (.c (.v (.bool r))))]⟩
  | gtr {d : Tmp} {x y : Operand} {k : IntKind} {a b : Int} {r : Bool} {t ty rt : TypeId} {pos : String} {af : Array Edge} {g : Option (Nat × Bool)} :
      opv s x = some (.c (.v (.int k a))) → opv s y = some (.c (.v (.int k b))) → Tv (decide (b < a)) r → Nat.blt d c.N = true → Ev c s ⟨some d, .binOp .gtr t x y ty, rt, pos, af, g⟩ ⟨opk x ++ opk y, [(.t d, .v (.c (.v (.bool r))))]⟩
  | geq {d : Tmp} {x y : Operand} {k : IntKind} {a b : Int} {r : Bool} {t ty rt : TypeId} {pos : String} {af : Array Edge} {g : Option (Nat × Bool)} :
      opv s x = some (.c (.v (.int k a))) → opv s y = some (.c (.v (.int k b))) → Tv (decide (b ≤ a)) r → Nat.blt d c.N = true → Ev c s ⟨some d, .binOp .geq t x y ty, rt, pos, af, g⟩ ⟨opk x ++ opk y, [(.t d, .v (.c (.v (.bool r))))]⟩
  | eql {d : Tmp} {x y : Operand} {k : IntKind} {a b : Int} {r : Bool} {t ty rt : TypeId} {pos : String} {af : Array Edge} {g : Option (Nat × Bool)} :
      opv s x = some (.c (.v (.int k a))) → opv s y = some (.c (.v (.int k b))) → Tv (a == b) r → Nat.blt d c.N = true → Ev c s ⟨some d, .binOp .eql t x y ty, rt, pos, af, g⟩ ⟨opk x ++ opk y, [(.t d, .v (.c (.v (.bool r))))]⟩
  | neq {d : Tmp} {x y : Operand} {k : IntKind} {a b : Int} {r : Bool} {t ty rt : TypeId} {pos : String} {af : Array Edge} {g : Option (Nat × Bool)} :
      opv s x = some (.c (.v (.int k a))) → opv s y = some (.c (.v (.int k b))) → Tv (a != b) r → Nat.blt d c.N = true → Ev c s ⟨some d, .binOp .neq t x y ty, rt, pos, af, g⟩ ⟨opk x ++ opk y, [(.t d, .v (.c (.v (.bool r))))]⟩
  | eqlB {d : Tmp} {x y : Operand} {a b r : Bool} {t ty rt : TypeId} {pos : String} {af : Array Edge} {g : Option (Nat × Bool)} :
      opv s x = some (.c (.v (.bool a))) → opv s y = some (.c (.v (.bool b))) → c.P.underlying t = some .bool → Tv (a == b) r → Nat.blt d c.N = true → Ev c s ⟨some d, .binOp .eql t x y ty, rt, pos, af, g⟩ ⟨opk x ++ opk y, [(.t d, .v (.c (.v (.bool r))))]⟩
  | neqB {d : Tmp} {x y : Operand} {a b r : Bool} {t ty rt : TypeId} {pos : String} {af : Array Edge} {g : Option (Nat × Bool)} :
      opv s x = some (.c (.v (.bool a))) → opv s y = some (.c (.v (.bool b))) → c.P.underlying t = some .bool → Tv (a != b) r → Nat.blt d c.N = true → Ev c s ⟨some d, .binOp .neq t x y ty, rt, pos, af, g⟩ ⟨opk x ++ opk y, [(.t d, .v (.c (.v (.bool r))))]⟩
  | eqlA {d : Tmp} {x y : Operand} {L M : List Value} {r : Bool} {t ty rt : TypeId} {pos : String} {af : Array Edge} {g : Option (Nat × Bool)} :
      opv s x = some (.c (.v (.agg L.toArray))) → opv s y = some (.c (.v (.agg M.toArray))) → EqOk c.P t L M → Tv (eqs L M) r → Nat.blt d c.N = true → Ev c s ⟨some d, .binOp .eql t x y ty, rt, pos, af, g⟩ ⟨opk x ++ opk y, [(.t d, .v (.c (.v (.bool r))))]⟩
  | neqA {d : Tmp} {x y : Operand} {L M : List Value} {r : Bool} {t ty rt : TypeId} {pos : String} {af : Array Edge} {g : Option (Nat × Bool)} :
      opv s x = some (.c (.v (.agg L.toArray))) → opv s y = some (.c (.v (.agg M.toArray))) → EqOk c.P t L M → Tv (!eqs L M) r → Nat.blt d c.N = true → Ev c s ⟨some d, .binOp .neq t x y ty, rt, pos, af, g⟩ ⟨opk x ++ opk y, [(.t d, .v (.c (.v (.bool r))))]⟩
  | bin {d : Tmp} {op : BinOp} {x y : Operand} {X Y Z : Value} {t ty rt : TypeId} {pos : String} {af : Array Edge} {g : Option (Nat × Bool)} :
      opv s x = some (.c (.v X)) → opv s y = some (.c (.v Y)) → RunS c.P (do eqGuard op t x y X Y; binOp op t X Y : Sem Value) Z → Nat.blt d c.N = true → Ev c s ⟨some d, .binOp op t x y ty, rt, pos, af, g⟩ ⟨opk x ++ opk y, [(.t d, .v (.c (.v Z)))]⟩
  | not {d : Tmp} {x : Operand} {b r : Bool} {t rt : TypeId} {pos : String} {af : Array Edge} {g : Option (Nat × Bool)} :
      opv s x = some (.c (.v (.bool b))) → Tv (!b) r → Nat.blt d c.N = true → Ev c s ⟨some d, .unOp .not t x, rt, pos, af, g⟩ ⟨opk x, [(.t d, .v (.c (.v (.bool r))))]⟩
  | neg {d : Tmp} {x : Operand} {k : IntKind} {a r : Int} {t rt : TypeId} {pos : String} {af : Array Edge} {g : Option (Nat × Bool)} :
      opv s x = some (.c (.v (.int k a))) → Wr k (-a) r → Nat.blt d c.N = true → Ev c s ⟨some d, .unOp .neg t x, rt, pos, af, g⟩ ⟨opk x, [(.t d, .v (.c (.v (.int k r))))]⟩
  | un {d : Tmp} {op : UnOp} {x : Operand} {X Z : Value} {t rt : TypeId} {pos : String} {af : Array Edge} {g : Option (Nat × Bool)} :
      opv s x = some (.c (.v X)) → RunS c.P (Op.unary op X) Z → Nat.blt d c.N = true → Ev c s ⟨some d, .unOp op t x, rt, pos, af, g⟩ ⟨opk x, [(.t d, .v (.c (.v Z)))]⟩
  | conv {d : Tmp} {x : Operand} {k k' : IntKind} {n r : Int} {e : TypeDesc} {src dst rt : TypeId} {pos : String} {af : Array Edge} {g : Option (Nat × Bool)} :
      opv s x = some (.c (.v (.int k n))) → c.P.underlying src = some e → c.P.underlying dst = some (.int k') → Wr k' n r → Nat.blt d c.N = true → Ev c s ⟨some d, .convert src dst x, rt, pos, af, g⟩ ⟨opk x, [(.t d, .v (.c (.v (.int k' r))))]⟩
  | convert {d : Tmp} {x : Operand} {X Z : Value} {src dst rt : TypeId} {pos : String} {af : Array Edge} {g : Option (Nat × Bool)} :
      opv s x = some (.c (.v X)) → RunS c.P (Go.convert src dst X) Z → Nat.blt d c.N = true → Ev c s ⟨some d, .convert src dst x, rt, pos, af, g⟩ ⟨opk x, [(.t d, .v (.c (.v Z)))]⟩
  | extract {d : Tmp} {x : Operand} {l : List Value} {i : Nat} {Z : Value} {rt : TypeId} {pos : String} {af : Array Edge} {g : Option (Nat × Bool)} :
      opv s x = some (.c (.v (.tuple l.toArray))) → l[i]? = some Z → Nat.blt d c.N = true → Ev c s ⟨some d, .extract x i, rt, pos, af, g⟩ ⟨opk x, [(.t d, .v (.c (.v Z)))]⟩
  | extractC {d : Tmp} {x : Operand} {l : List (C ⊕ List C)} {i : Nat} {z : C} {rt : TypeId} {pos : String} {af : Array Edge} {g : Option (Nat × Bool)} :
      opv s x = some (.t l) → l[i]? = some (.inl z) → Nat.blt d c.N = true → Ev c s ⟨some d, .extract x i, rt, pos, af, g⟩ ⟨opk x, [(.t d, .v (.c z))]⟩
  | extractA {d : Tmp} {x : Operand} {l : List (C ⊕ List C)} {i : Nat} {z : List C} {rt : TypeId} {pos : String} {af : Array Edge} {g : Option (Nat × Bool)} :
      opv s x = some (.t l) → l[i]? = some (.inr z) → Nat.blt d c.N = true → Ev c s ⟨some d, .extract x i, rt, pos, af, g⟩ ⟨opk x, [(.t d, .v (.a z))]⟩
  | field {d : Tmp} {x : Operand} {X Z : Value} {t rt : TypeId} {i : Nat} {pos : String} {af : Array Edge} {g : Option (Nat × Bool)} :
      opv s x = some (.c (.v X)) → RunS c.P (Instr.field t X i) Z → Nat.blt d c.N = true → Ev c s ⟨some d, .field t x i, rt, pos, af, g⟩ ⟨opk x, [(.t d, .v (.c (.v Z)))]⟩
  | fieldC {d : Tmp} {x : Operand} {l : List C} {z : C} {o : Nat} {t rt : TypeId} {i : Nat} {pos : String} {af : Array Edge} {g : Option (Nat × Bool)} :
      opv s x = some (.a l) → (∀ (A : Array Value) v w, A[o]? = some v → (Instr.field t (.agg A) i).run c.P w = .ok v w) → l[o]? = some z → Nat.blt d c.N = true → Ev c s ⟨some d, .field t x i, rt, pos, af, g⟩ ⟨opk x, [(.t d, .v (.c z))]⟩
  | index1 {d : Tmp} {x y : Operand} {L : List Value} {k : IntKind} {i : Int} {len : Nat} {e : TypeId} {Z : Value} {t rt : TypeId} {pos : String} {af : Array Edge} {g : Option (Nat × Bool)} :
      opv s x = some (.c (.v (.agg L.toArray))) → opv s y = some (.c (.v (.int k i))) → c.P.underlying t = some (.array len e) → (∀ w, (isAgg e).run c.P w = .ok false w) → (c.P.info? e).map (·.size) = some 1 → 0 ≤ i ∧ i < len → L[i.toNat]? = some Z → Nat.blt d c.N = true → Ev c s ⟨some d, .index t x y, rt, pos, af, g⟩ ⟨opk x ++ opk y, [(.t d, .v (.c (.v Z)))]⟩
  | index {d : Tmp} {x y : Operand} {X Y Z : Value} {t rt : TypeId} {pos : String} {af : Array Edge} {g : Option (Nat × Bool)} :
      opv s x = some (.c (.v X)) → opv s y = some (.c (.v Y)) → RunS c.P (Instr.index t X Y) Z → Nat.blt d c.N = true → Ev c s ⟨some d, .index t x y, rt, pos, af, g⟩ ⟨opk x ++ opk y, [(.t d, .v (.c (.v Z)))]⟩
  | fieldAddr {d : Tmp} {x : Operand} {n o o' : Nat} {t rt : TypeId} {i : Nat} {pos : String} {af : Array Edge} {g : Option (Nat × Bool)} :
      opv s x = some (.c (.p n o)) → RunP c.P (fun b => Instr.fieldAt t (.pointer (some ⟨b, o, none⟩)) i) o' → Nat.blt d c.N = true → Ev c s ⟨some d, .fieldAddr t x i, rt, pos, af, g⟩ ⟨opk x, [(.t d, .v (.c (.p n o')))]⟩
  | fieldAddrV {d : Tmp} {x : Operand} {X Z : Value} {t rt : TypeId} {i : Nat} {pos : String} {af : Array Edge} {g : Option (Nat × Bool)} :
      opv s x = some (.c (.v X)) → RunS c.P (Instr.fieldAt t X i) Z → Nat.blt d c.N = true → Ev c s ⟨some d, .fieldAddr t x i, rt, pos, af, g⟩ ⟨opk x, [(.t d, .v (.c (.v Z)))]⟩
  | indexAddr {d : Tmp} {x y : Operand} {n o o' : Nat} {Y : Value} {t rt : TypeId} {pos : String} {af : Array Edge} {g : Option (Nat × Bool)} :
      opv s x = some (.c (.p n o)) → opv s y = some (.c (.v Y)) → RunP c.P (fun b => Instr.indexAt t (.pointer (some ⟨b, o, none⟩)) Y) o' → Nat.blt d c.N = true → Ev c s ⟨some d, .indexAddr t x y, rt, pos, af, g⟩ ⟨opk x ++ opk y, [(.t d, .v (.c (.p n o')))]⟩
  | indexAddrS {d : Tmp} {x y : Operand} {n o len cap o' : Nat} {Y : Value} {t rt : TypeId} {pos : String} {af : Array Edge} {g : Option (Nat × Bool)} :
      opv s x = some (.c (.s n o len cap)) → opv s y = some (.c (.v Y)) → RunP c.P (fun b => Instr.indexAt t (.slice (some ⟨b, o, none⟩) len cap) Y) o' → Nat.blt d c.N = true → Ev c s ⟨some d, .indexAddr t x y, rt, pos, af, g⟩ ⟨opk x ++ opk y, [(.t d, .v (.c (.p n o')))]⟩
  | indexAddrV {d : Tmp} {x y : Operand} {X Y Z : Value} {t rt : TypeId} {pos : String} {af : Array Edge} {g : Option (Nat × Bool)} :
      opv s x = some (.c (.v X)) → opv s y = some (.c (.v Y)) → RunS c.P (Instr.indexAt t X Y) Z → Nat.blt d c.N = true → Ev c s ⟨some d, .indexAddr t x y, rt, pos, af, g⟩ ⟨opk x ++ opk y, [(.t d, .v (.c (.v Z)))]⟩
  | slice {d : Tmp} {x : Operand} {n o o' len cap : Nat} {lo hi mx : Option Operand} {lo' hi' mx' : Option Value} {t rt : TypeId} {pos : String} {af : Array Edge} {g : Option (Nat × Bool)} {k1 k2 k3 : List Key} :
      opv s x = some (.c (.p n o)) → OptV s lo lo' k1 → OptV s hi hi' k2 → OptV s mx mx' k3 → RunL c.P (fun b => Instr.sliceAt t (.pointer (some ⟨b, o, none⟩)) lo' hi' mx') o' len cap → Nat.blt d c.N = true →
      Ev c s ⟨some d, .slice t x lo hi mx, rt, pos, af, g⟩ ⟨opk x ++ (k1 ++ (k2 ++ k3)), [(.t d, .v (.c (.s n o' len cap)))]⟩
  | sliceS {d : Tmp} {x : Operand} {n o l k o' len cap : Nat} {lo hi mx : Option Operand} {lo' hi' mx' : Option Value} {t rt : TypeId} {pos : String} {af : Array Edge} {g : Option (Nat × Bool)} {k1 k2 k3 : List Key} :
      opv s x = some (.c (.s n o l k)) → OptV s lo lo' k1 → OptV s hi hi' k2 → OptV s mx mx' k3 → RunL c.P (fun b => Instr.sliceAt t (.slice (some ⟨b, o, none⟩) l k) lo' hi' mx') o' len cap → Nat.blt d c.N = true →
      Ev c s ⟨some d, .slice t x lo hi mx, rt, pos, af, g⟩ ⟨opk x ++ (k1 ++ (k2 ++ k3)), [(.t d, .v (.c (.s n o' len cap)))]⟩
  | sliceV {d : Tmp} {x : Operand} {X Z : Value} {lo hi mx : Option Operand} {lo' hi' mx' : Option Value} {t rt : TypeId} {pos : String} {af : Array Edge} {g : Option (Nat × Bool)} {k1 k2 k3 : List Key} :
      opv s x = some (.c (.v X)) → OptV s lo lo' k1 → OptV s hi hi' k2 → OptV s mx mx' k3 → RunS c.P (Instr.sliceAt t X lo' hi' mx') Z → Nat.blt d c.N = true →
      Ev c s ⟨some d, .slice t x lo hi mx, rt, pos, af, g⟩ ⟨opk x ++ (k1 ++ (k2 ++ k3)), [(.t d, .v (.c (.v Z)))]⟩
  | load {d : Tmp} {x : Operand} {n o : Nat} {z : C} {t rt : TypeId} {pos : String} {af : Array Edge} {g : Option (Nat × Bool)} :
      opv s x = some (.c (.p n o)) → s (.c n o) = some (.c z) → (∀ w, (isAgg t).run c.P w = .ok false w) → Nat.blt d c.N = true → Ev c s ⟨some d, .load t x, rt, pos, af, g⟩ ⟨.c n o :: opk x, [(.t d, .v (.c z))]⟩
  | loadA {d : Tmp} {x : Operand} {n o k : Nat} {l : List C} {L : List Value} {ks : List Key} {e : TypeDesc} {t rt : TypeId} {pos : String} {af : Array Edge} {g : Option (Nat × Bool)} :
      opv s x = some (.c (.p n o)) → c.P.underlying t = some e → e.isRow = true → (c.P.info? t).map (·.size) = some k → CellsAt s n o k l ks → Plain l L → Nat.blt d c.N = true → Ev c s ⟨some d, .load t x, rt, pos, af, g⟩ ⟨opk x ++ ks, [(.t d, .v (.c (.v (.agg L.toArray))))]⟩
  | loadM {d : Tmp} {x : Operand} {n o k : Nat} {l : List C} {ks : List Key} {e : TypeDesc} {t rt : TypeId} {pos : String} {af : Array Edge} {g : Option (Nat × Bool)} :
      opv s x = some (.c (.p n o)) → c.P.underlying t = some e → e.isRow = true → (c.P.info? t).map (·.size) = some k → CellsAt s n o k l ks → Nat.blt d c.N = true → Ev c s ⟨some d, .load t x, rt, pos, af, g⟩ ⟨opk x ++ ks, [(.t d, .v (.a l))]⟩
  | loadO {d : Tmp} {x : Operand} {b o : Nat} {z : Value} {t rt : TypeId} {pos : String} {af : Array Edge} {g : Option (Nat × Bool)} :
      opv s x = some (.c (.v (.pointer (some ⟨b, o, none⟩)))) → c.w0.cell? ⟨b, o, none⟩ = some z → (∀ n, n < c.m → c.ini n ≠ b) → (∀ w, (isAgg t).run c.P w = .ok false w) → Nat.blt d c.N = true → Ev c s ⟨some d, .load t x, rt, pos, af, g⟩ ⟨opk x, [(.t d, .v (.c (.v z)))]⟩
  | loadOA {d : Tmp} {x : Operand} {b o : Nat} {L : List Value} {e : TypeDesc} {t rt : TypeId} {pos : String} {af : Array Edge} {g : Option (Nat × Bool)} :
      opv s x = some (.c (.v (.pointer (some ⟨b, o, none⟩)))) → c.P.underlying t = some e → e.isRow = true → c.w0.rangeAt b o L → (c.P.info? t).map (·.size) = some L.length → (∀ n, n < c.m → c.ini n ≠ b) → b < c.B → Nat.blt d c.N = true → Ev c s ⟨some d, .load t x, rt, pos, af, g⟩ ⟨opk x, [(.t d, .v (.c (.v (.agg L.toArray))))]⟩
  | nilCheck {d : Tmp} {x : Operand} {n o : Nat} {rt : TypeId} {pos : String} {af : Array Edge} {g : Option (Nat × Bool)} :
      opv s x = some (.c (.p n o)) → Nat.blt d c.N = true → Ev c s ⟨some d, .nilCheck x, rt, pos, af, g⟩ ⟨opk x, [(.t d, .v (.c (.p n o)))]⟩
  | nilCheckV {d : Tmp} {x : Operand} {p : Addr} {rt : TypeId} {pos : String} {af : Array Edge} {g : Option (Nat × Bool)} :
      opv s x = some (.c (.v (.pointer (some p)))) → Nat.blt d c.N = true → Ev c s ⟨some d, .nilCheck x, rt, pos, af, g⟩ ⟨opk x, [(.t d, .v (.c (.v (.pointer (some p)))))]⟩
  | makeFunc {d : Tmp} {f : FuncId} {xs : List Operand} {l : List (Nat × Nat)} {ks : List Key} {rt : TypeId} {pos : String} {af : Array Edge} {g : Option (Nat × Bool)} :
      Caps s xs l ks → Nat.blt d c.N = true → Ev c s ⟨some d, .makeFunc (.func f) #[] xs.toArray, rt, pos, af, g⟩ ⟨ks, [(.t d, .v (.c (.f f l)))]⟩
  | min2 {d : Tmp} {x y : Operand} {k : IntKind} {a b : Int} {tys : Array TypeId} {rt : TypeId} {pos : String} {af : Array Edge} {g : Option (Nat × Bool)} :
      opv s x = some (.c (.v (.int k a))) → opv s y = some (.c (.v (.int k b))) → (∀ cs w, (Go.builtin .min tys rt cs #[.int k a, .int k b]).run c.P w = .ok (.value (.int k (if b < a then b else a))) w) → Nat.blt d c.N = true → Ev c s ⟨some d, .call ⟨.builtin .min, #[x, y], tys⟩, rt, pos, af, g⟩ ⟨opk x ++ opk y, [(.t d, .v (.c (.v (.int k (min a b)))))]⟩
  | max2 {d : Tmp} {x y : Operand} {k : IntKind} {a b : Int} {tys : Array TypeId} {rt : TypeId} {pos : String} {af : Array Edge} {g : Option (Nat × Bool)} :
      opv s x = some (.c (.v (.int k a))) → opv s y = some (.c (.v (.int k b))) → (∀ cs w, (Go.builtin .max tys rt cs #[.int k a, .int k b]).run c.P w = .ok (.value (.int k (if b > a then b else a))) w) → Nat.blt d c.N = true → Ev c s ⟨some d, .call ⟨.builtin .max, #[x, y], tys⟩, rt, pos, af, g⟩ ⟨opk x ++ opk y, [(.t d, .v (.c (.v (.int k (max a b)))))]⟩
  | min4 {d : Tmp} {x y z u' : Operand} {k : IntKind} {p q u v : Int} {tys : Array TypeId} {rt : TypeId} {pos : String} {af : Array Edge} {g : Option (Nat × Bool)} :
      opv s x = some (.c (.v (.int k p))) → opv s y = some (.c (.v (.int k q))) → opv s z = some (.c (.v (.int k u))) → opv s u' = some (.c (.v (.int k v))) → (∀ cs w, (Go.builtin .min tys rt cs #[.int k p, .int k q, .int k u, .int k v]).run c.P w = .ok (.value (.int k (if v < (if u < (if q < p then q else p) then u else (if q < p then q else p)) then v else (if u < (if q < p then q else p) then u else (if q < p then q else p))))) w) → Nat.blt d c.N = true → Ev c s ⟨some d, .call ⟨.builtin .min, #[x, y, z, u'], tys⟩, rt, pos, af, g⟩ ⟨opk x ++ (opk y ++ (opk z ++ opk u')), [(.t d, .v (.c (.v (.int k (min (min (min p q) u) v)))))]⟩
  | max4 {d : Tmp} {x y z u' : Operand} {k : IntKind} {p q u v : Int} {tys : Array TypeId} {rt : TypeId} {pos : String} {af : Array Edge} {g : Option (Nat × Bool)} :
      opv s x = some (.c (.v (.int k p))) → opv s y = some (.c (.v (.int k q))) → opv s z = some (.c (.v (.int k u))) → opv s u' = some (.c (.v (.int k v))) → (∀ cs w, (Go.builtin .max tys rt cs #[.int k p, .int k q, .int k u, .int k v]).run c.P w = .ok (.value (.int k (if v > (if u > (if q > p then q else p) then u else (if q > p then q else p)) then v else (if u > (if q > p then q else p) then u else (if q > p then q else p))))) w) → Nat.blt d c.N = true → Ev c s ⟨some d, .call ⟨.builtin .max, #[x, y, z, u'], tys⟩, rt, pos, af, g⟩ ⟨opk x ++ (opk y ++ (opk z ++ opk u')), [(.t d, .v (.c (.v (.int k (max (max (max p q) u) v)))))]⟩
  | pickT {d : Tmp} {x y z : Operand} {b : Bool} {v : V} {rt : TypeId} {pos : String} {af : Array Edge} {g : Option (Nat × Bool)} :
      opv s x = some (.c (.v (.bool b))) → Tk b true → opv s y = some v → Nat.blt d c.N = true → Ev c s ⟨some d, .pick x y z, rt, pos, af, g⟩ ⟨opk x ++ opk y, [(.t d, .v v)]⟩
  | pickF {d : Tmp} {x y z : Operand} {b : Bool} {v : V} {rt : TypeId} {pos : String} {af : Array Edge} {g : Option (Nat × Bool)} :
      opv s x = some (.c (.v (.bool b))) → Tk b false → opv s z = some v → Nat.blt d c.N = true → Ev c s ⟨some d, .pick x y z, rt, pos, af, g⟩ ⟨opk x ++ opk z, [(.t d, .v v)]⟩
  | builtin {d : Tmp} {b : Builtin} {xs : List Operand} {L : List Value} {l : List V} {ks : List Key} {tys : Array TypeId} {Z : Value} {rt : TypeId} {pos : String} {af : Array Edge} {g : Option (Nat × Bool)} :
      Vals s xs l ks → LeafL l L → (∀ cs w, (Go.builtin b tys rt cs L.toArray).run c.P w = .ok (.value Z) w) → Nat.blt d c.N = true → Ev c s ⟨some d, .call ⟨.builtin b, xs.toArray, tys⟩, rt, pos, af, g⟩ ⟨ks, [(.t d, .v (.c (.v Z)))]⟩
  | lenS {d : Tmp} {b : Builtin} {x : Operand} {n o l k : Nat} {Z : Value} {tys : Array TypeId} {rt : TypeId} {pos : String} {af : Array Edge} {g : Option (Nat × Bool)} :
      opv s x = some (.c (.s n o l k)) → (∀ bl cs w, (Go.builtin b tys rt cs #[.slice (some ⟨bl, o, none⟩) l k]).run c.P w = .ok (.value Z) w) → Nat.blt d c.N = true → Ev c s ⟨some d, .call ⟨.builtin b, #[x], tys⟩, rt, pos, af, g⟩ ⟨opk x, [(.t d, .v (.c (.v Z)))]⟩
  | build1 {d : Tmp} {ps : List (Nat × Operand)} {xs : List Operand} {l : List V} {L : List Value} {ks : List Key} {t rt : TypeId} {pos : String} {af : Array Edge} {g : Option (Nat × Bool)} :
      Is (ps.map (·.2)) xs → Vals s xs l ks → LeafL l L → c.P.built t ((ps.map (·.1)).zip L) = some L.toArray → Nat.blt d c.N = true → Ev c s ⟨some d, .build t ps.toArray, rt, pos, af, g⟩ ⟨ks, [(.t d, .v (.c (.v (.agg L.toArray))))]⟩
  | build {d : Tmp} {ps : List (Nat × Operand)} {xs : List Operand} {l : List V} {L : List Value} {ks : List Key} {Z : Value} {t rt : TypeId} {pos : String} {af : Array Edge} {g : Option (Nat × Bool)} :
      Is (ps.map (·.2)) xs → Vals s xs l ks → LeafL l L → RunS c.P (Instr.build t ((ps.map (·.1)).zip L).toArray) Z → Nat.blt d c.N = true → Ev c s ⟨some d, .build t ps.toArray, rt, pos, af, g⟩ ⟨ks, [(.t d, .v (.c (.v Z)))]⟩

section
variable {c : Ctx} {F : Fence} {nn : Nat} {σ : Sf}
theorem den_p {ids : Nat → Nat} {n o : Nat} : (C.p n o).den ids = .pointer (some ⟨ids n, o, none⟩) := rfl
theorem run_bin {P : Program} {w : World} {a : Act} {d : Option Tmp} {op : BinOp} {x y : Operand} {X Y Z : Value} {t ty rt : TypeId} {pos : String} {af : Array Edge} {g : Option (Nat × Bool)} (hx : a.eval x = X) (hy : a.eval y = Y)
    (h : (do eqGuard op t x y X Y; binOp op t X Y : Sem Value).run P w = .ok Z w) : (execOp a.eval ⟨d, .binOp op t x y ty, rt, pos, af, g⟩).run P w = .ok (.value Z) w := by
  simp only [execOp, hx, hy, Sem.run_bind, Sem.run_pure, Result.andThen_ok] at h ⊢
  simp [h]
theorem run_int {P : Program} {w : World} {a : Act} {d : Option Tmp} {op : BinOp} {x y : Operand} {k k' : IntKind} {p q : Int} {Z : Value} {t ty rt : TypeId} {pos : String} {af : Array Edge} {g : Option (Nat × Bool)} (hx : a.eval x = .int k p) (hy : a.eval y = .int k' q)
    (h : (binOp op t (.int k p) (.int k' q)).run P w = .ok Z w) : (execOp a.eval ⟨d, .binOp op t x y ty, rt, pos, af, g⟩).run P w = .ok (.value Z) w := by
  refine run_bin hx hy ?_
  have : eqGuard op t x y (.int k p) (.int k' q) = pure () := by unfold eqGuard; cases op <;> rfl
  rw [this]; simpa using h
theorem Ev.sound (hF : WideLike F) {o : Oper} {t : Tr} (h : Ev c σ o t) : LocalO c F nn o σ t := by
  have nil : ∀ {rd : List Key} {x : Value}, ∀ n ∈ (V.c (C.v x)).names, ∃ q ∈ rd, ∃ y, σ q = some y ∧ n ∈ y.names := fun n hn => by cases hn
  cases h with
  | move hx hN =>
    refine LocalO.val hF rfl hN (noDefer rfl) (fun n hn => opv_names hx hn) fun s ids a w hag hR => ?_
    simp [execOp, ev1 hx hag (fun q h => h) hR]
  | assign hx hN =>
    refine LocalO.val hF rfl hN (noDefer rfl) (fun n hn => opv_names hx hn) fun s ids a w hag hR => ?_
    simp [execOp, ev1 hx hag (fun q h => h) hR]
  | add hx hy hr hN | sub hx hy hr hN | mul hx hy hr hN =>
    obtain ⟨rfl⟩ := hr
    refine LocalO.val hF rfl hN (noDefer rfl) nil fun s ids a w hag hR => run_int (ev1 hx hag (fun q h => by simp [h]) hR) (ev1 hy hag (fun q h => by simp [h]) hR) ?_
    simp [binOp, Op.intArith, V.den, C.den]
  | quo hx hy hb hr hN =>
    obtain ⟨rfl⟩ := hr
    refine LocalO.val hF rfl hN (noDefer rfl) nil fun s ids a w hag hR => run_int (ev1 hx hag (fun q h => by simp [h]) hR) (ev1 hy hag (fun q h => by simp [h]) hR) ?_
    simp [binOp, Op.intDiv, V.den, C.den, hb]
  | rem hx hy hb hr hN =>
    obtain ⟨rfl⟩ := hr
    refine LocalO.val hF rfl hN (noDefer rfl) nil fun s ids a w hag hR => run_int (ev1 hx hag (fun q h => by simp [h]) hR) (ev1 hy hag (fun q h => by simp [h]) hR) ?_
    simp [binOp, Op.intDiv, V.den, C.den, hb]
  | @shl d x y k yk a b m r t ty rt pos af g hx hy hb hm hr hN =>
    obtain ⟨rfl⟩ := hr
    refine LocalO.val hF rfl hN (noDefer rfl) nil fun s ids a w hag hR => run_int (ev1 hx hag (fun q h => by simp [h]) hR) (ev1 hy hag (fun q h => by simp [h]) hR) ?_
    have hb' : ¬ b < 0 := by omega
    have hm' : (2 ^ (min b.toNat k.bits) : Int) = m := hm.eq
    simp [binOp, Op.shift, V.den, C.den, hb', hm']
  | @shr d x y k yk a b m t ty rt pos af g hx hy hb hm hN =>
    refine LocalO.val hF rfl hN (noDefer rfl) nil fun s ids a w hag hR => run_int (ev1 hx hag (fun q h => by simp [h]) hR) (ev1 hy hag (fun q h => by simp [h]) hR) ?_
    have hb' : ¬ b < 0 := by omega
    have hm' : (2 ^ (min b.toNat k.bits) : Int) = m := hm.eq
    have hp : 0 ≤ m := by rw [← hm']; exact Int.le_of_lt (Int.pow_pos (by omega))
    simp [binOp, Op.shift, V.den, C.den, hb', hm', Int.fdiv_eq_ediv_of_nonneg _ hp]
  | lss hx hy hr hN | leq hx hy hr hN | gtr hx hy hr hN | geq hx hy hr hN | eql hx hy hr hN | neq hx hy hr hN =>
    obtain ⟨rfl⟩ := hr
    refine LocalO.val hF rfl hN (noDefer rfl) nil fun s ids a w hag hR => run_int (ev1 hx hag (fun q h => by simp [h]) hR) (ev1 hy hag (fun q h => by simp [h]) hR) ?_
    simp [binOp, Op.intCmp, V.den, C.den]
  | @eqlB d x y a b r t ty rt pos af g hx hy hu hr hN =>
    obtain ⟨rfl⟩ := hr
    refine LocalO.val hF rfl hN (noDefer rfl) nil fun s ids act w hag hR => run_bin (ev1 hx hag (fun q h => by simp [h]) hR) (ev1 hy hag (fun q h => by simp [h]) hR) ?_
    have e : eqGuard .eql t x y ((V.c (C.v (.bool a))).den ids) ((V.c (C.v (.bool b))).den ids) = pure () := rfl
    rw [e]; simpa [V.den, C.den] using run_eql_bool (P := c.P) w t a b hu
  | @neqB d x y a b r t ty rt pos af g hx hy hu hr hN =>
    obtain ⟨rfl⟩ := hr
    refine LocalO.val hF rfl hN (noDefer rfl) nil fun s ids act w hag hR => run_bin (ev1 hx hag (fun q h => by simp [h]) hR) (ev1 hy hag (fun q h => by simp [h]) hR) ?_
    have e : eqGuard .neq t x y ((V.c (C.v (.bool a))).den ids) ((V.c (C.v (.bool b))).den ids) = pure () := rfl
    rw [e]; simpa [V.den, C.den, bne] using run_neq_bool (P := c.P) w t a b hu
  | @eqlA d x y L M r t ty rt pos af g hx hy hu hr hN =>
    obtain ⟨rfl⟩ := hr
    refine LocalO.val hF rfl hN (noDefer rfl) nil fun s ids act w hag hR => run_bin (ev1 hx hag (fun q h => by simp [h]) hR) (ev1 hy hag (fun q h => by simp [h]) hR) ?_
    obtain ⟨h1, h2, h3⟩ := hu.eql w
    simp only [V.den, C.den, Sem.run_bind, run_eqGuard_agg w _ t x y _ _ h3, Result.andThen_ok, h1]
  | @neqA d x y L M r t ty rt pos af g hx hy hu hr hN =>
    obtain ⟨rfl⟩ := hr
    refine LocalO.val hF rfl hN (noDefer rfl) nil fun s ids act w hag hR => run_bin (ev1 hx hag (fun q h => by simp [h]) hR) (ev1 hy hag (fun q h => by simp [h]) hR) ?_
    obtain ⟨h1, h2, h3⟩ := hu.eql w
    simp only [V.den, C.den, Sem.run_bind, run_eqGuard_agg w _ t x y _ _ h3, Result.andThen_ok, h2]
  | bin hx hy hrun hN =>
    exact LocalO.val hF rfl hN (noDefer rfl) nil fun s ids a w hag hR => run_bin (ev1 hx hag (fun q h => by simp [h]) hR) (ev1 hy hag (fun q h => by simp [h]) hR) (hrun.eq w)
  | not hx hr hN =>
    obtain ⟨rfl⟩ := hr
    refine LocalO.val hF rfl hN (noDefer rfl) nil fun s ids a w hag hR => ?_
    simp [execOp, ev1 hx hag (fun q h => h) hR, V.den, C.den, Op.unary]
  | neg hx hr hN =>
    obtain ⟨rfl⟩ := hr
    refine LocalO.val hF rfl hN (noDefer rfl) nil fun s ids a w hag hR => ?_
    simp [execOp, ev1 hx hag (fun q h => h) hR, V.den, C.den, Op.unary, Op.intArith]
  | un hx hrun hN =>
    refine LocalO.val hF rfl hN (noDefer rfl) nil fun s ids a w hag hR => ?_
    simp [execOp, ev1 hx hag (fun q h => h) hR, V.den, C.den, hrun.eq]
  | @conv d x k k' n r e src dst rt pos af g hx he hk hr hN =>
    obtain ⟨rfl⟩ := hr
    refine LocalO.val hF rfl hN (noDefer rfl) nil fun s ids a w hag hR => ?_
    simp only [execOp, ev1 hx hag (fun q h => h) hR, V.den, C.den]
    have e1 : (underlying src).run c.P w = .ok e w := run_underlying he w
    have e2 : (underlying dst).run c.P w = .ok (.int k') w := run_underlying hk w
    simp [Go.convert, e1, e2, Conv.intToInt]
  | convert hx hrun hN =>
    refine LocalO.val hF rfl hN (noDefer rfl) nil fun s ids a w hag hR => ?_
    simp [execOp, ev1 hx hag (fun q h => h) hR, V.den, C.den, hrun.eq]
  | extract hx hl hN =>
    refine LocalO.val hF rfl hN (noDefer rfl) nil fun s ids a w hag hR => ?_
    simp [execOp, ev1 hx hag (fun q h => h) hR, V.den, C.den, Instr.extract, hl]
  | extractC hx hl hN =>
    refine LocalO.val hF rfl hN (noDefer rfl) (fun n hn => opv_names hx (by simp only [V.names, List.mem_flatMap]; exact ⟨_, List.mem_of_getElem? hl, hn⟩)) fun s ids a w hag hR => ?_
    simp [execOp, ev1 hx hag (fun q h => h) hR, V.den, Instr.extract, hl, denP]
  | extractA hx hl hN =>
    refine LocalO.val hF rfl hN (noDefer rfl) (fun n hn => opv_names hx (by simp only [V.names, List.mem_flatMap]; exact ⟨_, List.mem_of_getElem? hl, hn⟩)) fun s ids a w hag hR => ?_
    simp [execOp, ev1 hx hag (fun q h => h) hR, V.den, Instr.extract, hl, denP]
  | field hx hrun hN =>
    refine LocalO.val hF rfl hN (noDefer rfl) nil fun s ids a w hag hR => ?_
    simp [execOp, ev1 hx hag (fun q h => h) hR, V.den, C.den, hrun.eq]
  | @fieldC d x l z o t rt i pos af g hx hrun hl hN =>
    refine LocalO.val hF rfl hN (noDefer rfl) (fun n hn => opv_names hx (by simp only [V.names, List.mem_flatMap] at hn ⊢; exact ⟨_, List.mem_of_getElem? hl, hn⟩)) fun s ids a w hag hR => ?_
    have := hrun ((List.map (C.den ids) l).toArray) (z.den ids) w (by simp only [List.getElem?_toArray, List.getElem?_map, hl, Option.map_some])
    simp [execOp, ev1 hx hag (fun q h => h) hR, V.den, this]
  | @index1 d x y L k i len e Z t rt pos af g hx hy hu ha hs hi hL hN =>
    refine LocalO.val hF rfl hN (noDefer rfl) nil fun s ids a w hag hR => ?_
    have hsz : (sizeOf e).run c.P w = .ok 1 w := by
      cases hq : c.P.info? e with
      | none => rw [hq] at hs; cases hs
      | some inf =>
        rw [hq] at hs
        simp only [Option.map_some, Option.some.injEq] at hs
        simp [sizeOf, typeInfo, hq, hs]
    have e1 : (underlying t).run c.P w = .ok (.array len e) w := run_underlying hu w
    simp only [execOp, ev1 hx hag (fun q h => by simp [h]) hR, ev1 hy hag (fun q h => by simp [h]) hR, V.den, C.den]
    simp [Instr.index, asIntOf, e1, hi, hsz, part, ha, hL]
  | index hx hy hrun hN =>
    refine LocalO.val hF rfl hN (noDefer rfl) nil fun s ids a w hag hR => ?_
    simp [execOp, ev1 hx hag (fun q h => by simp [h]) hR, ev1 hy hag (fun q h => by simp [h]) hR, V.den, C.den, hrun.eq]
  | fieldAddr hx hrun hN =>
    refine LocalO.val hF rfl hN (noDefer rfl) (fun n hn => opv_names hx hn) fun s ids a w hag hR => ?_
    simp [execOp, ev1 hx hag (fun q h => h) hR, V.den, C.den, hrun.eq]
  | fieldAddrV hx hrun hN =>
    refine LocalO.val hF rfl hN (noDefer rfl) nil fun s ids a w hag hR => ?_
    simp [execOp, ev1 hx hag (fun q h => h) hR, V.den, C.den, hrun.eq]
  | indexAddr hx hy hrun hN =>
    refine LocalO.val hF rfl hN (noDefer rfl) (fun n hn => by obtain ⟨q, hq, z⟩ := opv_names hx hn; exact ⟨q, by simp [hq], z⟩) fun s ids a w hag hR => ?_
    simp [execOp, ev1 hx hag (fun q h => by simp [h]) hR, ev1 hy hag (fun q h => by simp [h]) hR, V.den, C.den, hrun.eq]
  | indexAddrS hx hy hrun hN =>
    refine LocalO.val hF rfl hN (noDefer rfl) (fun n hn => by obtain ⟨q, hq, z⟩ := opv_names hx hn; exact ⟨q, by simp [hq], z⟩) fun s ids a w hag hR => ?_
    simp [execOp, ev1 hx hag (fun q h => by simp [h]) hR, ev1 hy hag (fun q h => by simp [h]) hR, V.den, C.den, hrun.eq]
  | indexAddrV hx hy hrun hN =>
    refine LocalO.val hF rfl hN (noDefer rfl) nil fun s ids a w hag hR => ?_
    simp [execOp, ev1 hx hag (fun q h => by simp [h]) hR, ev1 hy hag (fun q h => by simp [h]) hR, V.den, C.den, hrun.eq]
  | slice hx hlo hhi hmx hrun hN =>
    refine LocalO.val hF rfl hN (noDefer rfl) (fun n hn => by obtain ⟨q, hq, z⟩ := opv_names hx hn; exact ⟨q, by simp [hq], z⟩) fun s ids a w hag hR => ?_
    simp only [execOp, ev1 hx hag (fun q h => by simp [h]) hR, V.den, C.den, hlo.agree (fun q hq => hag q (by simp [hq])) hR, hhi.agree (fun q hq => hag q (by simp [hq])) hR, hmx.agree (fun q hq => hag q (by simp [hq])) hR]
    simp [hrun.eq]
  | sliceS hx hlo hhi hmx hrun hN =>
    refine LocalO.val hF rfl hN (noDefer rfl) (fun n hn => by obtain ⟨q, hq, z⟩ := opv_names hx hn; exact ⟨q, by simp [hq], z⟩) fun s ids a w hag hR => ?_
    simp only [execOp, ev1 hx hag (fun q h => by simp [h]) hR, V.den, C.den, hlo.agree (fun q hq => hag q (by simp [hq])) hR, hhi.agree (fun q hq => hag q (by simp [hq])) hR, hmx.agree (fun q hq => hag q (by simp [hq])) hR]
    simp [hrun.eq]
  | sliceV hx hlo hhi hmx hrun hN =>
    refine LocalO.val hF rfl hN (noDefer rfl) nil fun s ids a w hag hR => ?_
    simp only [execOp, ev1 hx hag (fun q h => by simp [h]) hR, V.den, C.den, hlo.agree (fun q hq => hag q (by simp [hq])) hR, hhi.agree (fun q hq => hag q (by simp [hq])) hR, hmx.agree (fun q hq => hag q (by simp [hq])) hR]
    simp [hrun.eq]
  | @load d x n o z t rt pos af g hx hz ht hN =>
    refine LocalO.val hF rfl hN (noDefer rfl) (fun n hn => ⟨_, List.mem_cons_self, _, hz, hn⟩) fun s ids a w hag hR => ?_
    have hc := hR.W.cell n o z (by rw [hag _ List.mem_cons_self]; exact hz)
    simp only [execOp, ev1 hx hag (fun q h => by simp [h]) hR, V.den, den_p]
    simp [Instr.loadAt, Instr.sureAddr, loadVar, ht, run_load, hc]
  | @loadA d x n o k l L ks e t rt pos af g hx hu hd hi hl hp hN =>
    refine LocalO.val hF rfl hN (noDefer rfl) nil fun s ids a w hag hR => ?_
    obtain ⟨h1, h2⟩ := hl.spec (fun q hq => hag q (by simp [hq])) hR.W
    rw [hp.eq] at h2
    have h3 : L.length = k := by rw [← h1, ← hp.eq ids]; simp
    simp only [execOp, ev1 hx hag (fun q h => by simp [h]) hR, V.den, C.den]
    simp [run_loadAt_mid w (ids n) o t L e h2 hu hd (by rw [hi, h3])]
  | @loadM d x n o k l ks e t rt pos af g hx hu hd hi hl hN =>
    refine LocalO.val hF rfl hN (noDefer rfl) (fun m hm => by obtain ⟨q, hq, z⟩ := hl.names hm; exact ⟨q, by simp [hq], z⟩) fun s ids a w hag hR => ?_
    obtain ⟨h1, h2⟩ := hl.spec (fun q hq => hag q (by simp [hq])) hR.W
    simp only [execOp, ev1 hx hag (fun q h => by simp [h]) hR, V.den, C.den]
    simp [run_loadAt_mid w (ids n) o t _ e h2 hu hd (by rw [hi]; simp [h1])]
  | @loadO d x b o z t rt pos af g hx hz hini ht hN =>
    refine LocalO.val hF rfl hN (noDefer rfl) nil fun s ids a w hag hR => ?_
    have hb : b < c.B := by
      unfold World.cell? at hz
      split at hz
      · rename_i h; exact (Array.getElem?_eq_some_iff.1 h).1
      · cases hz
    have hc : w.cell? ⟨b, o, none⟩ = some z := by
      rw [← hz]; exact World.cell?_of_block (a := ⟨b, o, none⟩) (hR.W.old b hb hini)
    simp only [execOp, ev1 hx hag (fun q h => by simp [h]) hR, V.den, C.den]
    simp [Instr.loadAt, Instr.sureAddr, loadVar, ht, run_load, hc]
  | @loadOA d x b o L e t rt pos af g hx hu hd hz hi hini hb hN =>
    refine LocalO.val hF rfl hN (noDefer rfl) nil fun s ids a w hag hR => ?_
    have hc : w.rangeAt b o L := fun j v hv => by
      rw [← hz j v hv]; exact World.cell?_of_block (a := ⟨b, o + j, none⟩) (hR.W.old b hb hini)
    simp only [execOp, ev1 hx hag (fun q h => by simp [h]) hR, V.den, C.den]
    simp [run_loadAt_mid w b o t _ e hc hu hd hi]
  | nilCheck hx hN =>
    refine LocalO.val hF rfl hN (noDefer rfl) (fun n hn => opv_names hx hn) fun s ids a w hag hR => ?_
    simp [execOp, ev1 hx hag (fun q h => h) hR, V.den, C.den]
  | nilCheckV hx hN =>
    refine LocalO.val hF rfl hN (noDefer rfl) nil fun s ids a w hag hR => ?_
    simp [execOp, ev1 hx hag (fun q h => h) hR, V.den, C.den]
  | makeFunc hx hN =>
    refine LocalO.val hF rfl hN (noDefer rfl) (fun n hn => hx.names hn) fun s ids a w hag hR => ?_
    have e := hx.agree hag hR
    simp [execOp, Instr.makeFunc, V.den, C.den, e]
  | min2 hx hy hrun hN =>
    rename_i a b _ _ _ _ _
    refine LocalO.val hF rfl hN (noDefer rfl) nil fun s ids act w hag hR => ?_
    have e : (if b < a then b else a) = min a b := by omega
    rw [e] at hrun
    simp [execOp, resolve, invoke, ev1 hx hag (fun q h => by simp [h]) hR, ev1 hy hag (fun q h => by simp [h]) hR, V.den, C.den, hrun]
  | max2 hx hy hrun hN =>
    rename_i a b _ _ _ _ _
    refine LocalO.val hF rfl hN (noDefer rfl) nil fun s ids act w hag hR => ?_
    have e : (if b > a then b else a) = max a b := by omega
    rw [e] at hrun
    simp [execOp, resolve, invoke, ev1 hx hag (fun q h => by simp [h]) hR, ev1 hy hag (fun q h => by simp [h]) hR, V.den, C.den, hrun]
  | min4 hx hy hz hu hrun hN =>
    rename_i p q u v _ _ _ _ _
    refine LocalO.val hF rfl hN (noDefer rfl) nil fun s ids act w hag hR => ?_
    have e1 : (if q < p then q else p) = min p q := by omega
    have e2 : (if u < min p q then u else min p q) = min (min p q) u := by omega
    have e3 : (if v < min (min p q) u then v else min (min p q) u) = min (min (min p q) u) v := by omega
    simp only [e1, e2, e3] at hrun
    simp [execOp, resolve, invoke, ev1 hx hag (fun q h => by simp [h]) hR, ev1 hy hag (fun q h => by simp [h]) hR, ev1 hz hag (fun q h => by simp [h]) hR, ev1 hu hag (fun q h => by simp [h]) hR, V.den, C.den, hrun]
  | max4 hx hy hz hu hrun hN =>
    rename_i p q u v _ _ _ _ _
    refine LocalO.val hF rfl hN (noDefer rfl) nil fun s ids act w hag hR => ?_
    have e1 : (if q > p then q else p) = max p q := by omega
    have e2 : (if u > max p q then u else max p q) = max (max p q) u := by omega
    have e3 : (if v > max (max p q) u then v else max (max p q) u) = max (max (max p q) u) v := by omega
    simp only [e1, e2, e3] at hrun
    simp [execOp, resolve, invoke, ev1 hx hag (fun q h => by simp [h]) hR, ev1 hy hag (fun q h => by simp [h]) hR, ev1 hz hag (fun q h => by simp [h]) hR, ev1 hu hag (fun q h => by simp [h]) hR, V.den, C.den, hrun]
  | pickT hx hb hy hN =>
    refine LocalO.val hF rfl hN (noDefer rfl) (fun n hn => by obtain ⟨q, hq, z⟩ := opv_names hy hn; exact ⟨q, by simp [hq], z⟩) fun s ids act w hag hR => ?_
    simp [execOp, ev1 hx hag (fun q h => by simp [h]) hR, ev1 hy hag (fun q h => by simp [h]) hR, V.den, C.den, asBool, hb.eq]
  | pickF hx hb hy hN =>
    refine LocalO.val hF rfl hN (noDefer rfl) (fun n hn => by obtain ⟨q, hq, z⟩ := opv_names hy hn; exact ⟨q, by simp [hq], z⟩) fun s ids act w hag hR => ?_
    simp [execOp, ev1 hx hag (fun q h => by simp [h]) hR, ev1 hy hag (fun q h => by simp [h]) hR, V.den, C.den, asBool, hb.eq]
  | builtin hx hl hrun hN =>
    refine LocalO.val hF rfl hN (noDefer rfl) nil fun s ids a w hag hR => ?_
    have e := hx.agree hag hR
    rw [hl.eq] at e
    simp [execOp, resolve, invoke, e, hrun, V.den, C.den]
  | lenS hx hrun hN =>
    refine LocalO.val hF rfl hN (noDefer rfl) nil fun s ids a w hag hR => ?_
    simp [execOp, resolve, invoke, ev1 hx hag (fun q h => h) hR, V.den, C.den, hrun]
  | @build1 d ps xs l L ks t rt pos af g hxs hx hl hrun hN =>
    obtain ⟨rfl⟩ := hxs
    refine LocalO.val hF rfl hN (noDefer rfl) nil fun s ids a w hag hR => ?_
    have e := hx.agree hag hR
    rw [hl.eq] at e
    have e2 : ps.map (fun q => (q.1, a.eval q.2)) = (ps.map (·.1)).zip L := by
      rw [← e, List.map_map]
      clear e hrun hl hx hag
      induction ps with
      | nil => rfl
      | cons p r ih => simp [ih]
    simp only [execOp, List.map_toArray, e2, Sem.run_bind, run_build w t ((ps.map (·.1)).zip L).toArray L.toArray (by simpa using hrun), V.den, C.den]
    simp
  | @build d ps xs l L ks Z t rt pos af g hxs hx hl hrun hN =>
    obtain ⟨rfl⟩ := hxs
    refine LocalO.val hF rfl hN (noDefer rfl) nil fun s ids a w hag hR => ?_
    have e := hx.agree hag hR
    rw [hl.eq] at e
    have e2 : ps.map (fun q => (q.1, a.eval q.2)) = (ps.map (·.1)).zip L := by
      rw [← e, List.map_map]
      clear e hrun hl hx hag
      induction ps with
      | nil => rfl
      | cons p r ih => simp [ih]
    simp only [execOp, List.map_toArray, e2, Sem.run_bind, hrun.eq, V.den, C.den]
    simp
end
end Go.Proofs.Ytbjogekhedglgaa.SX
