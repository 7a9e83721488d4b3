/- Walking by states: the rules, operation by operation, and the code around them. No program in sight. -/
import Derived.Test.YtbjogekhedglgaaSx2
namespace Go.Proofs.Ytbjogekhedglgaa.SX
open Go.RowKit

/-- A fence that lets every call by. -/
structure WideLike (F : Fence) : Prop where
  fn : ∀ f, F.fn f
  depth : F.depth = none
  calls : ∀ {n : Nat} {P : Program} {f : FuncId} {args : Array Value} {w : World} {R : Ending → World → Prop}, Calls P f args w R → CallsIn F n P f args w R
theorem wide_like : WideLike Fence.wide := ⟨fun _ => trivial, rfl, fun h => callsIn_wide.2 h⟩
theorem round_like (l : Nat) : WideLike (Fence.wide.inRound l) := ⟨fun _ => trivial, rfl, fun h => (callsIn_wide.2 h).inRound l⟩

def opv (s : Sf) : Operand → Option V
  | .tmp t => match s (.t t) with
    | some (.v v) => some v
    | _ => none
  | .const x => some (.c (.v x))
  | .global g => some (.c (.v (.pointer (some ⟨g, 0, none⟩))))
  | .func f => some (.c (.v (.func (.func f) #[] #[])))
def opk : Operand → List Key
  | .tmp t => [.t t]
  | _ => []
section
variable {c : Ctx} {F : Fence} {nn : Nat} {σ s : Sf} {ids : Nat → Nat} {a : Act} {w : World}
theorem opv_agree {x : Operand} (h : ∀ q ∈ opk x, s q = σ q) : opv s x = opv σ x := by
  cases x with
  | tmp t => simp only [opv]; rw [h (.t t) (by simp [opk])]
  | _ => rfl
theorem eval_opv {x : Operand} {v : V} (hx : opv s x = some v) (hR : Real c s ids a w) : a.eval x = v.den ids := by
  cases x with
  | tmp t =>
    simp only [opv] at hx
    split at hx
    · rename_i u hu
      cases hx
      have := hR.tmp t v hu
      simp [Act.eval, Array.getD_eq_getD_getElem?, this]
    · cases hx
  | const x => cases hx; rfl
  | global g => cases hx; rfl
  | func f => cases hx; rfl
theorem opv_names {x : Operand} {v : V} (hx : opv s x = some v) {n : Nat} (hn : n ∈ v.names) : ∃ q ∈ opk x, ∃ u, s q = some u ∧ n ∈ u.names := by
  cases x with
  | tmp t =>
    simp only [opv] at hx
    split at hx
    · rename_i u hu
      cases hx
      exact ⟨.t t, by simp [opk], _, hu, hn⟩
    · cases hx
  | const x => cases hx; cases hn
  | global g => cases hx; cases hn
  | func f => cases hx; cases hn

/-- One operation, in every state that holds what it reads. -/
def LocalO (c : Ctx) (F : Fence) (nn : Nat) (o : Oper) (σ : Sf) (t : Tr) : Prop :=
  ∀ (Q : Exit → Act → World → Prop) (s : Sf) (ids : Nat → Nat) (a : Act) (w : World) (K : Act → World → Prop), (∀ q ∈ t.rd, s q = σ q) → Real c s ids a w →
    (∀ ids' a' w', Real c (upd s t.ws) ids' a' w' → K a' w') → o.wpIn F nn c.P a w K Q
theorem LocalO.plain {o : Oper} {t : Tr} {ops : Array Oper} {i : Nat} (h : LocalO c F nn o σ t) (hg : o.guard = none) (ho : ops[i]? = some o) : LocalI c F nn ops i σ t := by
  intro Q s ids a w K hag hR hK
  unfold wpOpIn
  simp only [ho, Region.wanted, hg, if_true]
  exact h Q s ids a w K hag hR hK
theorem yielded_of {ops : Array Oper} {j d : Nat} {b : Bool} (hd : (ops[j]?).bind (·.dst) = some d) (hv : s (.t d) = some (.v (.c (.v (.bool b))))) (hR : Real c s ids a w) : yielded ops a.tmps j = some b := by
  unfold yielded
  simp only [hd, Option.bind_some, hR.tmp d _ hv]
  rfl
theorem LocalO.guarded {o : Oper} {t : Tr} {ops : Array Oper} {i j d : Nat} {want : Bool} (h : LocalO c F nn o σ t) (hg : o.guard = some (j, want)) (hd : (ops[j]?).bind (·.dst) = some d) {b : Bool} (hv : σ (.t d) = some (.v (.c (.v (.bool b))))) (hb : b = want) (ho : ops[i]? = some o) :
    LocalI c F nn ops i σ ⟨.t d :: t.rd, t.ws⟩ := by
  intro Q s ids a w K hag hR hK
  unfold wpOpIn
  have hy := yielded_of hd (b := want) (by rw [hag (.t d) (by simp), hv, hb]) hR
  simp only [ho, Region.wanted, hg, hy]
  rw [if_pos (by simp)]
  exact h Q s ids a w K (fun q hq => hag q (by simp [hq])) hR hK
/-- The guard of an operation that is carried out. -/
inductive GOk (ops : Array Oper) (s : Sf) : Option (Nat × Bool) → List Key → Prop
  | none : GOk ops s none []
  | some {j d : Nat} {want b : Bool} : (ops[j]?).bind (·.dst) = some d → s (.t d) = some (.v (.c (.v (.bool b)))) → b = want → GOk ops s (some (j, want)) [.t d]
theorem LocalO.under {o : Oper} {t : Tr} {ops : Array Oper} {i : Nat} {g : Option (Nat × Bool)} {ks : List Key} (h : LocalO c F nn o σ t) (hg : GOk ops σ g ks) (ho' : o.guard = g) (ho : ops[i]? = some o) : LocalI c F nn ops i σ ⟨ks ++ t.rd, t.ws⟩ := by
  cases hg with
  | none => exact h.plain ho' ho
  | some hd hv hb => exact h.guarded ho' hd hv hb ho
theorem LocalO.skipped (hF : WideLike F) {o : Oper} {ops : Array Oper} {i j d e : Nat} {want b : Bool} (hg : o.guard = some (j, want)) (hd : (ops[j]?).bind (·.dst) = some d) (hv : σ (.t d) = some (.v (.c (.v (.bool b))))) (hb : b = !want) (he : o.dst = some e) (hN : Nat.blt e c.N = true) (ho : ops[i]? = some o) :
    LocalI c F nn ops i σ ⟨[.t d], [(.t e, .v (.c (.v undef)))]⟩ := by
  intro Q s ids a w K hag hR hK
  unfold wpOpIn
  have hy := yielded_of hd (b := b) (by rw [hag (.t d) (by simp)]; exact hv) hR
  simp only [ho, Region.wanted, hg, hy]
  rw [if_neg (by rw [hb]; simp), he]
  exact ⟨fun f _ => hF.fn f, hK ids _ _ (hR.put (v := .c (.v undef)) (by simpa [Nat.blt_eq] using hN) (by simp [V.names, C.names]))⟩
theorem LocalO.skipped0 (hF : WideLike F) {o : Oper} {ops : Array Oper} {i j d : Nat} {want b : Bool} (hg : o.guard = some (j, want)) (hd : (ops[j]?).bind (·.dst) = some d) (hv : σ (.t d) = some (.v (.c (.v (.bool b))))) (hb : b = !want) (he : o.dst = none) (ho : ops[i]? = some o) :
    LocalI c F nn ops i σ ⟨[.t d], []⟩ := by
  intro Q s ids a w K hag hR hK
  unfold wpOpIn
  have hy := yielded_of hd (b := b) (by rw [hag (.t d) (by simp)]; exact hv) hR
  simp only [ho, Region.wanted, hg, hy]
  rw [if_neg (by rw [hb]; simp), he]
  exact ⟨fun f _ => hF.fn f, hK ids _ _ hR.same⟩

theorem yielded_undef {ops : Array Oper} {j d : Nat} (hd : (ops[j]?).bind (·.dst) = some d) (hv : s (.t d) = some (.v (.c (.v undef)))) (hR : Real c s ids a w) : yielded ops a.tmps j = none := by
  unfold yielded
  simp only [hd, Option.bind_some, hR.tmp d _ hv]
  rfl
theorem LocalO.skippedU (hF : WideLike F) {o : Oper} {ops : Array Oper} {i j d e : Nat} {want : Bool} (hg : o.guard = some (j, want)) (hd : (ops[j]?).bind (·.dst) = some d) (hv : σ (.t d) = some (.v (.c (.v undef)))) (he : o.dst = some e) (hN : Nat.blt e c.N = true) (ho : ops[i]? = some o) :
    LocalI c F nn ops i σ ⟨[.t d], [(.t e, .v (.c (.v undef)))]⟩ := by
  intro Q s ids a w K hag hR hK
  unfold wpOpIn
  have hy := yielded_undef hd (by rw [hag (.t d) (by simp)]; exact hv) hR
  simp only [ho, Region.wanted, hg, hy]
  rw [if_neg (by simp), he]
  exact ⟨fun f _ => hF.fn f, hK ids _ _ (hR.put (v := .c (.v undef)) (by simpa [Nat.blt_eq] using hN) (by simp [V.names, C.names]))⟩
theorem LocalO.skippedU0 (hF : WideLike F) {o : Oper} {ops : Array Oper} {i j d : Nat} {want : Bool} (hg : o.guard = some (j, want)) (hd : (ops[j]?).bind (·.dst) = some d) (hv : σ (.t d) = some (.v (.c (.v undef)))) (he : o.dst = none) (ho : ops[i]? = some o) :
    LocalI c F nn ops i σ ⟨[.t d], []⟩ := by
  intro Q s ids a w K hag hR hK
  unfold wpOpIn
  have hy := yielded_undef hd (by rw [hag (.t d) (by simp)]; exact hv) hR
  simp only [ho, Region.wanted, hg, hy]
  rw [if_neg (by simp), he]
  exact ⟨fun f _ => hF.fn f, hK ids _ _ hR.same⟩
theorem wpIn_value (hF : WideLike F) {o : Oper} {Q : Exit → Act → World → Prop} {K : Act → World → Prop} {v : Value} {w' : World} (hdef : ∀ q, o.op ≠ .defer q) (h : (execOp a.eval o).run c.P w = .ok (.value v) w') (hK : K (a.put o.dst v) w') : o.wpIn F nn c.P a w K Q := by
  refine ⟨fun f _ => hF.fn f, ?_⟩
  rw [Oper.semAt_eq _ _ _ hdef, h]
  exact hK
theorem wpIn_skip' (hF : WideLike F) {o : Oper} {Q : Exit → Act → World → Prop} {K : Act → World → Prop} {w' : World} (hdef : ∀ q, o.op ≠ .defer q) (h : (execOp a.eval o).run c.P w = .ok .skip w') (hK : K (a.put o.dst undef) w') : o.wpIn F nn c.P a w K Q := by
  refine ⟨fun f _ => hF.fn f, ?_⟩
  rw [Oper.semAt_eq _ _ _ hdef, h]
  exact hK
theorem LocalO.val (hF : WideLike F) {o : Oper} {d : Tmp} {v : V} {rd : List Key} (hd : o.dst = some d) (hN : Nat.blt d c.N = true) (hdef : ∀ q, o.op ≠ .defer q) (hnm : ∀ n ∈ v.names, ∃ q ∈ rd, ∃ x, σ q = some x ∧ n ∈ x.names)
    (h : ∀ s ids a w, (∀ q ∈ rd, s q = σ q) → Real c s ids a w → (execOp a.eval o).run c.P w = .ok (.value (v.den ids)) w) : LocalO c F nn o σ ⟨rd, [(.t d, .v v)]⟩ := by
  intro Q s ids a w K hag hR hK
  refine wpIn_value hF hdef (h s ids a w hag hR) ?_
  rw [hd]
  refine hK ids _ _ (hR.put (by simpa [Nat.blt_eq] using hN) fun n hn => ?_)
  obtain ⟨q, hq, x, hx, hnx⟩ := hnm n hn
  exact hR.W.closed q x (by rw [hag q hq]; exact hx) n hnx

/-! ### What a rule leaves to be reckoned -/
structure Wr (k : IntKind) (n r : Int) : Prop where
  eq : k.wrap n = r
theorem Wr.raw {k : IntKind} {n : Int} : Wr k n (k.wrap n) := ⟨rfl⟩
theorem Wr.lit {k : IntKind} {n m r : Int} (h : n = m) (hw : Wr k m r) : Wr k n r := h ▸ hw
theorem Wr.i64 {n : Int} (h : -9223372036854775808 ≤ n ∧ n ≤ 9223372036854775807) : Wr .i64 n n := by
  constructor
  simp only [IntKind.wrap, IntKind.bits, IntKind.signed, Bool.true_and]
  split
  · rename_i h'; simp at h'; omega
  · rename_i h'; simp at h'; omega
theorem Wr.u64 {n : Int} (h : 0 ≤ n ∧ n ≤ 18446744073709551615) : Wr .u64 n n := by
  constructor
  simp only [IntKind.wrap, IntKind.bits, IntKind.signed, Bool.false_and]; simp; omega
theorem Wr.i32 {n : Int} (h : -2147483648 ≤ n ∧ n ≤ 2147483647) : Wr .i32 n n := by
  constructor
  simp only [IntKind.wrap, IntKind.bits, IntKind.signed, Bool.true_and]
  split
  · rename_i h'; simp at h'; omega
  · rename_i h'; simp at h'; omega
theorem Wr.u32 {n : Int} (h : 0 ≤ n ∧ n ≤ 4294967295) : Wr .u32 n n := by
  constructor
  simp only [IntKind.wrap, IntKind.bits, IntKind.signed, Bool.false_and]; simp; omega
theorem Wr.u8 {n : Int} (h : 0 ≤ n ∧ n ≤ 255) : Wr .u8 n n := by
  constructor
  simp only [IntKind.wrap, IntKind.bits, IntKind.signed, Bool.false_and]; simp; omega
theorem Wr.u64m {n : Int} : Wr .u64 n (n % 18446744073709551616) := ⟨by simp [IntKind.wrap, IntKind.bits, IntKind.signed]⟩
theorem Wr.u32m {n : Int} : Wr .u32 n (n % 4294967296) := ⟨by simp [IntKind.wrap, IntKind.bits, IntKind.signed]⟩
theorem Wr.u16m {n : Int} : Wr .u16 n (n % 65536) := ⟨by simp [IntKind.wrap, IntKind.bits, IntKind.signed]⟩
theorem Wr.u8m {n : Int} : Wr .u8 n (n % 256) := ⟨by simp [IntKind.wrap, IntKind.bits, IntKind.signed]⟩
/-- A reckoning that asks nothing of the world. -/
structure RunS (P : Program) (s : Sem Value) (Z : Value) : Prop where
  eq : ∀ w, s.run P w = .ok Z w
/-- A pointer moved within its block. -/
structure RunP (P : Program) (f : Nat → Sem Value) (o : Nat) : Prop where
  eq : ∀ b w, (f b).run P w = .ok (.pointer (some ⟨b, o, none⟩)) w
structure RunL (P : Program) (f : Nat → Sem Value) (o len cap : Nat) : Prop where
  eq : ∀ b w, (f b).run P w = .ok (.slice (some ⟨b, o, none⟩) len cap) w
/-- A truth value, as it is or settled. -/
structure Tv (b r : Bool) : Prop where
  eq : b = r
theorem Tv.raw {b : Bool} : Tv b b := ⟨rfl⟩
theorem Tv.yes {p : Prop} [Decidable p] (h : p) : Tv (decide p) true := ⟨decide_eq_true h⟩
theorem Tv.no {p : Prop} [Decidable p] (h : ¬ p) : Tv (decide p) false := ⟨decide_eq_false h⟩
theorem Tv.eqy {a b : Int} (h : a = b) : Tv (a == b) true := ⟨by simpa using h⟩
theorem Tv.eqn {a b : Int} (h : ¬ a = b) : Tv (a == b) false := ⟨by simpa using h⟩
theorem Tv.ney {a b : Int} (h : ¬ a = b) : Tv (a != b) true := ⟨by simpa using h⟩
theorem Tv.nen {a b : Int} (h : a = b) : Tv (a != b) false := ⟨by simpa using h⟩
theorem Tv.b1 : Tv (true == true) true := ⟨rfl⟩
theorem Tv.b2 : Tv (true == false) false := ⟨rfl⟩
theorem Tv.b3 : Tv (false == true) false := ⟨rfl⟩
theorem Tv.b4 : Tv (false == false) true := ⟨rfl⟩
theorem Tv.c1 : Tv (true != true) false := ⟨rfl⟩
theorem Tv.c2 : Tv (true != false) true := ⟨rfl⟩
theorem Tv.c3 : Tv (false != true) true := ⟨rfl⟩
theorem Tv.c4 : Tv (false != false) false := ⟨rfl⟩
theorem Tv.d1 {b : Bool} : Tv (b == true) b := ⟨by cases b <;> rfl⟩
theorem Tv.d2 {b : Bool} : Tv (true == b) b := ⟨by cases b <;> rfl⟩
theorem Tv.d3 {b : Bool} : Tv (b != false) b := ⟨by cases b <;> rfl⟩
theorem Tv.d4 {b : Bool} : Tv (false != b) b := ⟨by cases b <;> rfl⟩
theorem Tv.e1 {b : Bool} : Tv (b == false) (!b) := ⟨by cases b <;> rfl⟩
theorem Tv.e2 {b : Bool} : Tv (false == b) (!b) := ⟨by cases b <;> rfl⟩
theorem Tv.e3 {b : Bool} : Tv (b != true) (!b) := ⟨by cases b <;> rfl⟩
theorem Tv.e4 {b : Bool} : Tv (true != b) (!b) := ⟨by cases b <;> rfl⟩
theorem Tv.nt : Tv (!true) false := ⟨rfl⟩
theorem Tv.nf : Tv (!false) true := ⟨rfl⟩
/-- A truth value that is known. -/
structure Tk (b r : Bool) : Prop where
  eq : b = r
/-- A number that is not to be left as a sum. -/
structure Is {α : Type} (x y : α) : Prop where
  eq : x = y
/-- A quotient and a rest. -/
structure Qu (k : IntKind) (a b r : Int) : Prop where
  eq : k.wrap (a.tdiv b) = r
theorem Qu.raw {k : IntKind} {a b : Int} : Qu k a b (k.wrap (a.tdiv b)) := ⟨rfl⟩
theorem Qu.i64 {a b : Int} (h : 0 ≤ a ∧ a ≤ 9223372036854775807 ∧ 0 < b) : Qu .i64 a b (a / b) := by
  have e : a.tdiv b = a / b := Int.tdiv_eq_ediv_of_nonneg h.1
  have h1 : 0 ≤ a / b := Int.ediv_nonneg h.1 (by omega)
  have h2 : a / b ≤ a := Int.ediv_le_self b h.1
  constructor; rw [e]; exact (Wr.i64 ⟨by omega, by omega⟩).eq
theorem Qu.u64 {a b : Int} (h : 0 ≤ a ∧ a ≤ 18446744073709551615 ∧ 0 < b) : Qu .u64 a b (a / b) := by
  have e : a.tdiv b = a / b := Int.tdiv_eq_ediv_of_nonneg h.1
  have h1 : 0 ≤ a / b := Int.ediv_nonneg h.1 (by omega)
  have h2 : a / b ≤ a := Int.ediv_le_self b h.1
  constructor; rw [e]; exact (Wr.u64 ⟨by omega, by omega⟩).eq
structure Rm (a b r : Int) : Prop where
  eq : a.tmod b = r
theorem Rm.raw {a b : Int} : Rm a b (a.tmod b) := ⟨rfl⟩
theorem Rm.pos {a b : Int} (h : 0 ≤ a) : Rm a b (a % b) := ⟨Int.tmod_eq_emod_of_nonneg h⟩
/-- 2 to the number of places by which is shifted. -/
structure Sh (k : IntKind) (b : Int) (m : Int) : Prop where
  eq : (2 ^ (min b.toNat k.bits) : Int) = m

/-- The cells of a value. -/
inductive CellsOf : V → List C → Prop
  | agg {l : List Value} {r : List C} : Is (l.map C.v) r → CellsOf (.c (.v (.agg l.toArray))) r
  | one {x : Value} : x.cells = #[x] → CellsOf (.c (.v x)) [.v x]
  | p {n o : Nat} : CellsOf (.c (.p n o)) [.p n o]
  | s {n o l k : Nat} : CellsOf (.c (.s n o l k)) [.s n o l k]
  | f {g : FuncId} {l : List (Nat × Nat)} : CellsOf (.c (.f g l)) [.f g l]
  | a {l : List C} : CellsOf (.a l) l
theorem CellsOf.den {v : V} {l : List C} (h : CellsOf v l) (ids : Nat → Nat) : (v.den ids).cells = (l.map (C.den ids)).toArray := by
  cases h with
  | agg h => rw [← h.eq]; simp [V.den, C.den, Value.cells, List.map_map, Function.comp_def]
  | one h => simpa [V.den, C.den] using h
  | _ => rfl
theorem CellsOf.names {v : V} {l : List C} (h : CellsOf v l) {n : Nat} (hn : n ∈ l.flatMap C.names) : n ∈ v.names := by
  cases h with
  | agg h => rw [← h.eq] at hn; simp [List.flatMap_map, C.names] at hn
  | one h => simp [C.names] at hn
  | p => simpa [V.names] using hn
  | s => simpa [V.names] using hn
  | f => simpa [V.names] using hn
  | a => exact hn
/-- Is it held by one cell? -/
def C.one : C → Bool
  | .v x => x.oneCell'
  | _ => true
theorem one_den {l : List C} (h : l.all C.one = true) (ids : Nat → Nat) : (l.map (C.den ids)).toArray.all (·.oneCell') = true := by
  refine Array.all_eq_true_iff_forall_mem.2 fun x hx => ?_
  simp only [List.mem_toArray, List.mem_map] at hx
  obtain ⟨y, hy, rfl⟩ := hx
  have := List.all_eq_true.1 h y hy
  cases y <;> first | rfl | exact this
/-- The cells of a list are plain. -/
inductive Plain : List C → List Value → Prop
  | nil : Plain [] []
  | cons {x : Value} {l : List C} {r : List Value} : Plain l r → Plain (.v x :: l) (x :: r)
theorem Plain.eq {l : List C} {r : List Value} (h : Plain l r) (ids : Nat → Nat) : l.map (C.den ids) = r := by
  induction h with
  | nil => rfl
  | cons _ ih => simp [C.den, ih]
/-- n cells from an offset on. -/
inductive CellsAt (s : Sf) (n : Nat) : Nat → Nat → List C → List Key → Prop
  | nil {o : Nat} : CellsAt s n o 0 [] []
  | cons {o o' k : Nat} {x : C} {l : List C} {ks : List Key} : s (.c n o) = some (.c x) → Is (o + 1) o' → CellsAt s n o' k l ks → CellsAt s n o (k + 1) (x :: l) (.c n o :: ks)
theorem CellsAt.spec {n o k : Nat} {l : List C} {ks : List Key} (h : CellsAt σ n o k l ks) (hag : ∀ q ∈ ks, s q = σ q) (hR : RealW c s ids w) : l.length = k ∧ w.rangeAt (ids n) o (l.map (C.den ids)) := by
  induction h with
  | nil => exact ⟨rfl, fun j v hv => by simp at hv⟩
  | @cons o o' k x l ks hx ho hl ih =>
    obtain ⟨h1, h2⟩ := ih (fun q hq => hag q (List.mem_cons_of_mem _ hq))
    refine ⟨by simp [h1], fun j v hv => ?_⟩
    cases j with
    | zero =>
      simp at hv; subst hv
      exact hR.cell n o x (by rw [hag _ List.mem_cons_self]; exact hx)
    | succ j =>
      have := h2 j v (by simpa using hv)
      rw [← ho.eq] at this
      rw [show o + (j + 1) = o + 1 + j from by omega]; exact this
theorem CellsAt.names {n o k : Nat} {l : List C} {ks : List Key} (h : CellsAt σ n o k l ks) {m : Nat} (hm : m ∈ l.flatMap C.names) : ∃ q ∈ ks, ∃ x, σ q = some x ∧ m ∈ x.names := by
  induction h with
  | nil => cases hm
  | @cons o o' k x l ks hx ho hl ih =>
    simp only [List.flatMap_cons, List.mem_append] at hm
    rcases hm with hm | hm
    · exact ⟨_, List.mem_cons_self, _, hx, hm⟩
    · obtain ⟨q, hq, y, hy⟩ := ih hm; exact ⟨q, List.mem_cons_of_mem _ hq, y, hy⟩
/-- What a function keeps of what is around it. -/
inductive Caps (s : Sf) : List Operand → List (Nat × Nat) → List Key → Prop
  | nil : Caps s [] [] []
  | cons {x : Operand} {n o : Nat} {xs : List Operand} {l : List (Nat × Nat)} {ks : List Key} : opv s x = some (.c (.p n o)) → Caps s xs l ks → Caps s (x :: xs) ((n, o) :: l) (opk x ++ ks)
/-- Values of operands. -/
inductive Vals (s : Sf) : List Operand → List V → List Key → Prop
  | nil : Vals s [] [] []
  | cons {x : Operand} {v : V} {xs : List Operand} {l : List V} {ks : List Key} : opv s x = some v → Vals s xs l ks → Vals s (x :: xs) (v :: l) (opk x ++ ks)
/-- Plain values. -/
inductive LeafL : List V → List Value → Prop
  | nil : LeafL [] []
  | cons {x : Value} {l : List V} {r : List Value} : LeafL l r → LeafL (.c (.v x) :: l) (x :: r)
theorem LeafL.eq {l : List V} {r : List Value} (h : LeafL l r) (ids : Nat → Nat) : l.map (V.den ids) = r := by
  induction h with
  | nil => rfl
  | cons _ ih => simp [V.den, C.den, ih]
inductive OptV (s : Sf) : Option Operand → Option Value → List Key → Prop
  | none : OptV s none none []
  | some {x : Operand} {X : Value} : opv s x = some (.c (.v X)) → OptV s (some x) (some X) (opk x)
theorem Vals.agree {xs : List Operand} {l : List V} {ks : List Key} (h : Vals σ xs l ks) (hag : ∀ q ∈ ks, s q = σ q) (hR : Real c s ids a w) : xs.map a.eval = l.map (V.den ids) := by
  induction h with
  | nil => rfl
  | @cons x v xs l ks hx hl ih =>
    have e := eval_opv (show opv s x = some v from by rw [opv_agree (fun q hq => hag q (by simp [hq]))]; exact hx) hR
    simp [e, ih (fun q hq => hag q (by simp [hq]))]
theorem Caps.agree {xs : List Operand} {l : List (Nat × Nat)} {ks : List Key} (h : Caps σ xs l ks) (hag : ∀ q ∈ ks, s q = σ q) (hR : Real c s ids a w) : xs.map a.eval = l.map (fun q => Value.pointer (some ⟨ids q.1, q.2, none⟩)) := by
  induction h with
  | nil => rfl
  | @cons x n o xs l ks hx hl ih =>
    have e := eval_opv (show opv s x = some (.c (.p n o)) from by rw [opv_agree (fun q hq => hag q (by simp [hq]))]; exact hx) hR
    simp [e, ih (fun q hq => hag q (by simp [hq])), V.den, C.den]
theorem Caps.names {xs : List Operand} {l : List (Nat × Nat)} {ks : List Key} (h : Caps σ xs l ks) {m : Nat} (hm : m ∈ l.map (·.1)) : ∃ q ∈ ks, ∃ x, σ q = some x ∧ m ∈ x.names := by
  induction h with
  | nil => cases hm
  | @cons x n o xs l ks hx hl ih =>
    simp only [List.map_cons, List.mem_cons] at hm
    rcases hm with rfl | hm
    · obtain ⟨q, hq, y, hy⟩ := opv_names hx (n := m) (by simp [V.names, C.names]); exact ⟨q, by simp [hq], y, hy⟩
    · obtain ⟨q, hq, y, hy⟩ := ih hm; exact ⟨q, by simp [hq], y, hy⟩
theorem OptV.agree {x : Option Operand} {X : Option Value} {ks : List Key} (h : OptV σ x X ks) (hag : ∀ q ∈ ks, s q = σ q) (hR : Real c s ids a w) : x.map a.eval = X := by
  cases h with
  | none => rfl
  | some hx => simpa [V.den, C.den] using eval_opv (by rw [opv_agree hag]; exact hx) hR
theorem Vals.names {xs : List Operand} {l : List V} {ks : List Key} (h : Vals σ xs l ks) {m : Nat} (hm : m ∈ l.flatMap V.names) : ∃ q ∈ ks, ∃ x, σ q = some x ∧ m ∈ x.names := by
  induction h with
  | nil => cases hm
  | @cons x v xs l ks hx hl ih =>
    simp only [List.flatMap_cons, List.mem_append] at hm
    rcases hm with hm | hm
    · obtain ⟨q, hq, y, hy⟩ := opv_names hx hm; exact ⟨q, by simp [hq], y, hy⟩
    · obtain ⟨q, hq, y, hy⟩ := ih hm; exact ⟨q, by simp [hq], y, hy⟩
theorem ev1 {x : Operand} {v : V} (hx : opv σ x = some v) {rd : List Key} (hag : ∀ q ∈ rd, s q = σ q) (hsub : ∀ q ∈ opk x, q ∈ rd) (hR : Real c s ids a w) : a.eval x = v.den ids :=
  eval_opv (by rw [opv_agree fun q hq => hag q (hsub q hq)]; exact hx) hR
theorem noDefer {o : Op} (h : (match o with | .defer _ => true | _ => false) = false) : ∀ q, o ≠ .defer q := by
  rintro q rfl; cases h
end
end Go.Proofs.Ytbjogekhedglgaa.SX
