/- States by names: operations that yield a value of what slots hold. No program in sight. -/
import Derived.Test.YtbjogekhedglgaaEv3
import Derived.Test.YtbjogekhedglgaaSx0
namespace Go.Proofs.Ytbjogekhedglgaa.EV
open Go.RowKit
open SX (flatK plainT fitB eqs conjP aggT run_eql_flat run_neq_flat)

def tS (P : Program) (t : TypeId) : Option Nat := (P.info? t).map (·.size)
/-- A struct or an array? -/
def tRow (P : Program) (t : TypeId) : Option Bool := match P.underlying t with
  | some (.struct _) | some (.array _ _) => some true
  | some _ => some false
  | none => none
def partC (P : Program) (t : TypeId) (l : List C) (off : Nat) : Option V := match tRow P t with
  | some true => match tS P t with
    | some k => if off + k ≤ l.length then some (.a ((l.drop off).take k)) else none
    | none => none
  | some false => match l[off]? with
    | some x => some (.c x)
    | none => none
  | none => none
section
variable {P : Program} {s : Sf} {e : Env} {w : World}
theorem run_sz {t : TypeId} {k : Nat} (h : tS P t = some k) : (sizeOf t).run P w = .ok k w := by
  unfold tS at h
  cases hq : P.info? t with
  | none => rw [hq] at h; cases h
  | some inf =>
    rw [hq] at h
    simp only [Option.map_some, Option.some.injEq] at h
    simp [sizeOf, typeInfo, hq, h]
theorem run_row {t : TypeId} {b : Bool} (h : tRow P t = some b) : (isAgg t).run P w = .ok b w := by
  unfold tRow at h
  cases hu : P.underlying t with
  | none => rw [hu] at h; cases h
  | some d =>
    rw [hu] at h
    unfold isAgg
    rw [Sem.run_bind, run_underlying hu w]
    cases d <;> simp_all
theorem OkL.take_drop {l : List C} {us : List Value} (h : OkL s e l us) (o k : Nat) : OkL s e ((l.drop o).take k) ((us.drop o).take k) := by
  refine OkL.mk (by simp [h.length]) fun i x hx => ?_
  rw [List.getElem?_take] at hx ⊢
  split at hx
  · rename_i hi
    rw [if_pos hi]
    rw [List.getElem?_drop] at hx ⊢
    exact h.get hx
  · cases hx
theorem part_ok {t : TypeId} {l : List C} {off : Nat} {v : V} {us : List Value} (h : partC P t l off = some v) (hl : OkL s e l us) : ∃ u, (part t us.toArray off).run P w = .ok u w ∧ OkV s e v u ∧ ∀ n ∈ v.names, n ∈ l.flatMap C.names := by
  unfold partC at h
  cases hr : tRow P t with
  | none => rw [hr] at h; cases h
  | some b =>
    rw [hr] at h
    have e1 := run_row (w := w) hr
    cases b with
    | true =>
      simp only at h
      cases hs : tS P t with
      | none => rw [hs] at h; cases h
      | some k =>
        rw [hs] at h
        simp only at h
        split at h
        · rename_i hk
          cases h
          refine ⟨.agg ((us.drop off).take k).toArray, ?_, ⟨_, rfl, hl.take_drop off k⟩, fun n hn => ?_⟩
          · have e2 := run_sz (w := w) hs
            simp only [part, Sem.run_bind, e1, Result.andThen_ok, if_true, e2, Sem.run_pure]
            simp [List.extract_toArray, List.extract_eq_take_drop]
          · simp only [V.names, List.mem_flatMap] at hn ⊢
            obtain ⟨x, hx, hn⟩ := hn
            exact ⟨x, List.mem_of_mem_drop (List.mem_of_mem_take hx), hn⟩
        · cases h
    | false =>
      simp only at h
      cases hx : l[off]? with
      | none => rw [hx] at h; cases h
      | some x =>
        rw [hx] at h; cases h
        obtain ⟨u, h1, h2⟩ := hl.get hx
        refine ⟨u, ?_, h2.ok, fun n hn => List.mem_flatMap.2 ⟨x, List.mem_of_getElem? hx, hn⟩⟩
        simp only [part, Sem.run_bind, e1, Result.andThen_ok]
        simp [h1]
end

def unC : UnOp → Value → Option Value
  | .neg, .int k n => some (.int k (k.wrap (0 - n)))
  | .xor, .int k n => some (.int k (k.wrap ((BitVec.ofInt k.bits (if k.signed then -1 else k.max)) ^^^ BitVec.ofInt k.bits n).toNat))
  | .not, .bool b => some (.bool !b)
  | _, _ => none
theorem unC_ok {P : Program} {w : World} {op : UnOp} {X Z : Value} (h : unC op X = some Z) : (Op.unary op X).run P w = .ok Z w := by
  unfold unC at h
  split at h <;> first | (cases h; done) | (cases h; simp [Op.unary, Op.intArith, Op.intBits])
/-- Two numbers of one kind. -/
def intC : BinOp → IntKind → Int → Int → Option Value
  | .add, k, a, b => some (.int k (k.wrap (a + b)))
  | .sub, k, a, b => some (.int k (k.wrap (a - b)))
  | .mul, k, a, b => some (.int k (k.wrap (a * b)))
  | .quo, k, a, b => if b = 0 then none else some (.int k (k.wrap (a.tdiv b)))
  | .rem, k, a, b => if b = 0 then none else some (.int k (a.tmod b))
  | .and, k, a, b => some (.int k (k.wrap (BitVec.ofInt k.bits a &&& BitVec.ofInt k.bits b).toNat))
  | .or, k, a, b => some (.int k (k.wrap (BitVec.ofInt k.bits a ||| BitVec.ofInt k.bits b).toNat))
  | .xor, k, a, b => some (.int k (k.wrap (BitVec.ofInt k.bits a ^^^ BitVec.ofInt k.bits b).toNat))
  | .eql, _, a, b => some (.bool (a == b))
  | .neq, _, a, b => some (.bool (a != b))
  | .lss, _, a, b => some (.bool (decide (a < b)))
  | .leq, _, a, b => some (.bool (decide (a ≤ b)))
  | .gtr, _, a, b => some (.bool (decide (b < a)))
  | .geq, _, a, b => some (.bool (decide (b ≤ a)))
  | _, _, _, _ => none
def shC : BinOp → IntKind → Int → Int → Option Value
  | .shl, k, a, b => if b < 0 then none else some (.int k (k.wrap (a * 2 ^ (min b.toNat k.bits))))
  | .shr, k, a, b => if b < 0 then none else some (.int k (a.fdiv (2 ^ (min b.toNat k.bits))))
  | _, _, _, _ => none
def bytesEq : List UInt8 → List UInt8 → Bool
  | [], [] => true
  | x :: a, y :: b => Nat.beq x.toNat y.toNat && bytesEq a b
  | _, _ => false
theorem bytesEq_eq : ∀ (a b : List UInt8), bytesEq a b = (a == b)
  | [], [] => rfl
  | [], _ :: _ => rfl
  | _ :: _, [] => rfl
  | x :: a, y :: b => by
    have e : Nat.beq x.toNat y.toNat = (x == y) := by
      rw [Bool.eq_iff_iff, Nat.beq_eq, beq_iff_eq, UInt8.toNat_inj]
    rw [bytesEq, bytesEq_eq a b, e]; rfl
/-- Two strings. -/
def strC : BinOp → ByteArray → ByteArray → Option Value
  | .add, a, b => if a.data.size + b.data.size ≤ 1000000000 then some (.string ⟨(a.data.toList ++ b.data.toList).toArray⟩) else none
  | .eql, a, b => some (.bool (bytesEq a.data.toList b.data.toList))
  | .neq, a, b => some (.bool (!bytesEq a.data.toList b.data.toList))
  | _, _, _ => none
def binC (P : Program) (t : TypeId) (op : BinOp) : Value → Value → Option Value
  | .int k a, .int k' b => match op with
    | .shl | .shr => shC op k a b
    | _ => if k = k' then intC op k a b else none
  | .string a, .string b => strC op a b
  | .bool a, .bool b => match op, P.underlying t with
    | .eql, some .bool => some (.bool (a == b))
    | .neq, some .bool => some (.bool (a != b))
    | _, _ => none
  | .pointer none, .pointer none => match op, P.underlying t with
    | .eql, some (.pointer _) => some (.bool true)
    | .neq, some (.pointer _) => some (.bool false)
    | _, _ => none
  | _, _ => none
theorem byteArray_toList (a : ByteArray) : a.toList = a.data.toList := by
  have key : ∀ (n i : Nat) (r : List UInt8), a.size - i = n → ByteArray.toList.loop a i r = r.reverse ++ a.data.toList.drop i := by
    intro n
    induction n with
    | zero =>
      intro i r h
      rw [ByteArray.toList.loop, if_neg (by omega), List.drop_of_length_le (by simpa using (show a.data.size ≤ i by have : a.size = a.data.size := rfl; omega))]
      simp
    | succ n ih =>
      intro i r h
      have hi : i < a.data.size := by have : a.size = a.data.size := rfl; omega
      have e : a.get! i = a.data[i] := by
        show a.data[i]! = _
        rw [getElem!_pos a.data i hi]
      have hd : a.data.toList.drop i = a.data[i] :: a.data.toList.drop (i + 1) := by
        rw [List.drop_eq_getElem_cons (by simpa using hi)]; simp
      rw [ByteArray.toList.loop, if_pos (by have : a.size = a.data.size := rfl; omega), ih (i + 1) _ (by omega), hd, e]
      simp
  have := key (a.size - 0) 0 [] rfl
  simpa [ByteArray.toList] using this
theorem strC_ok {P : Program} {w : World} {op : BinOp} {a b : ByteArray} {Z : Value} (h : strC op a b = some Z) : (Op.stringOp op a b).run P w = .ok Z w := by
  unfold strC at h
  split at h
  · split at h
    · rename_i hle
      cases h
      have e1 : a.size = a.data.size := rfl
      have e2 : b.size = b.data.size := rfl
      have hs : ¬ (((a.size + b.size : Nat) : Int) > IntKind.i64.max) := by
        have : IntKind.i64.max = 9223372036854775807 := by decide
        rw [this]; omega
      have e3 : a ++ b = ⟨(a.data.toList ++ b.data.toList).toArray⟩ := by
        apply ByteArray.ext
        simp
      simp only [Op.stringOp, if_neg hs, Sem.run_pure, e3]
    · cases h
  · cases h; simp [Op.stringOp, byteArray_toList, bytesEq_eq]
  · cases h; simp [Op.stringOp, byteArray_toList, bytesEq_eq]
  · cases h
theorem binC_ok {P : Program} {w : World} {op : BinOp} {t : TypeId} {x y : Operand} {X Y Z : Value} (h : binC P t op X Y = some Z) : (do eqGuard op t x y X Y; binOp op t X Y : Sem Value).run P w = .ok Z w := by
  unfold binC at h
  split at h
  · rename_i k a k' b
    have eg : eqGuard op t x y (.int k a) (.int k' b) = pure () := by cases op <;> rfl
    rw [eg]
    have sh : ∀ {Z}, shC op k a b = some Z → (Op.shift op k a k' b).run P w = .ok Z w := fun hi => by
      clear h
      unfold shC at hi
      split at hi
      · split at hi
        · cases hi
        · rename_i hb; cases hi; simp [Op.shift, hb]
      · split at hi
        · cases hi
        · rename_i hb; cases hi; simp [Op.shift, hb]
      · cases hi
    have ii : ∀ {Z}, (if k = k' then intC op k a b else none) = some Z → op ≠ .shl → op ≠ .shr → (binOp op t (.int k a) (.int k' b)).run P w = .ok Z w := fun hi h1 h2 => by
      clear h
      by_cases hk : k = k'
      · subst hk
        rw [if_pos rfl] at hi
        cases op <;> simp only [intC] at hi <;> first
          | (cases hi; done)
          | (cases hi; simp [binOp, Op.intArith]; done)
          | (cases hi; simp [binOp, Op.intBits]; done)
          | (cases hi; simp [binOp, Op.intCmp]; done)
          | (by_cases hb : b = 0
             · rw [if_pos hb] at hi; cases hi
             · rw [if_neg hb] at hi; cases hi; simp [binOp, Op.intDiv, hb])
          | exact absurd rfl h1
          | exact absurd rfl h2
      · rw [if_neg hk] at hi; cases hi
    simp only [Sem.run_bind, Sem.run_pure, Result.andThen_ok]
    cases op <;> simp only at h <;> first
      | exact sh h
      | exact ii h (by simp) (by simp)
  · rename_i a b
    have eg : eqGuard op t x y (.string a) (.string b) = pure () := by cases op <;> rfl
    rw [eg]
    simp only [Sem.run_bind, Sem.run_pure, Result.andThen_ok]
    have e : binOp op t (.string a) (.string b) = Op.stringOp op a b := by cases op <;> rfl
    rw [e]; exact strC_ok h
  · rename_i a b
    have eg : eqGuard op t x y (.bool a) (.bool b) = pure () := by cases op <;> rfl
    rw [eg]
    simp only [Sem.run_bind, Sem.run_pure, Result.andThen_ok]
    split at h
    · rename_i hu; cases h; exact run_eql_bool (P := P) w t a b hu
    · rename_i hu; cases h; simpa [bne] using run_neq_bool (P := P) w t a b hu
    · cases h
  · have eg : eqGuard op t x y (.pointer none) (.pointer none) = pure () := by cases op <;> rfl
    rw [eg]
    simp only [Sem.run_bind, Sem.run_pure, Result.andThen_ok]
    have key : ∀ {el}, P.underlying t = some (.pointer el) → (Op.equal t (.pointer none) (.pointer none)).run P w = .ok true w := fun hu => by
      have : Op.equal t (.pointer none) (.pointer none) = Op.equalIn (9999 + 1) t (.pointer none) (.pointer none) := rfl
      rw [this, Op.equalIn]; simp only [Sem.run_bind, run_underlying hu w, Result.andThen_ok]; rfl
    have eq_nil : ∀ {el}, P.underlying t = some (.pointer el) → (binOp .eql t (.pointer none) (.pointer none)).run P w = .ok (.bool true) w := fun hu => by
      simp only [binOp, Sem.run_bind, key hu, Result.andThen_ok, Sem.run_pure]
    have ne_nil : ∀ {el}, P.underlying t = some (.pointer el) → (binOp .neq t (.pointer none) (.pointer none)).run P w = .ok (.bool false) w := fun hu => by
      simp only [binOp, Sem.run_bind, key hu, Result.andThen_ok, Sem.run_pure]; rfl
    split at h
    · rename_i el hu
      cases h
      exact eq_nil hu
    · rename_i el hu
      cases h
      exact ne_nil hu
    · cases h
  · cases h
end Go.Proofs.Ytbjogekhedglgaa.EV
