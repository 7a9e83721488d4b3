/- A reckoner of operations over named blocks. No program in sight. -/
import Derived.Test.YtbjogekhedglgaaEvF
namespace Go.Proofs.Ytbjogekhedglgaa.EV
noncomputable section
open Go.RowKit
open SX (eqs)

/-! ### A tree of places -/
inductive T (α : Type) where
  | e
  | n (v : Option α) (l r : T α)
def T.get {α : Type} (t : T α) : Nat → Option α :=
  T.rec (motive := fun _ => Nat → Option α) (fun _ => none) (fun v _ _ gl gr k => Nat.rec v (fun k _ => Bool.rec (gr (Nat.div k 2)) (gl (Nat.div k 2)) (Nat.beq (Nat.mod k 2) 0)) k) t
theorem T.get_e {α : Type} (k : Nat) : (T.e : T α).get k = none := rfl
theorem T.get_n0 {α : Type} (v : Option α) (l r : T α) : (T.n v l r).get 0 = v := rfl
theorem T.get_ns {α : Type} (v : Option α) (l r : T α) (k : Nat) : (T.n v l r).get (k + 1) = bif Nat.beq (k % 2) 0 then l.get (k / 2) else r.get (k / 2) := by
  show (Bool.rec (r.get (k / 2)) (l.get (k / 2)) (Nat.beq (k % 2) 0) : Option α) = _
  cases Nat.beq (k % 2) 0 <;> rfl
/-- A tree of one place; none if there is no more depth. -/
def T.single {α : Type} : Nat → Nat → α → Option (T α)
  | 0, _, _ => none
  | f + 1, k, x => match k with
    | 0 => some (.n (some x) .e .e)
    | k + 1 => bif Nat.beq (k % 2) 0 then (match T.single f (k / 2) x with | some t => some (.n none t .e) | none => none) else (match T.single f (k / 2) x with | some t => some (.n none .e t) | none => none)
/-- Laid in anew. -/
def T.put {α : Type} (f : Nat) (t : T α) : Nat → α → Option (T α) :=
  T.rec (motive := fun _ => Nat → α → Option (T α)) (fun k x => T.single f k x)
    (fun v l r pl pr k x => Nat.rec (some (.n (some x) l r)) (fun k _ => Bool.rec (Option.rec none (fun t => some (.n v l t)) (pr (Nat.div k 2) x)) (Option.rec none (fun t => some (.n v t r)) (pl (Nat.div k 2) x)) (Nat.beq (Nat.mod k 2) 0)) k) t
theorem T.put_n0 {α : Type} (f : Nat) (v : Option α) (l r : T α) (x : α) : T.put f (.n v l r) 0 x = some (.n (some x) l r) := rfl
theorem T.put_ns {α : Type} (f : Nat) (v : Option α) (l r : T α) (k : Nat) (x : α) : T.put f (.n v l r) (k + 1) x = bif Nat.beq (k % 2) 0 then (match T.put f l (k / 2) x with | some t => some (.n v t r) | none => none) else (match T.put f r (k / 2) x with | some t => some (.n v l t) | none => none) := by
  show (Bool.rec (Option.rec none (fun t => some (.n v l t)) (T.put f r (k / 2) x)) (Option.rec none (fun t => some (.n v t r)) (T.put f l (k / 2) x)) (Nat.beq (k % 2) 0) : Option (T α)) = _
  cases Nat.beq (k % 2) 0
  · cases T.put f r (k / 2) x <;> rfl
  · cases T.put f l (k / 2) x <;> rfl
theorem T.get_single {α : Type} (x : α) : ∀ (f : Nat) (t' : T α) (k j : Nat), T.single f k x = some t' → t'.get j = if k = j then some x else none
  | 0, t', k, j, h => by cases h
  | f + 1, t', 0, j, h => by
    simp only [T.single, Option.some.injEq] at h
    subst h
    cases j with
    | zero => rfl
    | succ j => rw [if_neg (by omega)]; simp only [T.get_e, T.get_n0, T.get_ns]; cases Nat.beq (j % 2) 0 <;> rfl
  | f + 1, t', k + 1, j, h => by
    simp only [T.single] at h
    cases hb : Nat.beq (k % 2) 0 with
    | true =>
      have h1 := Nat.eq_of_beq_eq_true hb
      rw [hb, cond_true] at h
      split at h
      · rename_i t1 ht
        cases h
        cases j with
        | zero => rw [if_neg (by omega)]; rfl
        | succ j =>
          have ih := T.get_single x f t1 (k / 2) (j / 2) ht
          simp only [T.get_e, T.get_n0, T.get_ns]
          cases hj : Nat.beq (j % 2) 0 with
          | true =>
            have h2 := Nat.eq_of_beq_eq_true hj
            simp only [cond_true, ih]
            by_cases hkj : k = j
            · subst hkj; simp
            · rw [if_neg (by omega), if_neg (by omega)]
          | false =>
            have h2 : j % 2 ≠ 0 := fun h => by rw [h] at hj; cases hj
            simp only [cond_false, T.get_e, T.get_n0, T.get_ns]
            rw [if_neg (by omega)]
      · cases h
    | false =>
      have h1 : k % 2 ≠ 0 := fun h => by rw [h] at hb; cases hb
      rw [hb, cond_false] at h
      split at h
      · rename_i t1 ht
        cases h
        cases j with
        | zero => rw [if_neg (by omega)]; rfl
        | succ j =>
          have ih := T.get_single x f t1 (k / 2) (j / 2) ht
          simp only [T.get_e, T.get_n0, T.get_ns]
          cases hj : Nat.beq (j % 2) 0 with
          | true =>
            have h2 := Nat.eq_of_beq_eq_true hj
            simp only [cond_true, T.get_e, T.get_n0, T.get_ns]
            rw [if_neg (by omega)]
          | false =>
            have h2 : j % 2 ≠ 0 := fun h => by rw [h] at hj; cases hj
            simp only [cond_false, ih]
            by_cases hkj : k = j
            · subst hkj; simp
            · rw [if_neg (by omega), if_neg (by omega)]
      · cases h
theorem T.get_put {α : Type} (x : α) (f : Nat) : ∀ (t t' : T α) (k j : Nat), T.put f t k x = some t' → t'.get j = if k = j then some x else t.get j
  | .e, t', k, j, h => T.get_single x f t' k j h
  | .n v l r, t', 0, j, h => by
    simp only [T.put_n0, Option.some.injEq] at h
    subst h
    cases j with
    | zero => rfl
    | succ j => rw [if_neg (by omega)]; rfl
  | .n v l r, t', k + 1, j, h => by
    simp only [T.put_ns] at h
    cases hb : Nat.beq (k % 2) 0 with
    | true =>
      have h1 := Nat.eq_of_beq_eq_true hb
      rw [hb, cond_true] at h
      split at h
      · rename_i t1 ht
        cases h
        cases j with
        | zero => rw [if_neg (by omega)]; rfl
        | succ j =>
          have ih := T.get_put x f l t1 (k / 2) (j / 2) ht
          simp only [T.get_e, T.get_n0, T.get_ns]
          cases hj : Nat.beq (j % 2) 0 with
          | true =>
            have h2 := Nat.eq_of_beq_eq_true hj
            simp only [cond_true, ih]
            by_cases hkj : k = j
            · subst hkj; simp
            · rw [if_neg (by omega), if_neg (by omega)]
          | false =>
            have h2 : j % 2 ≠ 0 := fun h => by rw [h] at hj; cases hj
            simp only [cond_false]
            rw [if_neg (by omega)]
      · cases h
    | false =>
      have h1 : k % 2 ≠ 0 := fun h => by rw [h] at hb; cases hb
      rw [hb, cond_false] at h
      split at h
      · rename_i t1 ht
        cases h
        cases j with
        | zero => rw [if_neg (by omega)]; rfl
        | succ j =>
          have ih := T.get_put x f r t1 (k / 2) (j / 2) ht
          simp only [T.get_e, T.get_n0, T.get_ns]
          cases hj : Nat.beq (j % 2) 0 with
          | true =>
            have h2 := Nat.eq_of_beq_eq_true hj
            simp only [cond_true]
            rw [if_neg (by omega)]
          | false =>
            have h2 : j % 2 ≠ 0 := fun h => by rw [h] at hj; cases hj
            simp only [cond_false, ih]
            by_cases hkj : k = j
            · subst hkj; simp
            · rw [if_neg (by omega), if_neg (by omega)]
      · cases h
def T.all {α : Type} (p : α → Bool) : T α → Bool
  | .e => true
  | .n v l r => (match v with | some x => p x | none => true) && (l.all p && r.all p)
theorem T.all_get {α : Type} {p : α → Bool} : ∀ {t : T α} {k : Nat} {x : α}, t.all p = true → t.get k = some x → p x = true
  | .e, _, _, _, h => by cases h
  | .n v l r, 0, x, ha, h => by
    simp only [T.get_e, T.get_n0, T.get_ns] at h; subst h
    simp only [T.all, Bool.and_eq_true] at ha; exact ha.1
  | .n v l r, k + 1, x, ha, h => by
    simp only [T.all, Bool.and_eq_true] at ha
    simp only [T.get_e, T.get_n0, T.get_ns] at h
    cases hb : Nat.beq (k % 2) 0 with
    | true => rw [hb, cond_true] at h; exact T.all_get ha.2.1 h
    | false => rw [hb, cond_false] at h; exact T.all_get ha.2.2 h
/-- What stands in it: step s, from place b on. -/
def T.list {α : Type} : T α → (Nat → Nat) → List (Nat × α) → List (Nat × α)
  | .e, _, r => r
  | .n v l m, g, r => match v with
    | some x => (g 0, x) :: l.list (fun k => g (2 * k + 1)) (m.list (fun k => g (2 * k + 2)) r)
    | none => l.list (fun k => g (2 * k + 1)) (m.list (fun k => g (2 * k + 2)) r)
theorem T.list_mem {α : Type} : ∀ {t : T α} {g : Nat → Nat} {r : List (Nat × α)} {i : Nat} {x : α}, (i, x) ∈ t.list g r → (∃ k, g k = i ∧ t.get k = some x) ∨ (i, x) ∈ r
  | .e, _, r, _, _, h => .inr h
  | .n v l m, g, r, i, x, h => by
    have step : (i, x) ∈ l.list (fun k => g (2 * k + 1)) (m.list (fun k => g (2 * k + 2)) r) → (∃ k, g k = i ∧ (T.n v l m).get k = some x) ∨ (i, x) ∈ r := fun h => by
      rcases T.list_mem h with ⟨k, h1, h2⟩ | h
      · refine .inl ⟨2 * k + 1, h1, ?_⟩
        simp only [T.get_e, T.get_n0, T.get_ns, show 2 * k % 2 = 0 by omega, show 2 * k / 2 = k by omega]; exact h2
      · rcases T.list_mem h with ⟨k, h1, h2⟩ | h
        · refine .inl ⟨2 * k + 2, h1, ?_⟩
          simp only [T.get_e, T.get_n0, T.get_ns, show (2 * k + 1) % 2 = 1 by omega, show (2 * k + 1) / 2 = k by omega]; exact h2
        · exact .inr h
    simp only [T.list] at h
    split at h
    · rename_i y hy
      rcases List.mem_cons.1 h with h | h
      · cases h; exact .inl ⟨0, rfl, rfl⟩
      · exact step h
    · exact step h

/-! ### What is reckoned is written out -/
def fcN : Nat → Option Nat
  | 0 => some 0
  | n + 1 => some (n + 1)
theorem fcN_eq {n m : Nat} (h : fcN n = some m) : n = m := by cases n <;> simpa [fcN] using h
def fcI : Int → Option Int
  | .ofNat n => match n with
    | 0 => some (.ofNat 0)
    | m + 1 => some (.ofNat (m + 1))
  | .negSucc n => match n with
    | 0 => some (.negSucc 0)
    | m + 1 => some (.negSucc (m + 1))
theorem fcI_eq {n m : Int} (h : fcI n = some m) : n = m := by
  cases n with
  | ofNat n => cases n <;> simpa [fcI] using h
  | negSucc n => cases n <;> simpa [fcI] using h
def fcU (x : UInt8) : Option UInt8 := match x.toNat with
  | 0 => some (UInt8.ofNat 0)
  | n + 1 => some (UInt8.ofNat (n + 1))
theorem fcU_eq {x y : UInt8} (h : fcU x = some y) : x = y := by
  unfold fcU at h
  have hx : UInt8.ofNat x.toNat = x := UInt8.ofNat_toNat
  split at h
  · rename_i h0; rw [h0] at hx; cases h; exact hx.symm
  · rename_i n h0; rw [h0] at hx; cases h; exact hx.symm
def fcLs {α : Type} (f : α → Option α) : List α → Option (List α)
  | [] => some []
  | x :: l => match f x with
    | some y => match fcLs f l with
      | some r => some (y :: r)
      | none => none
    | none => none
theorem fcLs_eq {α : Type} {f : α → Option α} (hf : ∀ x y, f x = some y → x = y) : ∀ {l r : List α}, fcLs f l = some r → l = r
  | [], r, h => by simpa [fcLs] using h
  | x :: l, r, h => by
    simp only [fcLs] at h
    split at h
    · rename_i y hy
      split at h
      · rename_i r' hr; cases h; rw [hf x y hy, fcLs_eq hf hr]
      · cases h
    · cases h
def fcB (b : ByteArray) : Option ByteArray := match fcLs fcU b.data.toList with
  | some l => some ⟨l.toArray⟩
  | none => none
theorem fcB_eq {b d : ByteArray} (h : fcB b = some d) : b = d := by
  unfold fcB at h
  split at h
  · rename_i l hl
    cases h
    have := fcLs_eq (fun x y h => fcU_eq h) hl
    apply ByteArray.ext
    rw [← this]
  · cases h
def fcX : Value → Option Value
  | .int k i => match fcI i with
    | some j => some (.int k j)
    | none => none
  | .bool b => match b with
    | true => some (.bool true)
    | false => some (.bool false)
  | .string b => match fcB b with
    | some d => some (.string d)
    | none => none
  | x => some x
theorem fcX_eq {x y : Value} (h : fcX x = some y) : x = y := by
  cases x with
  | int k i =>
    simp only [fcX] at h
    split at h
    · rename_i j hj; cases h; rw [fcI_eq hj]
    · cases h
  | bool b => cases b <;> (cases h; rfl)
  | string b =>
    simp only [fcX] at h
    split at h
    · rename_i d hd; cases h; rw [fcB_eq hd]
    · cases h
  | _ => simp only [fcX] at h; cases h; rfl
def fcC : C → Option C
  | .v x => match fcX x with
    | some y => some (.v y)
    | none => none
  | .p n o => match fcN n, fcN o with
    | some n, some o => some (.p n o)
    | _, _ => none
  | .s n o l k => match fcN n, fcN o, fcN l, fcN k with
    | some n, some o, some l, some k => some (.s n o l k)
    | _, _, _, _ => none
  | .g n o l b z => match fcN n, fcN o, fcN l, fcN b with
    | some n, some o, some l, some b => some (.g n o l b z)
    | _, _, _, _ => none
  | .y n => match fcN n with
    | some n => some (.y n)
    | none => none
  | x => some x
theorem fcC_eq {x y : C} (h : fcC x = some y) : x = y := by
  cases x with
  | v x =>
    simp only [fcC] at h
    split at h
    · rename_i y hy; cases h; rw [fcX_eq hy]
    · cases h
  | p n o =>
    simp only [fcC] at h
    split at h
    · rename_i h1 h2; cases h; rw [fcN_eq h1, fcN_eq h2]
    · cases h
  | s n o l k =>
    simp only [fcC] at h
    split at h
    · rename_i h1 h2 h3 h4; cases h; rw [fcN_eq h1, fcN_eq h2, fcN_eq h3, fcN_eq h4]
    · cases h
  | g n o l b z =>
    simp only [fcC] at h
    split at h
    · rename_i h1 h2 h3 h4; cases h; rw [fcN_eq h1, fcN_eq h2, fcN_eq h3, fcN_eq h4]
    · cases h
  | f g ca => simp only [fcC] at h; cases h; rfl
  | y n =>
    simp only [fcC] at h
    split at h
    · rename_i h1; cases h; rw [fcN_eq h1]
    · cases h
def fcP : C ⊕ List C → Option (C ⊕ List C)
  | .inl x => match fcC x with
    | some y => some (.inl y)
    | none => none
  | .inr l => match fcLs fcC l with
    | some r => some (.inr r)
    | none => none
theorem fcP_eq {x y : C ⊕ List C} (h : fcP x = some y) : x = y := by
  cases x with
  | inl x =>
    simp only [fcP] at h
    split at h
    · rename_i y hy; cases h; rw [fcC_eq hy]
    · cases h
  | inr l =>
    simp only [fcP] at h
    split at h
    · rename_i r hr; cases h; rw [fcLs_eq (fun x y h => fcC_eq h) hr]
    · cases h
def fcV : V → Option V
  | .c x => match fcC x with
    | some y => some (.c y)
    | none => none
  | .a l => match fcLs fcC l with
    | some r => some (.a r)
    | none => none
  | .t l => match fcLs fcP l with
    | some r => some (.t r)
    | none => none
theorem fcV_eq {x y : V} (h : fcV x = some y) : x = y := by
  cases x with
  | c x =>
    simp only [fcV] at h
    split at h
    · rename_i y hy; cases h; rw [fcC_eq hy]
    · cases h
  | a l =>
    simp only [fcV] at h
    split at h
    · rename_i r hr; cases h; rw [fcLs_eq (fun x y h => fcC_eq h) hr]
    · cases h
  | t l =>
    simp only [fcV] at h
    split at h
    · rename_i r hr; cases h; rw [fcLs_eq (fun x y h => fcP_eq h) hr]
    · cases h

/-! ### The operations -/
def lv (s : Sf) (n : Nat) : Bool := match s (.l n) with
  | some (.l b) => b
  | _ => false
theorem lv_eq {s : Sf} {n : Nat} (h : lv s n = true) : s (.l n) = some (.l true) := by
  unfold lv at h
  split at h
  · rename_i b hb; rw [hb, h]
  · cases h
def optI (s : Sf) : Option Operand → Option (Option Int × List Key)
  | none => some (none, [])
  | some x => match opv s x with
    | some (.c (.v (.int _ i))) => some (some i, opk x)
    | _ => none
theorem optI_ok {s : Sf} {x : Option Operand} {i : Option Int} {ks : List Key} (h : optI s x = some (i, ks)) : OptI s x i ks := by
  unfold optI at h
  split at h
  · cases h; exact .no
  · split at h
    · rename_i hx; cases h; exact .yes hx
    · cases h
/-- low, high, most. -/
def bndE (n cap : Nat) (lo hi mx : Option Int) : Option (Nat × Nat × Nat) :=
  match (match mx with | some i => if 0 ≤ i ∧ i ≤ cap then some i.toNat else none | none => some cap) with
  | none => none
  | some m => match (match hi, mx with | some i, _ => if 0 ≤ i ∧ i ≤ m then some i.toNat else none | none, none => some n | none, some _ => none) with
    | none => none
    | some h => match (match lo with | some i => if 0 ≤ i ∧ i ≤ h then some i.toNat else none | none => some 0) with
      | none => none
      | some l => if l ≤ h ∧ h ≤ m then some (l, h, m) else none
theorem bndE_ok {n cap l h m : Nat} {lo hi mx : Option Int} (he : bndE n cap lo hi mx = some (l, h, m)) : bnd n cap lo hi mx l h m ∧ l ≤ h ∧ h ≤ m := by
  unfold bndE at he
  split at he
  · cases he
  · rename_i m' hm
    split at he
    · cases he
    · rename_i h' hh
      split at he
      · cases he
      · rename_i l' hl
        split at he
        · rename_i hle
          cases he
          refine ⟨⟨?_, ?_, ?_⟩, hle⟩
          · cases mx with
            | none => simp only [Option.some.injEq] at hm; exact hm.symm
            | some i =>
              simp only at hm ⊢
              split at hm
              · rename_i hc; cases hm; exact ⟨hc.1, hc.2, rfl⟩
              · cases hm
          · cases hi with
            | none => cases mx with
              | none => simp only [Option.some.injEq] at hh; exact hh.symm
              | some i => cases hh
            | some i =>
              simp only at hh ⊢
              split at hh
              · rename_i hc; cases hh; exact ⟨hc.1, hc.2, rfl⟩
              · cases hh
          · cases lo with
            | none => simp only [Option.some.injEq] at hl; exact hl.symm
            | some i =>
              simp only at hl ⊢
              split at hl
              · rename_i hc; cases hl; exact ⟨hc.1, hc.2, rfl⟩
              · cases hl
        · cases he
def capsE (s : Sf) : List Operand → Option (List (Nat × Nat) × List Key)
  | [] => some ([], [])
  | x :: xs => match opv s x, capsE s xs with
    | some (.c (.p n o)), some (l, ks) => if lv s n = true then some ((n, o) :: l, .l n :: (opk x ++ ks)) else none
    | _, _ => none
theorem capsE_ok {s : Sf} : ∀ {xs : List Operand} {l : List (Nat × Nat)} {ks : List Key}, capsE s xs = some (l, ks) → Caps s xs l ks
  | [], l, ks, h => by simp only [capsE, Option.some.injEq, Prod.mk.injEq] at h; obtain ⟨rfl, rfl⟩ := h; exact .nil
  | x :: xs, l, ks, h => by
    simp only [capsE] at h
    split at h
    · rename_i n o l' ks' hx hl
      split at h
      · rename_i ha; cases h; exact .cons hx (lv_eq ha) (capsE_ok hl)
      · cases h
    · cases h
def valsE (s : Sf) : List Operand → Option (List V × List Key)
  | [] => some ([], [])
  | x :: xs => match opv s x, valsE s xs with
    | some v, some (l, ks) => some (v :: l, opk x ++ ks)
    | _, _ => none
theorem valsE_ok {s : Sf} : ∀ {xs : List Operand} {l : List V} {ks : List Key}, valsE s xs = some (l, ks) → Vals s xs l ks
  | [], l, ks, h => by simp only [valsE, Option.some.injEq, Prod.mk.injEq] at h; obtain ⟨rfl, rfl⟩ := h; exact .nil
  | x :: xs, l, ks, h => by
    simp only [valsE] at h
    split at h
    · rename_i v l' ks' hx hl; cases h; exact .cons hx (valsE_ok hl)
    · cases h
def plainV : List V → Option (List Value)
  | [] => some []
  | .c (.v x) :: l => match plainV l with
    | some r => some (x :: r)
    | none => none
  | _ :: _ => none
theorem plainV_eq : ∀ {l : List V} {r : List Value}, plainV l = some r → l = r.map fun X => V.c (.v X)
  | [], r, h => by simp only [plainV, Option.some.injEq] at h; subst h; rfl
  | .c (.v x) :: l, r, h => by
    simp only [plainV] at h
    split at h
    · rename_i r' hr; cases h; rw [plainV_eq hr]; rfl
    · cases h
  | .c (.p _ _) :: _, _, h => by cases h
  | .c (.s _ _ _ _) :: _, _, h => by cases h
  | .c (.g _ _ _ _ _) :: _, _, h => by cases h
  | .c (.f _ _) :: _, _, h => by cases h
  | .c (.y _) :: _, _, h => by cases h
  | .a _ :: _, _, h => by cases h
  | .t _ :: _, _, h => by cases h
def binE (P : Program) (s : Sf) (op : BinOp) (t : TypeId) (x y : Operand) : Option (V × List Key) := match opv s x, opv s y with
  | some (.c (.v X)), some (.c (.v Y)) => match binC P t op X Y with
    | some Z => some (.c (.v Z), opk x ++ opk y)
    | none => none
  | some (.a l), some (.a m) => match plainL l, plainL m with
    | some L, some M => if eqOkB P t L M = true then (match op with
      | .eql => some (.c (.v (.bool (eqs L M))), opk x ++ opk y)
      | .neq => some (.c (.v (.bool (!eqs L M))), opk x ++ opk y)
      | _ => none) else none
    | _, _ => none
  | some (.c (.p n _)), some (.c (.v (.pointer none))) => match P.underlying t with
    | some (.pointer _) => if lv s n = true then (match op with
      | .eql => some (.c (.v (.bool false)), .l n :: (opk x ++ opk y))
      | .neq => some (.c (.v (.bool true)), .l n :: (opk x ++ opk y))
      | _ => none) else none
    | _ => none
  | _, _ => none
/-- A value held against nil. -/
def nilE (P : Program) (s : Sf) (x : Operand) (t : TypeId) (Y : Value) : Option (Bool × List Key) := match Y, P.underlying t with
  | .nilFunc, some (.func _ _ _) => match opv s x with
    | some (.c (.f _ ca)) => if ca.all (fun q => lv s q.1) = true then some (false, ca.map fun q => .l q.1) else none
    | some (.c (.y n)) => if lv s n = true then some (false, [.l n]) else none
    | some (.c (.v .nilFunc)) => some (true, [])
    | _ => none
  | .slice none 0 0, some (.slice _) => match opv s x with
    | some (.c (.s n _ l k)) => if lv s n = true ∧ 0 < l + k then some (false, [.l n]) else none
    | some (.c (.g n _ l b _)) => if lv s n = true ∧ 0 < l + b then some (false, [.l n]) else none
    | some (.c (.v (.slice p _ _))) => some (p.isNone, [])
    | _ => none
  | .pointer none, some (.pointer _) => match opv s x with
    | some (.c (.v (.pointer (some _)))) => some (false, [])
    | _ => none
  | _, _ => none
def eP_move (P : Program) (s : Sf) (x : Operand) : Option (V × List Key) := match opv s x with
    | some v => some (v, opk x)
    | none => none
def eP_assign (P : Program) (s : Sf) (x : Operand) : Option (V × List Key) := match opv s x with
    | some v => some (v, opk x)
    | none => none
def eP_pick (P : Program) (s : Sf) (x : Operand) (y : Operand) (z : Operand) : Option (V × List Key) := match opv s x with
    | some (.c (.v (.bool true))) => match opv s y with
      | some v => some (v, opk x ++ opk y)
      | none => none
    | some (.c (.v (.bool false))) => match opv s z with
      | some v => some (v, opk x ++ opk z)
      | none => none
    | _ => none
def eP_extract (P : Program) (s : Sf) (x : Operand) (i : Nat) : Option (V × List Key) := match opv s x with
    | some (.t l) => match l[i]? with
      | some (.inl z) => some (.c z, opk x)
      | some (.inr z) => some (.a z, opk x)
      | none => none
    | _ => none
def eP_field (P : Program) (s : Sf) (t : TypeId) (x : Operand) (i : Nat) : Option (V × List Key) := match opv s x, P.underlying t with
    | some (.a l), some (.struct fs) => match fs[i]? with
      | some f => match partC P f.type l f.offset with
        | some v => some (v, opk x)
        | none => none
      | none => none
    | _, _ => none
def eP_index (P : Program) (s : Sf) (t : TypeId) (x : Operand) (y : Operand) : Option (V × List Key) := match opv s x, opv s y, P.underlying t with
    | some (.a l), some (.c (.v (.int _ j))), some (.array len el) => match tS P el with
      | some z => if 0 ≤ j ∧ j < len then (match partC P el l (j.toNat * z) with
        | some v => some (v, opk x ++ opk y)
        | none => none) else none
      | none => none
    | some (.c (.v (.string b))), some (.c (.v (.int _ j))), some .string => if 0 ≤ j then (match b.data.toList[j.toNat]? with
      | some u => some (.c (.v (.int .u8 u.toNat)), opk x ++ opk y)
      | none => none) else none
    | _, _, _ => none
def eP_makeFunc (P : Program) (s : Sf) (g : FuncId) (first : Array Operand) (xs : Array Operand) : Option (V × List Key) := match first.toList, capsE s xs.toList with
    | [], some (l, ks) => some (.c (.f g l), ks)
    | _, _ => none
def eP_fieldAddr (P : Program) (s : Sf) (t : TypeId) (x : Operand) (i : Nat) : Option (V × List Key) := match opv s x, P.underlying t with
    | some (.c (.p n o)), some (.struct fs) => match fs[i]? with
      | some f => match tS P f.type with
        | some k => if lv s n = true ∧ k ≠ 0 then some (.c (.p n (o + f.offset)), .l n :: opk x) else none
        | none => none
      | none => none
    | _, _ => none
def eP_indexAddr (P : Program) (s : Sf) (t : TypeId) (x : Operand) (y : Operand) : Option (V × List Key) := match opv s x, opv s y, P.underlying t with
    | some (.c (.p n o)), some (.c (.v (.int _ j))), some (.array len el) => match tS P el with
      | some z => if lv s n = true ∧ 0 ≤ j ∧ j < len then some (.c (.p n (o + j.toNat * z)), .l n :: (opk x ++ opk y)) else none
      | none => none
    | some (.c (.s n o len _)), some (.c (.v (.int _ j))), some (.slice el) => match tS P el with
      | some z => if lv s n = true ∧ 0 ≤ j ∧ j < len then some (.c (.p n (o + j.toNat * z)), .l n :: (opk x ++ opk y)) else none
      | none => none
    | some (.c (.g n o len _ _)), some (.c (.v (.int _ j))), some (.slice el) => match tS P el with
      | some z => if lv s n = true ∧ 0 ≤ j ∧ j < len then some (.c (.p n (o + j.toNat * z)), .l n :: (opk x ++ opk y)) else none
      | none => none
    | _, _, _ => none
def eP_slice (P : Program) (s : Sf) (t : TypeId) (x : Operand) (lo : Option Operand) (hi : Option Operand) (mx : Option Operand) : Option (V × List Key) := match opv s x, P.underlying t, optI s lo, optI s hi, optI s mx with
    | some (.c (.s n o len cap)), some (.slice el), some (lo', k1), some (hi', k2), some (mx', k3) => match tS P el, bndE len cap lo' hi' mx' with
      | some z, some (l, h, m) => if lv s n = true then some (.c (.s n (o + l * z) (h - l) (m - l)), .l n :: (opk x ++ (k1 ++ (k2 ++ k3)))) else none
      | _, _ => none
    | some (.c (.g n o len lb z)), some (.slice el), some (lo', k1), some (hi', k2), some (mx', k3) => match tS P el, mx with
      | some z', none => match bndE len (Nat.max len lb) lo' hi' none with
        | some (l, h, _) => if lv s n = true ∧ z' = z then some (.c (.g n (o + l * z) (h - l) (Nat.max len lb - l) z), .l n :: (opk x ++ (k1 ++ k2))) else none
        | none => none
      | some z', some _ => match bndE len (Nat.max len lb) lo' hi' mx' with
        | some (l, h, m) => if lv s n = true ∧ z' = z then some (.c (.s n (o + l * z) (h - l) (m - l)), .l n :: (opk x ++ (k1 ++ (k2 ++ k3)))) else none
        | none => none
      | none, _ => none
    | some (.c (.p n o)), some (.array len el), some (lo', k1), some (hi', k2), some (mx', k3) => match tS P el, bndE len len lo' hi' mx' with
      | some z, some (l, h, m) => if lv s n = true then some (.c (.s n (o + l * z) (h - l) (m - l)), .l n :: (opk x ++ (k1 ++ (k2 ++ k3)))) else none
      | _, _ => none
    | some (.c (.v (.slice none 0 0))), some (.slice el), some (lo', k1), some (hi', k2), some (mx', k3) => match tS P el, bndE 0 0 lo' hi' mx' with
      | some _, some _ => some (.c (.v (.slice none 0 0)), opk x ++ (k1 ++ (k2 ++ k3)))
      | _, _ => none
    | some (.c (.v (.string b))), some .string, some (lo', k1), some (hi', k2), some _ => match mx, bndE b.data.size b.data.size lo' hi' none with
      | none, some (l, h, _) => some (.c (.v (.string (b.extract l h))), opk x ++ (k1 ++ k2))
      | _, _ => none
    | _, _, _, _, _ => none
def eP_nilCheck (P : Program) (s : Sf) (x : Operand) : Option (V × List Key) := match opv s x with
    | some (.c (.p n o)) => if lv s n = true then some (.c (.p n o), .l n :: opk x) else none
    | some (.c (.v (.pointer (some b)))) => some (.c (.v (.pointer (some b))), opk x)
    | some (.c (.f g ca)) => if ca.all (fun q => lv s q.1) = true then some (.c (.f g ca), ca.map (fun q => .l q.1) ++ opk x) else none
    | some (.c (.y n)) => if lv s n = true then some (.c (.y n), .l n :: opk x) else none
    | _ => none
def eP_unOp (P : Program) (s : Sf) (op : UnOp) (x : Operand) : Option (V × List Key) := match opv s x with
    | some (.c (.v X)) => match unC op X with
      | some Z => some (.c (.v Z), opk x)
      | none => none
    | _ => none
def eP_binOp (P : Program) (s : Sf) (op : BinOp) (t : TypeId) (x : Operand) (y : Operand) : Option (V × List Key) := match binE P s op t x y with
    | some r => some r
    | none => match opv s y with
      | some (.c (.v Y)) => match nilE P s x t Y, op with
        | some (b, ks), .eql => some (.c (.v (.bool b)), (ks ++ opk x) ++ opk y)
        | some (b, ks), .neq => some (.c (.v (.bool !b)), (ks ++ opk x) ++ opk y)
        | _, _ => none
      | _ => none
def eP_convert (P : Program) (s : Sf) (src : TypeId) (dst : TypeId) (x : Operand) : Option (V × List Key) := match opv s x, P.underlying src, P.underlying dst with
    | some (.c (.v (.int _ n))), some _, some (.int k') => some (.c (.v (.int k' (k'.wrap n))), opk x)
    | some (.c (.v (.string b))), some _, some .string => some (.c (.v (.string b)), opk x)
    | _, _, _ => none
def eP_call (P : Program) (s : Sf) (b : Builtin) (xs : Array Operand) (ts : Array TypeId) : Option (V × List Key) := match b with
    | .len => match xs.toList, ts.toList with
      | [x], [t] => match opv s x, P.underlying t with
        | some (.c (.s n _ len _)), some (.slice _) => if lv s n = true then some (.c (.v (.int .i64 len)), .l n :: opk x) else none
        | some (.c (.g n _ len _ _)), some (.slice _) => if lv s n = true then some (.c (.v (.int .i64 len)), .l n :: opk x) else none
        | some (.c (.v (.string d))), some .string => some (.c (.v (.int .i64 d.data.size)), opk x)
        | some (.c (.v (.slice _ n _))), some (.slice _) => some (.c (.v (.int .i64 n)), opk x)
        | _, _ => none
      | _, _ => none
    | .cap => match xs.toList, ts.toList with
      | [x], [t] => match opv s x, P.underlying t with
        | some (.c (.s n _ _ cap)), some (.slice _) => if lv s n = true then some (.c (.v (.int .i64 cap)), .l n :: opk x) else none
        | _, _ => none
      | _, _ => none
    | .min => match valsE s xs.toList with
      | some (l, ks) => match plainV l with
        | some L => match minL L with
          | some Z => some (.c (.v Z), ks)
          | none => none
        | none => none
      | none => none
    | .max => match valsE s xs.toList with
      | some (l, ks) => match plainV l with
        | some L => match maxL L with
          | some Z => some (.c (.v Z), ks)
          | none => none
        | none => none
      | none => none
    | _ => none
/-- What an operation yields of what slots hold. -/
def evalP (P : Program) (s : Sf) : Op → Option (V × List Key)
  | .move x => eP_move P s x
  | .assign x => eP_assign P s x
  | .pick x y z => eP_pick P s x y z
  | .extract x i => eP_extract P s x i
  | .field t x i => eP_field P s t x i
  | .index t x y => eP_index P s t x y
  | .makeFunc (.func g) first xs => eP_makeFunc P s g first xs
  | .fieldAddr t x i => eP_fieldAddr P s t x i
  | .indexAddr t x y => eP_indexAddr P s t x y
  | .slice t x lo hi mx => eP_slice P s t x lo hi mx
  | .nilCheck x => eP_nilCheck P s x
  | .unOp op _ x => eP_unOp P s op x
  | .binOp op t x y _ => eP_binOp P s op t x y
  | .convert src dst x => eP_convert P s src dst x
  | .call ⟨.builtin b, xs, ts⟩ => eP_call P s b xs ts
  | _ => none
end
end Go.Proofs.Ytbjogekhedglgaa.EV
