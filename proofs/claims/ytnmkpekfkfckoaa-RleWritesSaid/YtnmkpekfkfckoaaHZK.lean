import Derived.Test.YtnmkpekfkfckoaaHEw7
import Derived.Test.YtnmkpekfkfckoaaHZB
import Derived.Test.YtnmkpekfkfckoaaRows
/- Sums of bytes, at once and bit by bit: plain laws of naturals. -/
namespace Go.Proofs.Ytnmkpekfkfckoaa
open Go.RowKit
set_option maxRecDepth 20000
/-- One step of a sum. -/
def shN (n : Nat) : Nat := n / 2 ^^^ (if n % 2 = 1 then 3988292384 else 0)
theorem xor_div2 (a b : Nat) : (a ^^^ b) / 2 = a / 2 ^^^ b / 2 := by
  apply Nat.eq_of_testBit_eq
  intro i
  rw [Nat.testBit_xor, Nat.testBit_div_two, Nat.testBit_div_two, Nat.testBit_div_two, Nat.testBit_xor]
theorem xor_mod2 (a b : Nat) : (a ^^^ b) % 2 = (a ^^^ b % 2) % 2 := by
  have h : ∀ n : Nat, n % 2 = if n.testBit 0 then 1 else 0 := fun n => by
    rw [Nat.testBit_zero]; by_cases h : n % 2 = 1 <;> simp [h]; omega
  rw [h (a ^^^ b), h (a ^^^ b % 2), Nat.testBit_xor, Nat.testBit_xor]
  have : (b % 2).testBit 0 = b.testBit 0 := by rw [Nat.testBit_zero, Nat.testBit_zero, Nat.mod_mod]
  rw [this]
theorem sh_xor (n c : Nat) : shN (n ^^^ c) = shN (n ^^^ c % 2) ^^^ c / 2 := by
  unfold shN
  rw [xor_mod2 n c, xor_div2, xor_div2, show c % 2 / 2 = 0 by omega, Nat.xor_zero]
  rw [Nat.xor_assoc, Nat.xor_assoc, Nat.xor_comm (c / 2)]
/-- The document's way: bit by bit. -/
def bitN : Nat → Nat → Nat → Nat
  | 0, n, _ => n
  | k + 1, n, c => bitN k (shN (n ^^^ c % 2)) (c / 2)
/-- All steps. -/
def shK : Nat → Nat → Nat
  | 0, n => n
  | k + 1, n => shK k (shN n)
theorem bit_is : ∀ (k n c : Nat), shK k (n ^^^ c) = bitN k n c ^^^ c / 2 ^ k
  | 0, n, c => by simp [shK, bitN]
  | k + 1, n, c => by
    rw [shK, bitN, sh_xor, bit_is k, Nat.div_div_eq_div_mul, Nat.pow_succ, Nat.mul_comm 2]
theorem bit_8 (n c : Nat) (h : c < 256) : bitN 8 n c = shK 8 (n ^^^ c) := by
  rw [bit_is, show c / 2 ^ 8 = 0 by omega, Nat.xor_zero]
theorem shN_lt {n : Nat} (h : n < 4294967296) : shN n < 4294967296 := by
  unfold shN
  exact Nat.xor_lt_two_pow (n := 32) (by omega) (by split <;> omega)
end Go.Proofs.Ytnmkpekfkfckoaa
/- The reckoner of operations that lay or change blocks is sound. No program in sight. A state as trees; what operations make of it. No program in sight. Calls, reckoned. No program in sight. Rounds, reckoned. No program in sight. Regions, code, functions, reckoned. No program in sight. Code and functions, reckoned: the whole. No program in sight. Calls of functions of no arguments, reckoned. -/
namespace Go.Proofs.Ytnmkpekfkfckoaa.EV
noncomputable section
open Go.RowKit
abbrev Hp := T (Bool × B)
/-- What trees hold, as a state. -/
def lk (t : T V) (h : Hp) : Sf
  | .t i => match t.get i with
    | some v => some (.v v)
    | none => none
  | .b n => match h.get n with
    | some (_, b) => some (.b b)
    | none => none
  | .l n => match h.get n with
    | some (a, _) => some (.l a)
    | none => none
structure ES where
  t : T V
  h : Hp
  nx : Nat
  wl : List Nat
  fm : List Nat
/-- A block, written out. -/
def fcK : B → Option B
  | .m o l => match fcLs fcC l with
    | some r => some (.m o r)
    | none => none
  | .w o l => match fcLs fcX l with
    | some r => some (.w o r)
    | none => none
  | b => some b
/-- What becomes of the heap: the heap, the next name, who is written. -/
def applyH (h : Hp) (nx : Nat) (wl : List Nat) : Eff → Option (Hp × Nat × List Nat)
  | .no => some (h, nx, wl)
  | .new b => match fcK b, fcN (nx + 1) with
    | some b', some nx' => match b'.own, T.put 40 h nx (true, b') with
      | true, some h' => some (h', nx', nx :: wl)
      | _, _ => none
    | _, _ => none
  | .chg n b => match h.get n, fcK b with
    | some (true, _), some b' => match b'.own, T.put 40 h n (true, b') with
      | true, some h' => some (h', nx, n :: wl)
      | _, _ => none
    | _, _ => none
  | .steal n b => match h.get n, fcK b, fcN (nx + 1) with
    | some (_, b0), some b', some nx' => match b'.own, T.put 40 h n (false, b0) with
      | true, some h1 => match T.put 40 h1 nx (true, b') with
        | some h' => some (h', nx', nx :: n :: wl)
        | none => none
      | _, _ => none
    | _, _, _ => none
def ES.s (S : ES) : Sf := lk S.t S.h
end
end Go.Proofs.Ytnmkpekfkfckoaa.EV
namespace Go.Proofs.Ytnmkpekfkfckoaa.EV
noncomputable section
open Go.RowKit
inductive XT where
  | normal
  | ret
  | exit (k : Nat)
def XT.ex : XT → Exit
  | .normal => .normal
  | .ret => .ret
  | .exit k => .exit k
def inB (X : List Nat) (n : Nat) : Bool := X.any (Nat.beq n)
/-- Names hidden. -/
def maskT (h : Hp) : List Nat → Option Hp
  | [] => some h
  | n :: X => match h.get n with
    | some (_, b) => match T.put 40 h n (false, b) with
      | some h1 => maskT h1 X
      | none => none
    | none => none
def wsOf (h : Hp) : List Nat → Ws
  | [] => []
  | n :: l => match h.get n with
    | some (a, b) => (.l n, .l a) :: (.b n, .b b) :: wsOf h l
    | none => wsOf h l
end
end Go.Proofs.Ytnmkpekfkfckoaa.EV
