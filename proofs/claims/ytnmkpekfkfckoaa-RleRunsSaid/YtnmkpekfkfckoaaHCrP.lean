/- Sums of bytes, at once and bit by bit: plain laws of naturals. -/
import Derived.Test.YtnmkpekfkfckoaaHEw7
namespace Go.Proofs.Ytnmkpekfkfckoaa
open Go.RowKit
set_option maxRecDepth 20000
/-- One step of a sum. -/
def shN (n : Nat) : Nat := n / 2 ^^^ (if n % 2 = 1 then 3988292384 else 0)
theorem xor_div2 (a b : Nat) : (a ^^^ b) / 2 = a / 2 ^^^ b / 2 := by
  apply Nat.eq_of_testBit_eq
  intro i
  rw [Nat.testBit_xor, Nat.testBit_div_two, Nat.testBit_div_two, Nat.testBit_div_two, Nat.testBit_xor]
theorem xor_mod2 (a b : Nat) : (a ^^^ b) % 2 = (a ^^^ b % 2) % 2 := by
  have h : ∀ n : Nat, n % 2 = if n.testBit 0 then 1 else 0 := fun n => by
    rw [Nat.testBit_zero]; by_cases h : n % 2 = 1 <;> simp [h]; omega
  rw [h (a ^^^ b), h (a ^^^ b % 2), Nat.testBit_xor, Nat.testBit_xor]
  have : (b % 2).testBit 0 = b.testBit 0 := by rw [Nat.testBit_zero, Nat.testBit_zero, Nat.mod_mod]
  rw [this]
theorem sh_xor (n c : Nat) : shN (n ^^^ c) = shN (n ^^^ c % 2) ^^^ c / 2 := by
  unfold shN
  rw [xor_mod2 n c, xor_div2, xor_div2, show c % 2 / 2 = 0 by omega, Nat.xor_zero]
  rw [Nat.xor_assoc, Nat.xor_assoc, Nat.xor_comm (c / 2)]
/-- The document's way: bit by bit. -/
def bitN : Nat → Nat → Nat → Nat
  | 0, n, _ => n
  | k + 1, n, c => bitN k (shN (n ^^^ c % 2)) (c / 2)
/-- All steps. -/
def shK : Nat → Nat → Nat
  | 0, n => n
  | k + 1, n => shK k (shN n)
theorem bit_is : ∀ (k n c : Nat), shK k (n ^^^ c) = bitN k n c ^^^ c / 2 ^ k
  | 0, n, c => by simp [shK, bitN]
  | k + 1, n, c => by
    rw [shK, bitN, sh_xor, bit_is k, Nat.div_div_eq_div_mul, Nat.pow_succ, Nat.mul_comm 2]
theorem bit_8 (n c : Nat) (h : c < 256) : bitN 8 n c = shK 8 (n ^^^ c) := by
  rw [bit_is, show c / 2 ^ 8 = 0 by omega, Nat.xor_zero]
theorem shN_lt {n : Nat} (h : n < 4294967296) : shN n < 4294967296 := by
  unfold shN
  exact Nat.xor_lt_two_pow (n := 32) (by omega) (by split <;> omega)
end Go.Proofs.Ytnmkpekfkfckoaa
