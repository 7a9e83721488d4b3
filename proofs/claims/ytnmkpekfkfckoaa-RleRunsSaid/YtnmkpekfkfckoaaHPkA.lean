/- Package pack: numbers as bytes: plain laws. -/
import Derived.Test.YtnmkpekfkfckoaaHEw7
namespace Go.Proofs.Ytnmkpekfkfckoaa
set_option linter.unusedSimpArgs false
set_option linter.unusedVariables false
open Go.RowKit EV
open SX (Wr Tv Qu Rm Sh Is)
open EW (Bt nums)
set_option maxRecDepth 20000
/-- Bytes. -/
abbrev By (l : List Int) : Prop := ∀ x ∈ l, 0 ≤ x ∧ x < 256
/-- A number's form. -/
def formN (n : Nat) : List Int := if n < 128 then [(n : Int)] else ((n % 128 + 128 : Nat) : Int) :: formN (n / 128)
  termination_by n
  decreasing_by omega
theorem formN_lo {n : Nat} (h : n < 128) : formN n = [(n : Int)] := by rw [formN, if_pos h]
theorem formN_hi {n : Nat} (h : 128 ≤ n) : formN n = ((n % 128 + 128 : Nat) : Int) :: formN (n / 128) := by rw [formN, if_neg (by omega)]
theorem formN_by (n : Nat) : By (formN n) := by
  induction n using Nat.strongRecOn with
  | _ n ih =>
    rcases Nat.lt_or_ge n 128 with h | h
    · rw [formN_lo h]; intro x hx
      simp only [List.mem_cons, List.not_mem_nil, or_false] at hx
      omega
    · rw [formN_hi h]; intro x hx
      rcases List.mem_cons.1 hx with rfl | hx
      · omega
      · exact ih (n / 128) (by omega) x hx
theorem formN_ne (n : Nat) : formN n ≠ [] := by
  rcases Nat.lt_or_ge n 128 with h | h
  · rw [formN_lo h]; simp
  · rw [formN_hi h]; simp
theorem formN_len {n : Nat} : ∀ k : Nat, n < 128 ^ (k + 1) → (formN n).length ≤ k + 1 := by
  intro k
  induction k generalizing n with
  | zero => intro h; rw [formN_lo (by simpa using h)]; simp
  | succ k ih =>
    intro h
    rcases Nat.lt_or_ge n 128 with h1 | h1
    · rw [formN_lo h1]; simp
    · rw [formN_hi h1, List.length_cons]
      have : n / 128 < 128 ^ (k + 1) := Nat.div_lt_of_lt_mul (by rw [Nat.pow_succ, Nat.mul_comm] at h; exact h)
      have := ih this; omega
theorem formN_10 {n : Nat} (h : n < 18446744073709551616) : (formN n).length ≤ 10 := formN_len 9 (by omega)
theorem bt_or (m : Nat) : Bt .u8 .or ((m : Int) % 256) 128 ((m % 128 + 128 : Nat) : Int) := by
  have key : ∀ r : Fin 256, IntKind.u8.wrap ((BitVec.ofInt 8 (r.1 : Int) ||| BitVec.ofInt 8 128).toNat : Int) = ((r.1 % 128 + 128 : Nat) : Int) := by decide +kernel
  have := key ⟨m % 256, by omega⟩
  refine ⟨?_⟩
  show some (Value.int .u8 (IntKind.u8.wrap ((BitVec.ofInt 8 _ ||| BitVec.ofInt 8 _).toNat : Int))) = _
  simp only at this
  rw [show ((m : Int) % 256) = ((m % 256 : Nat) : Int) by omega, this]
  congr 2
  omega
end Go.Proofs.Ytnmkpekfkfckoaa
