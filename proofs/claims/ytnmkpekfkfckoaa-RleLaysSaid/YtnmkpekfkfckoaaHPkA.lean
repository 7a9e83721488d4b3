/- Package pack: numbers as bytes: plain laws. -/
import Derived.Test.YtnmkpekfkfckoaaHEw7
namespace Go.Proofs.Ytnmkpekfkfckoaa
set_option linter.unusedSimpArgs false
set_option linter.unusedVariables false
open Go.RowKit EV
open SX (Wr Tv Qu Rm Sh Is)
open EW (Bt nums)
set_option maxRecDepth 20000
/-- Bytes. -/
abbrev By (l : List Int) : Prop := ∀ x ∈ l, 0 ≤ x ∧ x < 256
/-- A number's form. -/
def formN (n : Nat) : List Int := if n < 128 then [(n : Int)] else ((n % 128 + 128 : Nat) : Int) :: formN (n / 128)
  termination_by n
  decreasing_by omega
theorem formN_lo {n : Nat} (h : n < 128) : formN n = [(n : Int)] := by rw [formN, if_pos h]
theorem formN_hi {n : Nat} (h : 128 ≤ n) : formN n = ((n % 128 + 128 : Nat) : Int) :: formN (n / 128) := by rw [formN, if_neg (by omega)]
theorem formN_by (n : Nat) : By (formN n) := by
  induction n using Nat.strongRecOn with
  | _ n ih =>
    rcases Nat.lt_or_ge n 128 with h | h
    · rw [formN_lo h]; intro x hx
      simp only [List.mem_cons, List.not_mem_nil, or_false] at hx
      omega
    · rw [formN_hi h]; intro x hx
      rcases List.mem_cons.1 hx with rfl | hx
      · omega
      · exact ih (n / 128) (by omega) x hx
theorem formN_ne (n : Nat) : formN n ≠ [] := by
  rcases Nat.lt_or_ge n 128 with h | h
  · rw [formN_lo h]; simp
  · rw [formN_hi h]; simp
theorem formN_len {n : Nat} : ∀ k : Nat, n < 128 ^ (k + 1) → (formN n).length ≤ k + 1 := by
  intro k
  induction k generalizing n with
  | zero => intro h; rw [formN_lo (by simpa using h)]; simp
  | succ k ih =>
    intro h
    rcases Nat.lt_or_ge n 128 with h1 | h1
    · rw [formN_lo h1]; simp
    · rw [formN_hi h1, List.length_cons]
      have : n / 128 < 128 ^ (k + 1) := Nat.div_lt_of_lt_mul (by rw [Nat.pow_succ, Nat.mul_comm] at h; exact h)
      have := ih this; omega
theorem formN_10 {n : Nat} (h : n < 18446744073709551616) : (formN n).length ≤ 10 := formN_len 9 (by omega)
/-- The number that stands there, and how many bytes it has. -/
def numA : Nat → Nat → List Int → Option (Nat × Nat)
  | _, _, [] => none
  | i, a, c :: r => if (i = 9 ∧ 1 < c) ∨ 9 < i then none else if 128 ≤ c then numA (i + 1) (a + (c % 128).toNat * 128 ^ i) r else if c = 0 ∧ 0 < i then none else some (a + c.toNat * 128 ^ i, i + 1)
def num (l : List Int) : Option (Nat × Nat) := numA 0 0 l
theorem numA_form : ∀ (k i a n : Nat) (t : List Int), i + k = 9 → n < 128 ^ k * 2 → (0 < i → 0 < n) → numA i a (formN n ++ t) = some (a + n * 128 ^ i, i + (formN n).length)
  | 0, i, a, n, t, hi, hn, h0 => by
    have : n < 2 := by simpa using hn
    have h9 : i = 9 := by omega
    rw [formN_lo (by omega)]
    simp only [List.cons_append, List.nil_append, numA]
    rw [if_neg (by omega), if_neg (by omega), if_neg (by omega)]
    simp
  | k + 1, i, a, n, t, hi, hn, h0 => by
    rcases Nat.lt_or_ge n 128 with h | h
    · rw [formN_lo h]
      simp only [List.cons_append, List.nil_append, numA]
      rw [if_neg (by omega), if_neg (by omega), if_neg (by omega)]
      simp
    · rw [formN_hi h]
      simp only [List.cons_append, numA, List.length_cons]
      rw [if_neg (by omega), if_pos (by omega)]
      have e : (((n % 128 + 128 : Nat) : Int) % 128).toNat = n % 128 := by omega
      have hd : n / 128 < 128 ^ k * 2 := Nat.div_lt_of_lt_mul (by rw [Nat.pow_succ] at hn; rw [← Nat.mul_assoc, Nat.mul_comm 128]; exact hn)
      rw [e, numA_form k (i + 1) _ (n / 128) t (by omega) hd (by omega)]
      have e2 : a + n % 128 * 128 ^ i + n / 128 * 128 ^ (i + 1) = a + n * 128 ^ i := by
        rw [Nat.pow_succ, Nat.mul_comm (128 ^ i) 128, ← Nat.mul_assoc, Nat.add_assoc, ← Nat.add_mul]
        congr 2
        omega
      rw [e2]; congr 2; omega
/-- A form is read as its number. -/
theorem num_form (n : Nat) (t : List Int) (h : n < 18446744073709551616) : num (formN n ++ t) = some (n, (formN n).length) := by
  have := numA_form 9 0 0 n t rfl (by omega) (fun h => absurd h (by omega))
  simpa [num] using this
theorem numA_spec : ∀ (l : List Int) (i a n k : Nat), By l → i ≤ 9 → numA i a l = some (n, k) → ∃ m, n = a + m * 128 ^ i ∧ formN m = l.take (k - i) ∧ i < k ∧ k - i ≤ l.length ∧ (0 < i → 0 < m) ∧ m < 128 ^ (9 - i) * 2
  | [], i, a, n, k, _, _, h => by simp [numA] at h
  | c :: r, i, a, n, k, hb, hi, h => by
    have hc := hb c (by simp)
    simp only [numA] at h
    split at h
    · cases h
    · next h1 =>
      split at h
      · next h2 =>
        have h9 : i < 9 := by omega
        obtain ⟨m, e1, e2, e3, e4, e5, e6⟩ := numA_spec r (i + 1) _ n k (fun x hx => hb x (by simp [hx])) (by omega) h
        have hm := e5 (by omega)
        have ec : ((c % 128).toNat + m * 128) / 128 = m := by omega
        have ec2 : ((c % 128).toNat + m * 128) % 128 = (c % 128).toNat := by omega
        refine ⟨(c % 128).toNat + m * 128, ?_, ?_, by omega, by simp only [List.length_cons]; omega, fun _ => by omega, ?_⟩
        · rw [e1, Nat.pow_succ, Nat.add_mul, Nat.mul_assoc, Nat.mul_comm 128, Nat.add_assoc]
        · rw [formN_hi (by omega), ec, ec2, e2, show k - i = (k - (i + 1)) + 1 by omega, List.take_succ_cons]
          congr 1
          omega
        · have e7 : 128 ^ (9 - i) * 2 = 128 * (128 ^ (9 - (i + 1)) * 2) := by
            rw [show 9 - i = (9 - (i + 1)) + 1 by omega, Nat.pow_succ, Nat.mul_comm _ 128, Nat.mul_assoc]
          rw [e7]; omega
      · next h2 =>
        split at h
        · cases h
        · next h3 =>
          simp only [Option.some.injEq, Prod.mk.injEq] at h
          obtain ⟨rfl, rfl⟩ := h
          refine ⟨c.toNat, rfl, ?_, by omega, by simp only [List.length_cons]; omega, fun _ => by omega, ?_⟩
          · rw [formN_lo (by omega), show i + 1 - i = 1 by omega]
            simp only [List.take_succ_cons, List.take_zero]
            congr 1; omega
          · rcases Nat.lt_or_ge i 9 with h9 | h9
            · have : 128 ≤ 128 ^ (9 - i) := by
                rw [show 9 - i = (8 - i) + 1 by omega, Nat.pow_succ]
                have := Nat.pow_pos (n := 8 - i) (show 0 < 128 by omega)
                omega
              omega
            · have : i = 9 := by omega
              subst this; simp; omega
/-- What is read is a form. -/
theorem num_spec {l : List Int} {n k : Nat} (hb : By l) (h : num l = some (n, k)) : formN n = l.take k ∧ 0 < k ∧ k ≤ l.length ∧ k ≤ 10 ∧ n < 18446744073709551616 := by
  obtain ⟨m, e1, e2, e3, e4, _, e6⟩ := numA_spec l 0 0 n k hb (by omega) h
  have : n = m := by rw [e1]; simp
  subst this
  have hn : n < 18446744073709551616 := by simpa using e6
  have h10 := formN_10 hn
  rw [e2, Nat.sub_zero, List.length_take] at h10
  exact ⟨by simpa using e2, e3, by simpa using e4, by omega, hn⟩
theorem bt_or (m : Nat) : Bt .u8 .or ((m : Int) % 256) 128 ((m % 128 + 128 : Nat) : Int) := by
  have key : ∀ r : Fin 256, IntKind.u8.wrap ((BitVec.ofInt 8 (r.1 : Int) ||| BitVec.ofInt 8 128).toNat : Int) = ((r.1 % 128 + 128 : Nat) : Int) := by decide +kernel
  have := key ⟨m % 256, by omega⟩
  refine ⟨?_⟩
  show some (Value.int .u8 (IntKind.u8.wrap ((BitVec.ofInt 8 _ ||| BitVec.ofInt 8 _).toNat : Int))) = _
  simp only at this
  rw [show ((m : Int) % 256) = ((m % 256 : Nat) : Int) by omega, this]
  congr 2
  omega
theorem bt_low (c : Int) (h0 : 0 ≤ c) (h1 : c < 256) : Bt .u8 .and c 127 (c % 128) := by
  have key : ∀ r : Fin 256, IntKind.u8.wrap ((BitVec.ofInt 8 (r.1 : Int) &&& BitVec.ofInt 8 127).toNat : Int) = (r.1 : Int) % 128 := by decide +kernel
  have := key ⟨c.toNat, by omega⟩
  refine ⟨?_⟩
  show some (Value.int .u8 (IntKind.u8.wrap ((BitVec.ofInt 8 _ &&& BitVec.ofInt 8 _).toNat : Int))) = _
  simp only [show ((c.toNat : Nat) : Int) = c by omega] at this
  rw [this]
theorem ofInt64 {a : Int} (h0 : 0 ≤ a) (h1 : a < 18446744073709551616) : (BitVec.ofInt 64 a).toNat = a.toNat := by
  simp only [BitVec.toNat_ofInt]
  omega
theorem wrap64 {a : Nat} (h : a < 18446744073709551616) : IntKind.u64.wrap (a : Int) = a := (Wr.u64 (n := a) (by omega)).eq
theorem bt_join (a b i : Nat) (ha : a < 2 ^ i) (h : 2 ^ i * b + a < 18446744073709551616) : Bt .u64 .or (a : Int) ((2 ^ i * b : Nat) : Int) ((a + 2 ^ i * b : Nat) : Int) := by
  refine ⟨?_⟩
  show some (Value.int .u64 (IntKind.u64.wrap ((BitVec.ofInt 64 _ ||| BitVec.ofInt 64 _).toNat : Int))) = _
  rw [BitVec.toNat_or, ofInt64 (by omega) (by omega), ofInt64 (by omega) (by omega), Int.toNat_natCast, Int.toNat_natCast, Nat.or_comm, ← Nat.two_pow_add_eq_or_of_lt ha, wrap64 h, Nat.add_comm]
end Go.Proofs.Ytnmkpekfkfckoaa
