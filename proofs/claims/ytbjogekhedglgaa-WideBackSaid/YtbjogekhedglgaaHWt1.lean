/- Texts of numbers: plain laws. -/
import Derived.Test.YtbjogekhedglgaaHWd4
import Derived.Test.YtbjogekhedglgaaHEw9
namespace Go.Proofs.Ytbjogekhedglgaa
set_option linter.unusedSimpArgs false
set_option linter.unusedVariables false
open Go.RowKit EV
open SX (Wr Tv Qu Rm Sh Is)
open EW (Bt nums)
set_option maxRecDepth 20000
/-- Bytes. -/
abbrev By (l : List Int) : Prop := ∀ x ∈ l, 0 ≤ x ∧ x < 256
def U (l : List Int) : List UInt8 := l.map fun x => UInt8.ofNat x.toNat
theorem text_nums : ∀ {l : List Int}, By l → nums .u8 l = (U l).map u8V
  | [], _ => rfl
  | x :: l, h => by
    have h1 := text_nums (l := l) (fun y hy => h y (by simp [hy]))
    have h2 := h x (by simp)
    have h3 : Value.int .u8 x = u8V (UInt8.ofNat x.toNat) := by
      unfold u8V
      rw [UInt8.toNat_ofNat']
      congr 1
      omega
    simp only [nums, List.map_cons, U] at h1 ⊢
    rw [h1, h3]
theorem U_len (l : List Int) : (U l).length = l.length := by simp [U]
theorem U_inj : ∀ {l m : List Int}, By l → By m → U l = U m → l = m
  | [], [], _, _, _ => rfl
  | [], _ :: _, _, _, h => by simp [U] at h
  | _ :: _, [], _, _, h => by simp [U] at h
  | x :: l, y :: m, hl, hm, h => by
    simp only [U, List.map_cons, List.cons.injEq] at h
    have hx := hl x (by simp)
    have hy := hm y (by simp)
    have e := congrArg UInt8.toNat h.1
    rw [UInt8.toNat_ofNat', UInt8.toNat_ofNat'] at e
    rw [show x = y by omega, U_inj (fun z hz => hl z (by simp [hz])) (fun z hz => hm z (by simp [hz])) h.2]
/-- The last digits of a number. -/
def ld (n : Nat) : Nat → List Int
  | 0 => []
  | k + 1 => ((48 + n / 10 ^ k % 10 : Nat) : Int) :: ld n k
theorem ld_len (n : Nat) : ∀ k, (ld n k).length = k
  | 0 => rfl
  | k + 1 => by rw [ld, List.length_cons, ld_len n k]
/-- Digits. -/
abbrev Dg (l : List Int) : Prop := ∀ x ∈ l, 48 ≤ x ∧ x ≤ 57
theorem ld_dg (n : Nat) : ∀ k, Dg (ld n k)
  | 0 => fun x hx => by cases hx
  | k + 1 => fun x hx => by
    rcases List.mem_cons.1 hx with rfl | hx
    · omega
    · exact ld_dg n k x hx
theorem dg_by {l : List Int} (h : Dg l) : By l := fun x hx => by have := h x hx; omega
/-- How many digits a number has. -/
def nd (n : Nat) : Nat := if n < 10 then 1 else nd (n / 10) + 1
  termination_by n
  decreasing_by omega
theorem nd_lo {n : Nat} (h : n < 10) : nd n = 1 := by rw [nd, if_pos h]
theorem nd_hi {n : Nat} (h : 10 ≤ n) : nd n = nd (n / 10) + 1 := by rw [nd, if_neg (by omega)]
theorem nd_pos (n : Nat) : 0 < nd n := by
  rcases Nat.lt_or_ge n 10 with h | h
  · rw [nd_lo h]; omega
  · rw [nd_hi h]; omega
theorem nd_lt (n : Nat) : n < 10 ^ nd n := by
  induction n using Nat.strongRecOn with
  | _ n ih =>
    rcases Nat.lt_or_ge n 10 with h | h
    · rw [nd_lo h]; omega
    · rw [nd_hi h, Nat.pow_succ]
      have := ih (n / 10) (by omega)
      omega
theorem nd_le {n : Nat} : ∀ k, n < 10 ^ (k + 1) → nd n ≤ k + 1 := by
  intro k
  induction k generalizing n with
  | zero => intro h; rw [nd_lo (by simpa using h)]; omega
  | succ k ih =>
    intro h
    rcases Nat.lt_or_ge n 10 with h1 | h1
    · rw [nd_lo h1]; omega
    · rw [nd_hi h1]
      have : n / 10 < 10 ^ (k + 1) := Nat.div_lt_of_lt_mul (by rw [Nat.pow_succ, Nat.mul_comm] at h; exact h)
      have := ih this
      omega
theorem nd_end {n k : Nat} (h : k < nd n) (h0 : n / 10 ^ (k + 1) = 0) : k + 1 = nd n := by
  have : n < 10 ^ (k + 1) := by
    rcases Nat.div_eq_zero_iff.1 h0 with h | h
    · exact absurd h (Nat.ne_of_gt (Nat.pow_pos (by omega)))
    · exact h
  have := nd_le k this
  omega
theorem nd_more {n k : Nat} (h0 : n / 10 ^ k ≠ 0) : k < nd n := by
  rcases Nat.lt_or_ge k (nd n) with h | h
  · exact h
  · have h1 := Nat.pow_le_pow_right (show 10 > 0 by omega) h
    have h2 := nd_lt n
    exact absurd (Nat.div_eq_of_lt (by omega)) h0
theorem nd_past {n k : Nat} (h : nd n ≤ k) : n / 10 ^ k = 0 := by
  have h1 := Nat.pow_le_pow_right (show 10 > 0 by omega) h
  have h2 := nd_lt n
  exact Nat.div_eq_of_lt (by omega)
theorem div10 (n k : Nat) : n / 10 ^ (k + 1) = n / 10 ^ k / 10 := by rw [Nat.pow_succ, Nat.div_div_eq_div_mul]
def dgt (n : Nat) : List Int := ld n (nd n)
/-- A number's text. -/
def tz (z : Int) : List Int := if z < 0 then 45 :: dgt z.natAbs else dgt z.natAbs
theorem tz_neg {z : Int} (h : z < 0) : tz z = 45 :: dgt z.natAbs := if_pos h
theorem tz_pos {z : Int} (h : ¬ z < 0) : tz z = dgt z.natAbs := if_neg h
theorem tz_by (z : Int) : By (tz z) := by
  have := dg_by (ld_dg z.natAbs (nd z.natAbs))
  unfold tz dgt
  split
  · intro x hx
    rcases List.mem_cons.1 hx with rfl | hx
    · omega
    · exact this x hx
  · exact this
/-- The number of digits. -/
def valZ (l : List Int) (a : Int) : Int := l.foldl (fun a c => a * 10 + (c - 48)) a
theorem valZ_cons (c : Int) (l : List Int) (a : Int) : valZ (c :: l) a = valZ l (a * 10 + (c - 48)) := rfl
theorem val_ld (n : Nat) : ∀ (k : Nat) (a : Int), valZ (ld n k) a = a * ((10 ^ k : Nat) : Int) + ((n % 10 ^ k : Nat) : Int)
  | 0, a => by simp [ld, valZ, Nat.mod_one]
  | k + 1, a => by
    rw [ld, valZ_cons, val_ld n k, Nat.mod_pow_succ, Nat.pow_succ]
    generalize 10 ^ k = p
    generalize n % p = r
    generalize n / p % 10 = q
    simp only [Int.natCast_mul, Int.natCast_add]
    grind
theorem val_dgt (n : Nat) : valZ (dgt n) 0 = n := by
  rw [dgt, val_ld, Nat.mod_eq_of_lt (nd_lt n)]; omega
def pv (l : List Int) (i : Nat) : Int := valZ (l.take i) 0
theorem pv_zero (l : List Int) : pv l 0 = 0 := by simp [pv, valZ]
theorem pv_succ {l : List Int} {i : Nat} (h : i < l.length) : pv l (i + 1) = pv l i * 10 + (l.getD i 0 - 48) := by
  have e : l.take (i + 1) = l.take i ++ [l[i]] := by rw [List.take_add_one, List.getElem?_eq_getElem h]; rfl
  have g : l.getD i 0 = l[i] := by rw [List.getD_eq_getElem?_getD, List.getElem?_eq_getElem h]; rfl
  rw [pv, pv, e, g, valZ, List.foldl_append]; rfl
theorem pv_all (l : List Int) : pv l l.length = valZ l 0 := by rw [pv, List.take_length]
theorem pv_bnd {l : List Int} (h : Dg l) : ∀ i, i ≤ l.length → 0 ≤ pv l i ∧ pv l i < ((10 ^ i : Nat) : Int)
  | 0, _ => by rw [pv_zero]; simp
  | i + 1, hi => by
    have h1 := pv_bnd h i (by omega)
    have h2 : 48 ≤ l.getD i 0 ∧ l.getD i 0 ≤ 57 := by
      rw [List.getD_eq_getElem?_getD, List.getElem?_eq_getElem (by omega : i < l.length)]
      exact h _ (List.getElem_mem _)
    rw [pv_succ (by omega), Nat.pow_succ]
    omega
theorem nd_39 {z : Int} (h : In128 z) : nd z.natAbs ≤ 39 := by
  refine nd_le 38 ?_
  unfold In128 at h
  omega
theorem w128_nn {n : Int} (h : In128 n) : w128 n = n := by unfold In128 at h; unfold w128; omega
theorem w128_add (a b : Int) : w128 (w128 a + b) = w128 (a + b) := by unfold w128; omega
theorem w128_mul10 (a : Int) : w128 (w128 a * 10) = w128 (a * 10) := by unfold w128; omega
theorem w128_ng (a : Int) : w128 (-w128 a) = w128 (-a) := by unfold w128; omega
end Go.Proofs.Ytbjogekhedglgaa
