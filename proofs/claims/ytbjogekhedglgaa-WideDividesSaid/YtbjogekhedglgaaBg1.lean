/- Numbers of up to 320 bits as lists of digits of 16 bits: what is read, put, compared. No program in sight. -/
import Derived.Test.YtbjogekhedglgaaEw6
namespace Go.Proofs.Ytbjogekhedglgaa
set_option linter.unusedSimpArgs false
set_option linter.unusedVariables false
open Go.RowKit EV
open SX (Is conjP eqs_iff)
def dg (n i : Nat) : Nat := n / 65536 ^ i % 65536
def setD (n k d : Nat) : Nat := n - dg n k * 65536 ^ k + d * 65536 ^ k
theorem pB (i : Nat) : 0 < 65536 ^ i := Nat.pow_pos (by decide)
theorem dg_lt (n i : Nat) : dg n i < 65536 := Nat.mod_lt _ (by decide)
theorem dg_zero {n i : Nat} (h : n < 65536 ^ i) : dg n i = 0 := by unfold dg; rw [Nat.div_eq_of_lt h]
theorem mod_succ (n i : Nat) : n % 65536 ^ (i + 1) = n % 65536 ^ i + 65536 ^ i * dg n i := Nat.mod_pow_succ
theorem dg_mod (n : Nat) {i k : Nat} (h : i < k) : dg (n % 65536 ^ k) i = dg n i := by
  unfold dg
  obtain ⟨m, rfl⟩ : ∃ m, k = i + (m + 1) := ⟨k - i - 1, by omega⟩
  rw [Nat.pow_add, Nat.mod_mul_right_div_self, Nat.pow_succ, Nat.mod_mul_left_mod]
theorem dg_ext {a b : Nat} : ∀ k, (∀ i, i < k → dg a i = dg b i) → a % 65536 ^ k = b % 65536 ^ k
  | 0, _ => by simp [Nat.mod_one]
  | k + 1, h => by rw [mod_succ, mod_succ, dg_ext k (fun i hi => h i (by omega)), h k (by omega)]
/-- n cut at a digit. -/
theorem dg_cut (n k : Nat) : n = n % 65536 ^ k + 65536 ^ k * dg n k + 65536 ^ (k + 1) * (n / 65536 ^ (k + 1)) := by
  rw [← mod_succ, Nat.mod_add_div]
theorem set_eq (n k d : Nat) : setD n k d = n % 65536 ^ k + 65536 ^ k * d + 65536 ^ (k + 1) * (n / 65536 ^ (k + 1)) := by
  unfold setD
  have h := dg_cut n k
  rw [Nat.mul_comm (dg n k), Nat.mul_comm d]
  generalize 65536 ^ k * dg n k = u at *
  omega
theorem div_of {a p m : Nat} (h : a < p) : (a + p * m) / p = m := by
  rw [Nat.add_mul_div_left _ _ (by omega), Nat.div_eq_of_lt h, Nat.zero_add]
theorem mod_of {a p m : Nat} (h : a < p) : (a + p * m) % p = a := by
  rw [Nat.add_mul_mod_self_left, Nat.mod_eq_of_lt h]
theorem set_mod (n k d : Nat) : setD n k d % 65536 ^ k = n % 65536 ^ k := by
  rw [set_eq, Nat.pow_succ, Nat.mul_assoc, Nat.add_assoc, ← Nat.mul_add, mod_of (Nat.mod_lt _ (pB k))]
theorem set_div {n k d : Nat} (hd : d < 65536) : setD n k d / 65536 ^ (k + 1) = n / 65536 ^ (k + 1) := by
  rw [set_eq, div_of]
  have : n % 65536 ^ k < 65536 ^ k := Nat.mod_lt _ (pB k)
  rw [Nat.pow_succ]
  calc n % 65536 ^ k + 65536 ^ k * d < 65536 ^ k + 65536 ^ k * d := by omega
    _ = 65536 ^ k * (d + 1) := by rw [Nat.mul_succ]; omega
    _ ≤ 65536 ^ k * 65536 := Nat.mul_le_mul_left _ (by omega)
theorem dg_set {n k d : Nat} (hd : d < 65536) (j : Nat) : dg (setD n k d) j = if j = k then d else dg n j := by
  by_cases h : j = k
  · subst h
    rw [if_pos rfl]
    unfold dg
    rw [set_eq, Nat.pow_succ, Nat.mul_assoc, Nat.add_assoc, ← Nat.mul_add, div_of (Nat.mod_lt _ (pB j)), Nat.add_mul_mod_self_left, Nat.mod_eq_of_lt hd]
  · rw [if_neg h]
    rcases Nat.lt_or_gt_of_ne h with h | h
    · rw [← dg_mod (setD n k d) h, set_mod, dg_mod n h]
    · unfold dg
      obtain ⟨m, rfl⟩ : ∃ m, j = k + 1 + m := ⟨j - k - 1, by omega⟩
      rw [Nat.pow_add, ← Nat.div_div_eq_div_mul, ← Nat.div_div_eq_div_mul, set_div hd]
theorem set_lt {n k d m : Nat} (hd : d < 65536) (hk : k < m) (hn : n < 65536 ^ m) : setD n k d < 65536 ^ m := by
  obtain ⟨l, rfl⟩ : ∃ l, m = k + 1 + l := ⟨m - k - 1, by omega⟩
  have h1 : setD n k d / 65536 ^ (k + 1) < 65536 ^ l := by
    rw [set_div hd]
    apply Nat.div_lt_of_lt_mul
    rwa [← Nat.pow_add]
  rw [Nat.pow_add]
  exact (Nat.div_lt_iff_lt_mul (pB _)).1 h1 |> fun h => by rwa [Nat.mul_comm] at h
theorem set_add (n k d : Nat) : setD n k d + dg n k * 65536 ^ k = n + d * 65536 ^ k := by
  have h := dg_cut n k
  unfold setD
  rw [Nat.mul_comm (dg n k)] at *
  generalize 65536 ^ k * dg n k = u at *
  omega
/-! sums -/
def carry (x y i : Nat) : Nat := (x % 65536 ^ i + y % 65536 ^ i) / 65536 ^ i
def suml (x y i : Nat) : Nat := (x % 65536 ^ i + y % 65536 ^ i) % 65536 ^ i
theorem sum_cut (x y i : Nat) : x % 65536 ^ (i + 1) + y % 65536 ^ (i + 1) = suml x y i + 65536 ^ i * (dg x i + dg y i + carry x y i) := by
  rw [mod_succ, mod_succ]
  have := Nat.mod_add_div (x % 65536 ^ i + y % 65536 ^ i) (65536 ^ i)
  unfold suml carry
  rw [Nat.mul_add, Nat.mul_add]
  omega
theorem carry_le (x y i : Nat) : carry x y i ≤ 1 := by
  unfold carry
  have h1 := Nat.mod_lt x (pB i)
  have h2 := Nat.mod_lt y (pB i)
  have : (x % 65536 ^ i + y % 65536 ^ i) / 65536 ^ i < 2 := (Nat.div_lt_iff_lt_mul (pB i)).2 (by omega)
  omega
theorem suml_lt (x y i : Nat) : suml x y i < 65536 ^ i := Nat.mod_lt _ (pB i)
theorem carry_succ (x y i : Nat) : carry x y (i + 1) = (dg x i + dg y i + carry x y i) / 65536 := by
  rw [carry, sum_cut, Nat.pow_succ, ← Nat.div_div_eq_div_mul, div_of (suml_lt x y i)]
theorem suml_succ (x y i : Nat) : suml x y (i + 1) = setD (suml x y i) i ((dg x i + dg y i + carry x y i) % 65536) := by
  unfold setD
  rw [dg_zero (suml_lt x y i), Nat.zero_mul, Nat.sub_zero, suml, sum_cut, Nat.pow_succ, Nat.mod_mul, div_of (suml_lt x y i), mod_of (suml_lt x y i), Nat.mul_comm (65536 ^ i)]
theorem suml_all (x y i : Nat) (h : x + y < 65536 ^ i) : suml x y i = x + y := by
  unfold suml; rw [Nat.mod_eq_of_lt (a := x) (by omega), Nat.mod_eq_of_lt (a := y) (by omega), Nat.mod_eq_of_lt h]
/-! differences -/
def borrow (x y i : Nat) : Nat := if x % 65536 ^ i < y % 65536 ^ i then 1 else 0
def difl (x y i : Nat) : Nat := x % 65536 ^ i + borrow x y i * 65536 ^ i - y % 65536 ^ i
theorem borrow_le (x y i : Nat) : borrow x y i ≤ 1 := by unfold borrow; split <;> omega
theorem difl_lt (x y i : Nat) : difl x y i < 65536 ^ i := by
  have h1 := Nat.mod_lt x (pB i)
  have h2 := Nat.mod_lt y (pB i)
  unfold difl borrow; split <;> omega
theorem dif_cut (x y i : Nat) : difl x y i + y % 65536 ^ i = x % 65536 ^ i + borrow x y i * 65536 ^ i := by
  have h1 := Nat.mod_lt x (pB i)
  have h2 := Nat.mod_lt y (pB i)
  unfold difl borrow; split <;> omega
theorem dif_step (x y i : Nat) : borrow x y (i + 1) = 1 - (dg x i + 65536 - dg y i - borrow x y i) / 65536 ∧ difl x y (i + 1) = setD (difl x y i) i ((dg x i + 65536 - dg y i - borrow x y i) % 65536) := by
  have h1 := dif_cut x y i
  have h2 := difl_lt x y i
  have h3 := dg_lt x i
  have h4 := dg_lt y i
  have h5 := borrow_le x y i
  have h6 := dif_cut x y (i + 1)
  have h7 := difl_lt x y (i + 1)
  have h8 := borrow_le x y (i + 1)
  unfold setD
  rw [dg_zero h2, Nat.zero_mul, Nat.sub_zero]
  rw [mod_succ, mod_succ, Nat.pow_succ] at h6
  rw [Nat.pow_succ] at h7
  generalize difl x y (i + 1) = D at *
  generalize borrow x y (i + 1) = b' at *
  generalize difl x y i = D0 at *
  generalize borrow x y i = b at *
  generalize x % 65536 ^ i = X at *
  generalize y % 65536 ^ i = Y at *
  generalize dg x i = dx at *
  generalize dg y i = dy at *
  have hp := pB i
  generalize 65536 ^ i = p at *
  -- D + Y + p dy = X + p dx + b' p B ; D0 + Y = X + b p
  obtain ⟨s, hs⟩ : ∃ s, s = dx + 65536 - dy - b := ⟨_, rfl⟩
  rw [← hs]
  have hs2 : s < 131072 := by omega
  have e : D + p * 65536 = D0 + p * s + b' * (p * 65536) := by
    have e1 : p * s + p * dy + p * b = p * dx + p * 65536 := by rw [← Nat.mul_add, ← Nat.mul_add, ← Nat.mul_add]; congr 1; omega
    rw [Nat.mul_comm b p] at h1
    omega
  have hb : b' = 0 ∨ b' = 1 := by omega
  have hsd : s = s % 65536 + 65536 * (s / 65536) := (Nat.mod_add_div _ _).symm
  have hsl := Nat.mod_lt s (show 65536 > 0 by decide)
  have hq : s / 65536 = 0 ∨ s / 65536 = 1 := by omega
  generalize s % 65536 = m at *
  generalize s / 65536 = q at *
  subst hsd
  have e2 : p * (m + 65536 * q) = p * m + p * 65536 * q := by rw [Nat.mul_add, Nat.mul_assoc]
  have e3 : p * m + p ≤ p * 65536 := by rw [← Nat.mul_succ]; exact Nat.mul_le_mul_left _ (by omega)
  rw [e2] at e
  rw [Nat.mul_comm m p]
  rcases hb with rfl | rfl <;> rcases hq with rfl | rfl <;> simp only [Nat.mul_zero, Nat.mul_one, Nat.zero_mul, Nat.one_mul, Nat.add_zero] at e ⊢ <;> clear h1 h6 e2 hs <;> refine ⟨?_, ?_⟩ <;> first | trivial | omega
theorem difl_all (x y i : Nat) (hx : x < 65536 ^ i) (h : y ≤ x) : difl x y i = x - y := by
  unfold difl borrow; rw [Nat.mod_eq_of_lt hx, Nat.mod_eq_of_lt (by omega), if_neg (by omega)]; omega
/-! less -/
theorem less_step (x y i : Nat) : x / 65536 ^ i = 65536 * (x / 65536 ^ (i + 1)) + dg x i := by
  unfold dg; rw [Nat.pow_succ, ← Nat.div_div_eq_div_mul]; exact (Nat.div_add_mod _ _).symm
theorem less_here {x y i : Nat} (h : x / 65536 ^ (i + 1) = y / 65536 ^ (i + 1)) (hd : dg x i < dg y i) : x < y := by
  rcases Nat.lt_or_ge x y with h1 | h1
  · exact h1
  · have := Nat.div_le_div_right (c := 65536 ^ i) h1
    rw [less_step x y i, less_step y y i] at this
    omega
/-! products -/
structure MulI (x y i j Z c : Nat) : Prop where
  eq : Z + c * 65536 ^ (i + j) = x % 65536 ^ i * y + dg x i * (y % 65536 ^ j) * 65536 ^ i
  lt : Z < 65536 ^ (i + 9)
  c : c < 65536
theorem mulI_next {x y i j Z c : Nat} (h : MulI x y i j Z c) (hj : j < 9) : MulI x y i (j + 1) (setD Z (i + j) ((dg Z (i + j) + dg x i * dg y j + c) % 65536)) ((dg Z (i + j) + dg x i * dg y j + c) / 65536) := by
  have h1 := dg_lt Z (i + j)
  have h2 := dg_lt x i
  have h3 := dg_lt y j
  have h4 : dg x i * dg y j ≤ 65535 * 65535 := Nat.mul_le_mul (by omega) (by omega)
  have h5 := h.c
  refine ⟨?_, set_lt (Nat.mod_lt _ (by decide)) (by omega) h.lt, by omega⟩
  have e := h.eq
  have hs := set_add Z (i + j) ((dg Z (i + j) + dg x i * dg y j + c) % 65536)
  show _ + _ * 65536 ^ (i + j + 1) = _
  rw [mod_succ y j, Nat.mul_add, Nat.add_mul, ← Nat.add_assoc (x % 65536 ^ i * y), ← e]
  have hd := Nat.mod_add_div (dg Z (i + j) + dg x i * dg y j + c) 65536
  have e2 : dg x i * (65536 ^ j * dg y j) * 65536 ^ i = (dg x i * dg y j) * 65536 ^ (i + j) := by
    rw [Nat.pow_add]; ac_rfl
  rw [e2, Nat.pow_succ, Nat.mul_left_comm _ (65536 ^ (i + j)) 65536]
  generalize setD Z (i + j) _ = Z' at *
  generalize dg x i * dg y j = m at *
  generalize 65536 ^ (i + j) = p at *
  generalize dg Z (i + j) = D at *
  have e3 : (D + m + c) * p = ((D + m + c) % 65536) * p + p * ((D + m + c) / 65536 * 65536) := by
    rw [Nat.mul_comm p, ← Nat.add_mul]; congr 1; omega
  rw [Nat.add_mul, Nat.add_mul] at e3
  omega
theorem mulI_row {x y i Z c : Nat} (h : MulI x y i 9 Z c) (hy : y < 65536 ^ 9) : setD Z (i + 9) c = x % 65536 ^ (i + 1) * y := by
  have e := h.eq
  have hs := set_add Z (i + 9) c
  rw [dg_zero h.lt, Nat.zero_mul, Nat.add_zero, e, Nat.mod_eq_of_lt hy] at hs
  rw [hs, mod_succ, Nat.add_mul]
  congr 1; ac_rfl
theorem mulI_first (x y i : Nat) (hy : y < 65536 ^ 9) : MulI x y i 0 (x % 65536 ^ i * y) 0 := by
  refine ⟨by simp [Nat.mod_one], ?_, by decide⟩
  rw [Nat.pow_add]
  have := Nat.mod_lt x (pB i)
  exact Nat.mul_lt_mul'' this hy
/-! bits -/
theorem bit_is (a i : Nat) : dg a (i / 16) / 2 ^ (i % 16) % 2 = a / 2 ^ i % 2 := by
  have h : (65536 : Nat) = 2 ^ 16 := by decide
  have e : a / 2 ^ i = a / 65536 ^ (i / 16) / 2 ^ (i % 16) := by
    rw [h, ← Nat.pow_mul, Nat.div_div_eq_div_mul, ← Nat.pow_add, Nat.div_add_mod]
  rw [e]
  unfold dg
  generalize a / 65536 ^ (i / 16) = n
  have hm : i % 16 < 16 := Nat.mod_lt _ (by decide)
  generalize i % 16 = m at *
  obtain ⟨k, hk⟩ : ∃ k, 16 = m + (k + 1) := ⟨15 - m, by omega⟩
  rw [h]
  rw [show (2:Nat) ^ 16 = 2 ^ m * 2 ^ (k + 1) from by rw [← Nat.pow_add, ← hk], Nat.mod_mul_right_div_self, Nat.pow_succ, Nat.mod_mul_left_mod]
/-- The state of a long division before the bit i. -/
def divR (a d i : Nat) : Nat := a / 2 ^ i % d
def divQ (a d i : Nat) : Nat := a / 2 ^ i / d
theorem div_bits (a i : Nat) : a / 2 ^ i = 2 * (a / 2 ^ (i + 1)) + a / 2 ^ i % 2 := by
  rw [Nat.pow_succ, ← Nat.div_div_eq_div_mul]; omega
theorem div_round {a d i : Nat} (hd : 0 < d) : 
    (2 * divR a d (i + 1) + a / 2 ^ i % 2 < d → divR a d i = 2 * divR a d (i + 1) + a / 2 ^ i % 2 ∧ divQ a d i = 2 * divQ a d (i + 1)) ∧
    (¬ 2 * divR a d (i + 1) + a / 2 ^ i % 2 < d → divR a d i = 2 * divR a d (i + 1) + a / 2 ^ i % 2 - d ∧ divQ a d i = 2 * divQ a d (i + 1) + 1) := by
  unfold divR divQ
  have hb := div_bits a i
  have hb2 : a / 2 ^ i % 2 < 2 := Nat.mod_lt _ (by decide)
  generalize a / 2 ^ i % 2 = b at *
  have h1 := Nat.mod_add_div (a / 2 ^ (i + 1)) d
  have h2 := Nat.mod_lt (a / 2 ^ (i + 1)) hd
  generalize a / 2 ^ (i + 1) % d = r at *
  generalize a / 2 ^ (i + 1) / d = q at *
  rw [hb, ← h1]
  have e : 2 * (r + d * q) + b = (2 * r + b) + d * (2 * q) := by rw [Nat.mul_add, Nat.mul_left_comm]; omega
  rw [e]
  constructor
  · intro h; exact ⟨mod_of h, div_of h⟩
  · intro h
    have e2 : 2 * r + b + d * (2 * q) = (2 * r + b - d) + d * (2 * q + 1) := by rw [Nat.mul_add, Nat.mul_one]; omega
    rw [e2]
    exact ⟨mod_of (by omega), div_of (by omega)⟩
theorem set_low {r b : Nat} (hb : b < 2) : setD (2 * r) 0 (dg (2 * r) 0 + b) = 2 * r + b := by
  have := set_add (2 * r) 0 (dg (2 * r) 0 + b)
  simp only [Nat.pow_zero, Nat.mul_one] at this; omega
theorem dg_low {r b : Nat} (hb : b < 2) : dg (2 * r) 0 + b < 65536 := by
  have := dg_lt (2 * r) 0
  have h2 : dg (2 * r) 0 % 2 = 0 := by unfold dg; simp only [Nat.pow_zero, Nat.div_one]; omega
  omega

/-! ### Lists of digits -/
def W20 : Nat := 65536 ^ 20
theorem W20_ge : 2 ^ 255 ≤ W20 := by decide
def dgs (n : Nat) : List Value := (List.range 20).map fun i => .int .u64 ((dg n i : Nat) : Int)
def big (b : Bool) (n : Nat) : List Value := .bool b :: dgs n
abbrev Bg (b : Bool) (n : Nat) : Value := .agg (big b n).toArray
theorem dgs_len (n : Nat) : (dgs n).length = 20 := by simp [dgs]
theorem big_len (b : Bool) (n : Nat) : (big b n).length = 21 := by simp [big, dgs_len]
theorem dgs_get (n : Nat) {i : Nat} (h : i < 20) : (dgs n)[i]? = some (.int .u64 ((dg n i : Nat) : Int)) := by
  unfold dgs; rw [List.getElem?_map, List.getElem?_range h]; rfl
theorem dgs_ext {n m : Nat} (h : ∀ i, i < 20 → dg n i = dg m i) : dgs n = dgs m := by
  unfold dgs; apply List.map_congr_left; intro i hi; rw [h i (List.mem_range.1 hi)]
theorem dgs_inj {n m : Nat} (h : dgs n = dgs m) : n % 65536 ^ 20 = m % 65536 ^ 20 := dg_ext 20 fun i hi => by
  have h1 := dgs_get n hi
  rw [h, dgs_get m hi] at h1
  simp only [Option.some.injEq, Value.int.injEq, true_and] at h1; omega
theorem dgs_mod {n m : Nat} (h : n % 65536 ^ 20 = m % 65536 ^ 20) : dgs n = dgs m := dgs_ext fun i hi => by
  rw [← dg_mod n hi, h, dg_mod m hi]
theorem dgs_put (n : Nat) {i d : Nat} (hi : i < 20) (hd : d < 65536) : putL i [.int .u64 (d : Int)] (dgs n) = dgs (setD n i d) := by
  apply List.ext_getElem?
  intro j
  rw [putL_get _ _ _ _ (by rw [dgs_len]; simp; omega)]
  by_cases hj : j < 20
  · rw [dgs_get n hj, dgs_get _ hj, dg_set hd]
    by_cases h : j = i
    · subst h; rw [if_pos ⟨Nat.le_refl _, by simp⟩, if_pos rfl]; simp
    · rw [if_neg (by simp; omega), if_neg h]
  · rw [if_neg (by simp; omega), List.getElem?_eq_none (by rw [dgs_len]; omega), List.getElem?_eq_none (by rw [dgs_len]; omega)]
theorem big_put (b : Bool) (n : Nat) {i : Nat} {d : Int} (h : i < 20 ∧ 0 ≤ d ∧ d < 65536) : putL (1 + i) [.int .u64 d] (big b n) = big b (setD n i d.toNat) := by
  rw [Nat.add_comm]
  have : d = ((d.toNat : Nat) : Int) := by omega
  show .bool b :: putL i [.int .u64 d] (dgs n) = _
  rw [this, dgs_put n h.1 (by omega)]; rfl
instance (b : Bool) (n : Nat) : EW.LenI (big b n) 21 := ⟨big_len b n⟩
instance (b : Bool) (n : Nat) : EW.RowV (big b n) 21 1 (fun _ => big b n) := ⟨by rw [big_len], fun j h => by
  obtain rfl : j = 0 := by omega
  rw [Nat.zero_mul, List.drop_zero, List.take_of_length_le (by rw [big_len]; exact Nat.le_refl _)]⟩
instance (b : Bool) (n i : Nat) : EW.GetC ((big b n).map C.v) (1 + i) (.v (.int .u64 ((dg n i : Nat) : Int))) (i < 20) := ⟨fun h => by
  rw [Nat.add_comm, List.getElem?_map]; show Option.map _ (dgs n)[i]? = _; rw [dgs_get n h]; rfl⟩
instance (b : Bool) (n : Nat) : EW.GetC ((big b n).map C.v) 1 (.v (.int .u64 ((dg n 0 : Nat) : Int))) True := ⟨fun _ => rfl⟩
instance (b : Bool) (n : Nat) : EW.GetC ((big b n).map C.v) 0 (.v (.bool b)) True := ⟨fun _ => rfl⟩
instance (b : Bool) (n i : Nat) (d : Int) : EW.PutA (1 + i) [.int .u64 d] (big b n) (big b (setD n i d.toNat)) (i < 20 ∧ 0 ≤ d ∧ d < 65536) := ⟨big_put b n⟩
instance (b : Bool) (n : Nat) (d : Int) : EW.PutA 1 [.int .u64 d] (big b n) (big b (setD n 0 d.toNat)) (0 ≤ d ∧ d < 65536) := ⟨fun h => big_put b n (i := 0) ⟨by omega, h⟩⟩
instance (b b' : Bool) (n : Nat) : EW.PutA 0 [.bool b'] (big b n) (big b' n) True := ⟨fun _ => rfl⟩
instance (b : Bool) (n : Nat) : EW.CutC ((big b n).map C.v) 1 20 ((dgs n).map C.v) := ⟨by
  show List.take 20 ((dgs n).map C.v) = _; exact List.take_of_length_le (by simp [dgs_len])⟩
instance (b : Bool) (n : Nat) : EW.CutC ((big b n).map C.v) 0 21 ((big b n).map C.v) := ⟨by
  rw [List.drop_zero]; exact List.take_of_length_le (by simp [big_len])⟩
theorem dgs_conj : ∀ (l : List Nat) (f g : Nat → Nat), conjP (l.map fun i => .int .u64 ((f i : Nat) : Int)) (l.map fun i => .int .u64 ((g i : Nat) : Int)) ↔ ∀ i ∈ l, f i = g i
  | [], f, g => by simp [conjP]
  | x :: l, f, g => by simp only [List.map_cons, conjP, dgs_conj l f g, List.mem_cons, forall_eq_or_imp, Int.ofNat_inj]
theorem dgs_cj (n m : Nat) : conjP (dgs n) (dgs m) ↔ n % 65536 ^ 20 = m % 65536 ^ 20 := by
  unfold dgs; rw [dgs_conj]
  constructor
  · intro h; exact dg_ext 20 fun i hi => h i (List.mem_range.2 hi)
  · intro h i hi; have hi := List.mem_range.1 hi; rw [← dg_mod n hi, h, dg_mod m hi]
theorem dgs_eqs {n m : Nat} (hn : n < W20) (hm : m < W20) : SX.eqs (dgs n) (dgs m) = decide (n = m) := by
  unfold W20 at hn hm
  rw [Bool.eq_iff_iff, eqs_iff, dgs_cj, decide_eq_true_eq, Nat.mod_eq_of_lt hn, Nat.mod_eq_of_lt hm]
theorem big_eqs {b c : Bool} {n m : Nat} (hn : n < W20) (hm : m < W20) : SX.eqs (big b n) (big c m) = decide (b = c ∧ n = m) := by
  unfold W20 at hn hm
  rw [Bool.eq_iff_iff, eqs_iff, decide_eq_true_eq]
  show b = c ∧ conjP (dgs n) (dgs m) ↔ _
  rw [dgs_cj, Nat.mod_eq_of_lt hn, Nat.mod_eq_of_lt hm]
theorem big_zero : ([.bool false, .int .u64 0, .int .u64 0, .int .u64 0, .int .u64 0, .int .u64 0, .int .u64 0, .int .u64 0, .int .u64 0, .int .u64 0, .int .u64 0, .int .u64 0, .int .u64 0, .int .u64 0, .int .u64 0, .int .u64 0, .int .u64 0, .int .u64 0, .int .u64 0, .int .u64 0, .int .u64 0] : List Value) = big false 0 := rfl
theorem grow (m i : Nat) : setD (m % 65536 ^ i) i (dg m i) = m % 65536 ^ (i + 1) := by
  unfold setD; rw [dg_zero (Nat.mod_lt _ (pB i)), Nat.zero_mul, Nat.sub_zero, mod_succ, Nat.mul_comm]
end Go.Proofs.Ytbjogekhedglgaa
