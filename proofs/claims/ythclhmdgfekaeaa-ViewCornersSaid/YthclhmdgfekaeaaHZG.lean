/- Numbers of up to 320 bits as lists of digits of 16 bits: what is read, put, compared. No program in sight. The document's numbers: of 64 bits, sums, differences, which is less. The document's numbers: sums, the other sign, products, powers of 2, which is less, quotients. The document's numbers: which is less, of api.Wide, as api.Wide. The document's numbers: quotients. -/
import Derived.Test.YthclhmdgfekaeaaHZE
import Derived.Test.YthclhmdgfekaeaaRows
namespace Go.Proofs.Ythclhmdgfekaeaa
set_option linter.unusedSimpArgs false
set_option linter.unusedVariables false
open Go.RowKit EV
open SX (Is conjP eqs_iff)
def dg (n i : Nat) : Nat := n / 65536 ^ i % 65536
def setD (n k d : Nat) : Nat := n - dg n k * 65536 ^ k + d * 65536 ^ k
theorem pB (i : Nat) : 0 < 65536 ^ i := Nat.pow_pos (by decide)
theorem dg_lt (n i : Nat) : dg n i < 65536 := Nat.mod_lt _ (by decide)
theorem dg_zero {n i : Nat} (h : n < 65536 ^ i) : dg n i = 0 := by unfold dg; rw [Nat.div_eq_of_lt h]
theorem mod_succ (n i : Nat) : n % 65536 ^ (i + 1) = n % 65536 ^ i + 65536 ^ i * dg n i := Nat.mod_pow_succ
theorem dg_mod (n : Nat) {i k : Nat} (h : i < k) : dg (n % 65536 ^ k) i = dg n i := by
  unfold dg
  obtain ⟨m, rfl⟩ : ∃ m, k = i + (m + 1) := ⟨k - i - 1, by omega⟩
  rw [Nat.pow_add, Nat.mod_mul_right_div_self, Nat.pow_succ, Nat.mod_mul_left_mod]
theorem dg_ext {a b : Nat} : ∀ k, (∀ i, i < k → dg a i = dg b i) → a % 65536 ^ k = b % 65536 ^ k
  | 0, _ => by simp [Nat.mod_one]
  | k + 1, h => by rw [mod_succ, mod_succ, dg_ext k (fun i hi => h i (by omega)), h k (by omega)]
/-- n cut at a digit. -/
theorem dg_cut (n k : Nat) : n = n % 65536 ^ k + 65536 ^ k * dg n k + 65536 ^ (k + 1) * (n / 65536 ^ (k + 1)) := by
  rw [← mod_succ, Nat.mod_add_div]
theorem set_eq (n k d : Nat) : setD n k d = n % 65536 ^ k + 65536 ^ k * d + 65536 ^ (k + 1) * (n / 65536 ^ (k + 1)) := by
  unfold setD
  have h := dg_cut n k
  rw [Nat.mul_comm (dg n k), Nat.mul_comm d]
  generalize 65536 ^ k * dg n k = u at *
  omega
theorem div_of {a p m : Nat} (h : a < p) : (a + p * m) / p = m := by
  rw [Nat.add_mul_div_left _ _ (by omega), Nat.div_eq_of_lt h, Nat.zero_add]
theorem mod_of {a p m : Nat} (h : a < p) : (a + p * m) % p = a := by
  rw [Nat.add_mul_mod_self_left, Nat.mod_eq_of_lt h]
theorem set_mod (n k d : Nat) : setD n k d % 65536 ^ k = n % 65536 ^ k := by
  rw [set_eq, Nat.pow_succ, Nat.mul_assoc, Nat.add_assoc, ← Nat.mul_add, mod_of (Nat.mod_lt _ (pB k))]
theorem set_div {n k d : Nat} (hd : d < 65536) : setD n k d / 65536 ^ (k + 1) = n / 65536 ^ (k + 1) := by
  rw [set_eq, div_of]
  have : n % 65536 ^ k < 65536 ^ k := Nat.mod_lt _ (pB k)
  rw [Nat.pow_succ]
  calc n % 65536 ^ k + 65536 ^ k * d < 65536 ^ k + 65536 ^ k * d := by omega
    _ = 65536 ^ k * (d + 1) := by rw [Nat.mul_succ]; omega
    _ ≤ 65536 ^ k * 65536 := Nat.mul_le_mul_left _ (by omega)
theorem dg_set {n k d : Nat} (hd : d < 65536) (j : Nat) : dg (setD n k d) j = if j = k then d else dg n j := by
  by_cases h : j = k
  · subst h
    rw [if_pos rfl]
    unfold dg
    rw [set_eq, Nat.pow_succ, Nat.mul_assoc, Nat.add_assoc, ← Nat.mul_add, div_of (Nat.mod_lt _ (pB j)), Nat.add_mul_mod_self_left, Nat.mod_eq_of_lt hd]
  · rw [if_neg h]
    rcases Nat.lt_or_gt_of_ne h with h | h
    · rw [← dg_mod (setD n k d) h, set_mod, dg_mod n h]
    · unfold dg
      obtain ⟨m, rfl⟩ : ∃ m, j = k + 1 + m := ⟨j - k - 1, by omega⟩
      rw [Nat.pow_add, ← Nat.div_div_eq_div_mul, ← Nat.div_div_eq_div_mul, set_div hd]
theorem set_lt {n k d m : Nat} (hd : d < 65536) (hk : k < m) (hn : n < 65536 ^ m) : setD n k d < 65536 ^ m := by
  obtain ⟨l, rfl⟩ : ∃ l, m = k + 1 + l := ⟨m - k - 1, by omega⟩
  have h1 : setD n k d / 65536 ^ (k + 1) < 65536 ^ l := by
    rw [set_div hd]
    apply Nat.div_lt_of_lt_mul
    rwa [← Nat.pow_add]
  rw [Nat.pow_add]
  exact (Nat.div_lt_iff_lt_mul (pB _)).1 h1 |> fun h => by rwa [Nat.mul_comm] at h
theorem set_add (n k d : Nat) : setD n k d + dg n k * 65536 ^ k = n + d * 65536 ^ k := by
  have h := dg_cut n k
  unfold setD
  rw [Nat.mul_comm (dg n k)] at *
  generalize 65536 ^ k * dg n k = u at *
  omega
def carry (x y i : Nat) : Nat := (x % 65536 ^ i + y % 65536 ^ i) / 65536 ^ i
def suml (x y i : Nat) : Nat := (x % 65536 ^ i + y % 65536 ^ i) % 65536 ^ i
theorem sum_cut (x y i : Nat) : x % 65536 ^ (i + 1) + y % 65536 ^ (i + 1) = suml x y i + 65536 ^ i * (dg x i + dg y i + carry x y i) := by
  rw [mod_succ, mod_succ]
  have := Nat.mod_add_div (x % 65536 ^ i + y % 65536 ^ i) (65536 ^ i)
  unfold suml carry
  rw [Nat.mul_add, Nat.mul_add]
  omega
theorem carry_le (x y i : Nat) : carry x y i ≤ 1 := by
  unfold carry
  have h1 := Nat.mod_lt x (pB i)
  have h2 := Nat.mod_lt y (pB i)
  have : (x % 65536 ^ i + y % 65536 ^ i) / 65536 ^ i < 2 := (Nat.div_lt_iff_lt_mul (pB i)).2 (by omega)
  omega
theorem suml_lt (x y i : Nat) : suml x y i < 65536 ^ i := Nat.mod_lt _ (pB i)
theorem carry_succ (x y i : Nat) : carry x y (i + 1) = (dg x i + dg y i + carry x y i) / 65536 := by
  rw [carry, sum_cut, Nat.pow_succ, ← Nat.div_div_eq_div_mul, div_of (suml_lt x y i)]
theorem suml_succ (x y i : Nat) : suml x y (i + 1) = setD (suml x y i) i ((dg x i + dg y i + carry x y i) % 65536) := by
  unfold setD
  rw [dg_zero (suml_lt x y i), Nat.zero_mul, Nat.sub_zero, suml, sum_cut, Nat.pow_succ, Nat.mod_mul, div_of (suml_lt x y i), mod_of (suml_lt x y i), Nat.mul_comm (65536 ^ i)]
theorem suml_all (x y i : Nat) (h : x + y < 65536 ^ i) : suml x y i = x + y := by
  unfold suml; rw [Nat.mod_eq_of_lt (a := x) (by omega), Nat.mod_eq_of_lt (a := y) (by omega), Nat.mod_eq_of_lt h]
def borrow (x y i : Nat) : Nat := if x % 65536 ^ i < y % 65536 ^ i then 1 else 0
def difl (x y i : Nat) : Nat := x % 65536 ^ i + borrow x y i * 65536 ^ i - y % 65536 ^ i
theorem borrow_le (x y i : Nat) : borrow x y i ≤ 1 := by unfold borrow; split <;> omega
theorem difl_lt (x y i : Nat) : difl x y i < 65536 ^ i := by
  have h1 := Nat.mod_lt x (pB i)
  have h2 := Nat.mod_lt y (pB i)
  unfold difl borrow; split <;> omega
theorem dif_cut (x y i : Nat) : difl x y i + y % 65536 ^ i = x % 65536 ^ i + borrow x y i * 65536 ^ i := by
  have h1 := Nat.mod_lt x (pB i)
  have h2 := Nat.mod_lt y (pB i)
  unfold difl borrow; split <;> omega
theorem dif_step (x y i : Nat) : borrow x y (i + 1) = 1 - (dg x i + 65536 - dg y i - borrow x y i) / 65536 ∧ difl x y (i + 1) = setD (difl x y i) i ((dg x i + 65536 - dg y i - borrow x y i) % 65536) := by
  have h1 := dif_cut x y i
  have h2 := difl_lt x y i
  have h3 := dg_lt x i
  have h4 := dg_lt y i
  have h5 := borrow_le x y i
  have h6 := dif_cut x y (i + 1)
  have h7 := difl_lt x y (i + 1)
  have h8 := borrow_le x y (i + 1)
  unfold setD
  rw [dg_zero h2, Nat.zero_mul, Nat.sub_zero]
  rw [mod_succ, mod_succ, Nat.pow_succ] at h6
  rw [Nat.pow_succ] at h7
  generalize difl x y (i + 1) = D at *
  generalize borrow x y (i + 1) = b' at *
  generalize difl x y i = D0 at *
  generalize borrow x y i = b at *
  generalize x % 65536 ^ i = X at *
  generalize y % 65536 ^ i = Y at *
  generalize dg x i = dx at *
  generalize dg y i = dy at *
  have hp := pB i
  generalize 65536 ^ i = p at *
  -- D + Y + p dy = X + p dx + b' p B ; D0 + Y = X + b p
  obtain ⟨s, hs⟩ : ∃ s, s = dx + 65536 - dy - b := ⟨_, rfl⟩
  rw [← hs]
  have hs2 : s < 131072 := by omega
  have e : D + p * 65536 = D0 + p * s + b' * (p * 65536) := by
    have e1 : p * s + p * dy + p * b = p * dx + p * 65536 := by rw [← Nat.mul_add, ← Nat.mul_add, ← Nat.mul_add]; congr 1; omega
    rw [Nat.mul_comm b p] at h1
    omega
  have hb : b' = 0 ∨ b' = 1 := by omega
  have hsd : s = s % 65536 + 65536 * (s / 65536) := (Nat.mod_add_div _ _).symm
  have hsl := Nat.mod_lt s (show 65536 > 0 by decide)
  have hq : s / 65536 = 0 ∨ s / 65536 = 1 := by omega
  generalize s % 65536 = m at *
  generalize s / 65536 = q at *
  subst hsd
  have e2 : p * (m + 65536 * q) = p * m + p * 65536 * q := by rw [Nat.mul_add, Nat.mul_assoc]
  have e3 : p * m + p ≤ p * 65536 := by rw [← Nat.mul_succ]; exact Nat.mul_le_mul_left _ (by omega)
  rw [e2] at e
  rw [Nat.mul_comm m p]
  rcases hb with rfl | rfl <;> rcases hq with rfl | rfl <;> simp only [Nat.mul_zero, Nat.mul_one, Nat.zero_mul, Nat.one_mul, Nat.add_zero] at e ⊢ <;> clear h1 h6 e2 hs <;> refine ⟨?_, ?_⟩ <;> first | trivial | omega
theorem difl_all (x y i : Nat) (hx : x < 65536 ^ i) (h : y ≤ x) : difl x y i = x - y := by
  unfold difl borrow; rw [Nat.mod_eq_of_lt hx, Nat.mod_eq_of_lt (by omega), if_neg (by omega)]; omega
theorem less_step (x y i : Nat) : x / 65536 ^ i = 65536 * (x / 65536 ^ (i + 1)) + dg x i := by
  unfold dg; rw [Nat.pow_succ, ← Nat.div_div_eq_div_mul]; exact (Nat.div_add_mod _ _).symm
theorem less_here {x y i : Nat} (h : x / 65536 ^ (i + 1) = y / 65536 ^ (i + 1)) (hd : dg x i < dg y i) : x < y := by
  rcases Nat.lt_or_ge x y with h1 | h1
  · exact h1
  · have := Nat.div_le_div_right (c := 65536 ^ i) h1
    rw [less_step x y i, less_step y y i] at this
    omega
structure MulI (x y i j Z c : Nat) : Prop where
  eq : Z + c * 65536 ^ (i + j) = x % 65536 ^ i * y + dg x i * (y % 65536 ^ j) * 65536 ^ i
  lt : Z < 65536 ^ (i + 9)
  c : c < 65536
theorem mulI_next {x y i j Z c : Nat} (h : MulI x y i j Z c) (hj : j < 9) : MulI x y i (j + 1) (setD Z (i + j) ((dg Z (i + j) + dg x i * dg y j + c) % 65536)) ((dg Z (i + j) + dg x i * dg y j + c) / 65536) := by
  have h1 := dg_lt Z (i + j)
  have h2 := dg_lt x i
  have h3 := dg_lt y j
  have h4 : dg x i * dg y j ≤ 65535 * 65535 := Nat.mul_le_mul (by omega) (by omega)
  have h5 := h.c
  refine ⟨?_, set_lt (Nat.mod_lt _ (by decide)) (by omega) h.lt, by omega⟩
  have e := h.eq
  have hs := set_add Z (i + j) ((dg Z (i + j) + dg x i * dg y j + c) % 65536)
  show _ + _ * 65536 ^ (i + j + 1) = _
  rw [mod_succ y j, Nat.mul_add, Nat.add_mul, ← Nat.add_assoc (x % 65536 ^ i * y), ← e]
  have hd := Nat.mod_add_div (dg Z (i + j) + dg x i * dg y j + c) 65536
  have e2 : dg x i * (65536 ^ j * dg y j) * 65536 ^ i = (dg x i * dg y j) * 65536 ^ (i + j) := by
    rw [Nat.pow_add]; ac_rfl
  rw [e2, Nat.pow_succ, Nat.mul_left_comm _ (65536 ^ (i + j)) 65536]
  generalize setD Z (i + j) _ = Z' at *
  generalize dg x i * dg y j = m at *
  generalize 65536 ^ (i + j) = p at *
  generalize dg Z (i + j) = D at *
  have e3 : (D + m + c) * p = ((D + m + c) % 65536) * p + p * ((D + m + c) / 65536 * 65536) := by
    rw [Nat.mul_comm p, ← Nat.add_mul]; congr 1; omega
  rw [Nat.add_mul, Nat.add_mul] at e3
  omega
theorem mulI_row {x y i Z c : Nat} (h : MulI x y i 9 Z c) (hy : y < 65536 ^ 9) : setD Z (i + 9) c = x % 65536 ^ (i + 1) * y := by
  have e := h.eq
  have hs := set_add Z (i + 9) c
  rw [dg_zero h.lt, Nat.zero_mul, Nat.add_zero, e, Nat.mod_eq_of_lt hy] at hs
  rw [hs, mod_succ, Nat.add_mul]
  congr 1; ac_rfl
theorem mulI_first (x y i : Nat) (hy : y < 65536 ^ 9) : MulI x y i 0 (x % 65536 ^ i * y) 0 := by
  refine ⟨by simp [Nat.mod_one], ?_, by decide⟩
  rw [Nat.pow_add]
  have := Nat.mod_lt x (pB i)
  exact Nat.mul_lt_mul'' this hy
theorem bit_is (a i : Nat) : dg a (i / 16) / 2 ^ (i % 16) % 2 = a / 2 ^ i % 2 := by
  have h : (65536 : Nat) = 2 ^ 16 := by decide
  have e : a / 2 ^ i = a / 65536 ^ (i / 16) / 2 ^ (i % 16) := by
    rw [h, ← Nat.pow_mul, Nat.div_div_eq_div_mul, ← Nat.pow_add, Nat.div_add_mod]
  rw [e]
  unfold dg
  generalize a / 65536 ^ (i / 16) = n
  have hm : i % 16 < 16 := Nat.mod_lt _ (by decide)
  generalize i % 16 = m at *
  obtain ⟨k, hk⟩ : ∃ k, 16 = m + (k + 1) := ⟨15 - m, by omega⟩
  rw [h]
  rw [show (2:Nat) ^ 16 = 2 ^ m * 2 ^ (k + 1) from by rw [← Nat.pow_add, ← hk], Nat.mod_mul_right_div_self, Nat.pow_succ, Nat.mod_mul_left_mod]
/-- The state of a long division before the bit i. -/
def divR (a d i : Nat) : Nat := a / 2 ^ i % d
def divQ (a d i : Nat) : Nat := a / 2 ^ i / d
theorem div_bits (a i : Nat) : a / 2 ^ i = 2 * (a / 2 ^ (i + 1)) + a / 2 ^ i % 2 := by
  rw [Nat.pow_succ, ← Nat.div_div_eq_div_mul]; omega
theorem div_round {a d i : Nat} (hd : 0 < d) : 
    (2 * divR a d (i + 1) + a / 2 ^ i % 2 < d → divR a d i = 2 * divR a d (i + 1) + a / 2 ^ i % 2 ∧ divQ a d i = 2 * divQ a d (i + 1)) ∧
    (¬ 2 * divR a d (i + 1) + a / 2 ^ i % 2 < d → divR a d i = 2 * divR a d (i + 1) + a / 2 ^ i % 2 - d ∧ divQ a d i = 2 * divQ a d (i + 1) + 1) := by
  unfold divR divQ
  have hb := div_bits a i
  have hb2 : a / 2 ^ i % 2 < 2 := Nat.mod_lt _ (by decide)
  generalize a / 2 ^ i % 2 = b at *
  have h1 := Nat.mod_add_div (a / 2 ^ (i + 1)) d
  have h2 := Nat.mod_lt (a / 2 ^ (i + 1)) hd
  generalize a / 2 ^ (i + 1) % d = r at *
  generalize a / 2 ^ (i + 1) / d = q at *
  rw [hb, ← h1]
  have e : 2 * (r + d * q) + b = (2 * r + b) + d * (2 * q) := by rw [Nat.mul_add, Nat.mul_left_comm]; omega
  rw [e]
  constructor
  · intro h; exact ⟨mod_of h, div_of h⟩
  · intro h
    have e2 : 2 * r + b + d * (2 * q) = (2 * r + b - d) + d * (2 * q + 1) := by rw [Nat.mul_add, Nat.mul_one]; omega
    rw [e2]
    exact ⟨mod_of (by omega), div_of (by omega)⟩
def W20 : Nat := 65536 ^ 20
def dgs (n : Nat) : List Value := (List.range 20).map fun i => .int .u64 ((dg n i : Nat) : Int)
def big (b : Bool) (n : Nat) : List Value := .bool b :: dgs n
abbrev Bg (b : Bool) (n : Nat) : Value := .agg (big b n).toArray
theorem dgs_len (n : Nat) : (dgs n).length = 20 := by simp [dgs]
theorem big_len (b : Bool) (n : Nat) : (big b n).length = 21 := by simp [big, dgs_len]
theorem dgs_get (n : Nat) {i : Nat} (h : i < 20) : (dgs n)[i]? = some (.int .u64 ((dg n i : Nat) : Int)) := by
  unfold dgs; rw [List.getElem?_map, List.getElem?_range h]; rfl
theorem dgs_put (n : Nat) {i d : Nat} (hi : i < 20) (hd : d < 65536) : putL i [.int .u64 (d : Int)] (dgs n) = dgs (setD n i d) := by
  apply List.ext_getElem?
  intro j
  rw [putL_get _ _ _ _ (by rw [dgs_len]; simp; omega)]
  by_cases hj : j < 20
  · rw [dgs_get n hj, dgs_get _ hj, dg_set hd]
    by_cases h : j = i
    · subst h; rw [if_pos ⟨Nat.le_refl _, by simp⟩, if_pos rfl]; simp
    · rw [if_neg (by simp; omega), if_neg h]
  · rw [if_neg (by simp; omega), List.getElem?_eq_none (by rw [dgs_len]; omega), List.getElem?_eq_none (by rw [dgs_len]; omega)]
theorem big_put (b : Bool) (n : Nat) {i : Nat} {d : Int} (h : i < 20 ∧ 0 ≤ d ∧ d < 65536) : putL (1 + i) [.int .u64 d] (big b n) = big b (setD n i d.toNat) := by
  rw [Nat.add_comm]
  have : d = ((d.toNat : Nat) : Int) := by omega
  show .bool b :: putL i [.int .u64 d] (dgs n) = _
  rw [this, dgs_put n h.1 (by omega)]; rfl
instance (b : Bool) (n : Nat) : EW.LenI (big b n) 21 := ⟨big_len b n⟩
instance (b : Bool) (n i : Nat) : EW.GetC ((big b n).map C.v) (1 + i) (.v (.int .u64 ((dg n i : Nat) : Int))) (i < 20) := ⟨fun h => by
  rw [Nat.add_comm, List.getElem?_map]; show Option.map _ (dgs n)[i]? = _; rw [dgs_get n h]; rfl⟩
instance (b : Bool) (n : Nat) : EW.GetC ((big b n).map C.v) 1 (.v (.int .u64 ((dg n 0 : Nat) : Int))) True := ⟨fun _ => rfl⟩
instance (b : Bool) (n : Nat) : EW.GetC ((big b n).map C.v) 0 (.v (.bool b)) True := ⟨fun _ => rfl⟩
instance (b : Bool) (n i : Nat) (d : Int) : EW.PutA (1 + i) [.int .u64 d] (big b n) (big b (setD n i d.toNat)) (i < 20 ∧ 0 ≤ d ∧ d < 65536) := ⟨big_put b n⟩
instance (b : Bool) (n : Nat) (d : Int) : EW.PutA 1 [.int .u64 d] (big b n) (big b (setD n 0 d.toNat)) (0 ≤ d ∧ d < 65536) := ⟨fun h => big_put b n (i := 0) ⟨by omega, h⟩⟩
instance (b b' : Bool) (n : Nat) : EW.PutA 0 [.bool b'] (big b n) (big b' n) True := ⟨fun _ => rfl⟩
instance (b : Bool) (n : Nat) : EW.CutC ((big b n).map C.v) 1 20 ((dgs n).map C.v) := ⟨by
  show List.take 20 ((dgs n).map C.v) = _; exact List.take_of_length_le (by simp [dgs_len])⟩
instance (b : Bool) (n : Nat) : EW.CutC ((big b n).map C.v) 0 21 ((big b n).map C.v) := ⟨by
  rw [List.drop_zero]; exact List.take_of_length_le (by simp [big_len])⟩
theorem dgs_conj : ∀ (l : List Nat) (f g : Nat → Nat), conjP (l.map fun i => .int .u64 ((f i : Nat) : Int)) (l.map fun i => .int .u64 ((g i : Nat) : Int)) ↔ ∀ i ∈ l, f i = g i
  | [], f, g => by simp [conjP]
  | x :: l, f, g => by simp only [List.map_cons, conjP, dgs_conj l f g, List.mem_cons, forall_eq_or_imp, Int.ofNat_inj]
theorem dgs_cj (n m : Nat) : conjP (dgs n) (dgs m) ↔ n % 65536 ^ 20 = m % 65536 ^ 20 := by
  unfold dgs; rw [dgs_conj]
  constructor
  · intro h; exact dg_ext 20 fun i hi => h i (List.mem_range.2 hi)
  · intro h i hi; have hi := List.mem_range.1 hi; rw [← dg_mod n hi, h, dg_mod m hi]
theorem dgs_eqs {n m : Nat} (hn : n < W20) (hm : m < W20) : SX.eqs (dgs n) (dgs m) = decide (n = m) := by
  unfold W20 at hn hm
  rw [Bool.eq_iff_iff, eqs_iff, dgs_cj, decide_eq_true_eq, Nat.mod_eq_of_lt hn, Nat.mod_eq_of_lt hm]
theorem grow (m i : Nat) : setD (m % 65536 ^ i) i (dg m i) = m % 65536 ^ (i + 1) := by
  unfold setD; rw [dg_zero (Nat.mod_lt _ (pB i)), Nat.zero_mul, Nat.sub_zero, mod_succ, Nat.mul_comm]
end Go.Proofs.Ythclhmdgfekaeaa
namespace Go.Proofs.Ythclhmdgfekaeaa
set_option linter.unusedSimpArgs false
set_option linter.unusedVariables false
open Go.RowKit EV
open SX (Wr Tv Qu Rm Sh Is conjP eqs_iff eqs_false)
open EW (PlL PlT PlV PlVs LfV Mm Bt Opn GV)
set_option maxRecDepth 20000
theorem rnone (b : Bool) (n : Nat) (w : World) (h : n < W20) : Calls Try.prog 59 #[Bg b n] w fun e w' => e = .returned (.bool (decide (n = 0))) ∧ Below w.heap.size w w' := by
  refine EW.eEnter Try.func59 rfl Try.ntmps59 ?_
  all_goals try (refine EW.nm ?_)
  all_goals try ((first | refine EW.eRegL (id := 0) ?_ | refine EW.eReg (id := 0) ?_); refine EW.eBox ?_; refine EW.eAssign ?_; refine EW.eEnd ?_; (try refine EW.nm ?_))
  all_goals try ((first | refine EW.eRegL (id := 1) ?_ | refine EW.eReg (id := 1) ?_); refine EW.eFieldAddr (k := 20) ?_; refine EW.eLoadA (k := 20) ?_; refine EW.eBuild (place := fun i => some (i * 1, 1)) ?_; refine EW.eEqlA ?_; refine EW.eAssign ?_; refine EW.eEnd ?_; (try refine EW.nm ?_))
  all_goals try (with_reducible refine EW.parkK ?_)
  all_goals try (refine EW.Park.mk ?_)
  all_goals (refine EW.eLeaveP ?_; intro w' hW; refine ⟨?_, hW⟩)
  all_goals
    refine congrArg (fun b => Ending.returned (.bool b)) ?_
    exact dgs_eqs (m := 0) h (by decide)
def up (m i : Nat) : Nat := m / 65536 ^ i
theorem up_succ (m i : Nat) : up m (i + 1) = up m i / 65536 := by
  unfold up; rw [Nat.pow_succ, ← Nat.div_div_eq_div_mul]
theorem up_zero (m : Nat) : up m 0 = m := by unfold up; rw [Nat.pow_zero, Nat.div_one]
theorem of_q (m i : Nat) : ((up m i : Nat) : Int) / 65536 = ((up m (i + 1) : Nat) : Int) := by rw [up_succ]; omega
theorem of_z (b : Bool) (m i : Nat) : big b (setD (m % 65536 ^ i) i (((up m i : Nat) : Int) % 65536).toNat) = big b (m % 65536 ^ (i + 1)) := by
  rw [← grow]; congr 2
theorem up_le (m i : Nat) : up m i ≤ m := Nat.div_le_self _ _
theorem rof (n : Int) (w : World) (h0 : -9223372036854775808 ≤ n) (h1 : n ≤ 9223372036854775807) : Calls Try.prog 46 #[.int .i64 n] w fun e w' => e = .returned (Bg (decide (n < 0)) n.natAbs) ∧ Below w.heap.size w w' := by
  obtain ⟨m, hm⟩ : ∃ m, n.natAbs = m := ⟨_, rfl⟩
  rw [hm]
  refine EW.eEnter Try.func46 rfl Try.ntmps46 ?_
  all_goals try (refine EW.nm ?_)
  all_goals try ((first | refine EW.eRegL (id := 0) ?_ | refine EW.eReg (id := 0) ?_); refine EW.eAlloc ?_; refine EW.eEnd ?_; (try refine EW.nm ?_))
  all_goals try ((first | refine EW.eRegL (id := 1) ?_ | refine EW.eReg (id := 1) ?_); refine EW.eMove ?_; refine EW.eLss ?_; refine EW.eBuild (place := fun i => [(0, 1), (1, 20)][i]?) ?_; refine EW.eAlloc ?_; (first | refine EW.eStoreW (k := 21) ?_ | refine EW.eStore (k := 21) ?_); refine EW.eEnd ?_; (try refine EW.nm ?_))
  all_goals try ((first | refine EW.eRegL (id := 2) ?_ | refine EW.eReg (id := 2) ?_); refine EW.eMove ?_; refine EW.eConv ?_; refine EW.eAssign ?_; refine EW.eEnd ?_; (try refine EW.nm ?_))
  all_goals try ((first | refine EW.eRegL (id := 3) ?_ | refine EW.eReg (id := 3) ?_); refine EW.eMove ?_; refine EW.eLss ?_; refine EW.eEnd ?_; (try refine EW.nm ?_))
  all_goals try (first | refine EW.eYes (x := Operand.tmp 12) ?_ | refine EW.eNo (x := Operand.tmp 12) ?_ | (refine EW.eCond (x := Operand.tmp 12) ?_ ?_ <;> (intro hb hb'; (try dsimp only at hb'); (try (exfalso; first | omega | with_reducible exact absurd rfl hb')))))
  all_goals try (refine EW.nm ?_)
  all_goals try ((first | refine EW.eRegL (id := 4) ?_ | refine EW.eReg (id := 4) ?_); refine EW.eMove ?_; refine EW.eSub ?_; refine EW.eAdd ?_; refine EW.eAssign ?_; refine EW.eEnd ?_; (try refine EW.nm ?_))
  all_goals try ((first | refine EW.eRegL (id := 5) ?_ | refine EW.eReg (id := 5) ?_); refine EW.eAssign ?_; refine EW.eEnd ?_; (try refine EW.nm ?_))
  all_goals (refine EW.eToW 20 true (big (decide (n < 0)) 0) ?_)
  all_goals first | (fail_if_success (refine EW.eUnroll 1 ?_)) | (refine EW.eLoopD [4, 5, 16, 17, 18, 19, 20, 21, 22, 23, 24, 25, 26] 1000000 (fun j : {i : Nat // i ≤ 4} => [(.t 5, .v (.c (.v (.int .i64 (j.1 : Int))))), (.t 4, .v (.c (.v (.int .u64 ((up m j.1 : Nat) : Int))))), (.b 20, .b (.w true (big (decide (n < 0)) (m % 65536 ^ j.1))))]) (fun j => 4 - j.1) (⟨0, by omega⟩) (by ((repeat (first | exact EW.subW.nil | refine EW.subW.cons rfl ?_ | refine EW.subW.conv rfl ?_ (by first | exact EW.kvI (of_q _ _) | exact EW.kvW (of_z _ _ _) | exact EW.kvI (by rw [up_zero]; omega) | exact EW.kvW (by rw [Nat.pow_zero, Nat.mod_one])) | refine EW.subW.conv rfl ?_)); (first | done | fail))) ?_; rintro hcl6 ⟨i, hi⟩; (try dsimp only))
  all_goals try (refine EW.nm ?_)
  all_goals try ((first | refine EW.eRegL (id := 6) ?_ | refine EW.eReg (id := 6) ?_); refine EW.eMove ?_; refine EW.eLss ?_; refine EW.eEnd ?_; (try refine EW.nm ?_))
  all_goals try (first | refine EW.eYes (x := Operand.tmp 17) ?_ | refine EW.eNo (x := Operand.tmp 17) ?_ | (refine EW.eCond (x := Operand.tmp 17) ?_ ?_ <;> (intro hb hb'; (try dsimp only at hb'); (try (exfalso; first | omega | with_reducible exact absurd rfl hb')))))
  all_goals try (refine EW.nm ?_)
  all_goals (try (have hup := up_le m i))
  all_goals try ((first | refine EW.eRegL (id := 8) ?_ | refine EW.eReg (id := 8) ?_); refine EW.eMove ?_; refine EW.eMove ?_; refine EW.eRem ?_; refine EW.eFieldAddr (k := 20) ?_; refine EW.eIndexAddr (z := 1) ?_; (first | refine EW.eStoreW (k := 1) ?_ | refine EW.eStore (k := 1) ?_); refine EW.eEnd ?_; (try refine EW.nm ?_))
  all_goals try ((first | refine EW.eRegL (id := 9) ?_ | refine EW.eReg (id := 9) ?_); refine EW.eMove ?_; refine EW.eQuo ?_; refine EW.eAssign ?_; refine EW.eEnd ?_; (try refine EW.nm ?_))
  all_goals try ((first | refine EW.eRegL (id := 7) ?_ | refine EW.eReg (id := 7) ?_); refine EW.eMove ?_; refine EW.eAdd ?_; refine EW.eAssign ?_; refine EW.eEnd ?_; (try refine EW.nm ?_))
  all_goals first | (fail_if_success (with_reducible refine EW.isLater ?_)) | (refine EW.eLaterD (⟨i + 1, by omega⟩) (by dsimp only; omega) (by ((repeat (first | exact EW.subW.nil | refine EW.subW.cons rfl ?_ | refine EW.subW.conv rfl ?_ (by first | exact EW.kvI (of_q _ _) | exact EW.kvW (of_z _ _ _) | exact EW.kvI (by rw [up_zero]; omega) | exact EW.kvW (by rw [Nat.pow_zero, Nat.mod_one])) | refine EW.subW.conv rfl ?_)); (first | done | fail))) hcl6)
  all_goals try (refine EW.nm ?_)
  all_goals try ((first | refine EW.eRegL (id := 10) ?_ | refine EW.eReg (id := 10) ?_); refine EW.eLoadA (k := 21) ?_; (first | refine EW.eStoreW (k := 21) ?_ | refine EW.eStore (k := 21) ?_); refine EW.eEnd ?_; (try refine EW.nm ?_))
  all_goals try (with_reducible refine EW.parkK ?_)
  all_goals try (refine EW.Park.mk ?_)
  all_goals (refine EW.eLeaveP ?_; intro w' hW; refine ⟨?_, hW⟩)
  all_goals (obtain rfl : i = 4 := by omega)
  all_goals (rw [Nat.mod_eq_of_lt (by omega)])
theorem more_c (x y i : Nat) : (((dg x i : Nat) : Int) + ((dg y i : Nat) : Int) + ((carry x y i : Nat) : Int)) / 65536 = ((carry x y (i + 1) : Nat) : Int) := by rw [carry_succ]; omega
theorem more_z (x y i : Nat) : big false (setD (suml x y i) i ((((dg x i : Nat) : Int) + ((dg y i : Nat) : Int) + ((carry x y i : Nat) : Int)) % 65536).toNat) = big false (suml x y (i + 1)) := by
  rw [suml_succ]; congr 2
theorem more_c0 (x y : Nat) : (0 : Int) = ((carry x y 0 : Nat) : Int) := by simp [carry, Nat.mod_one]
theorem more_z0 (x y : Nat) : big false 0 = big false (suml x y 0) := by simp [suml, Nat.mod_one]
theorem rmore (b b' : Bool) (x y : Nat) (w : World) : Calls Try.prog 60 #[Bg b x, Bg b' y] w fun e w' => e = .returned (Bg false (suml x y 20)) ∧ Below w.heap.size w w' := by
  refine EW.eEnter Try.func60 rfl Try.ntmps60 ?_
  all_goals try (refine EW.nm ?_)
  all_goals try ((first | refine EW.eRegL (id := 0) ?_ | refine EW.eReg (id := 0) ?_); refine EW.eBox ?_; refine EW.eBox ?_; refine EW.eAlloc ?_; refine EW.eEnd ?_; (try refine EW.nm ?_))
  all_goals try ((first | refine EW.eRegL (id := 1) ?_ | refine EW.eReg (id := 1) ?_); refine EW.eAlloc ?_; refine EW.eEnd ?_; (try refine EW.nm ?_))
  all_goals (refine EW.eToW 40 true (big false 0) ?_)
  all_goals try ((first | refine EW.eRegL (id := 2) ?_ | refine EW.eReg (id := 2) ?_); refine EW.eAssign ?_; refine EW.eEnd ?_; (try refine EW.nm ?_))
  all_goals try ((first | refine EW.eRegL (id := 3) ?_ | refine EW.eReg (id := 3) ?_); refine EW.eAssign ?_; refine EW.eEnd ?_; (try refine EW.nm ?_))
  all_goals first | (fail_if_success (refine EW.eUnroll 1 ?_)) | (refine EW.eLoopD [6, 7, 8, 9, 10, 11, 12, 13, 14, 15, 16, 17, 18, 19, 20, 21, 22, 23, 24, 25, 26, 27, 28, 29, 30] 1000000 (fun j : {i : Nat // i ≤ 20} => [(.t 7, .v (.c (.v (.int .i64 (j.1 : Int))))), (.t 6, .v (.c (.v (.int .u64 ((carry x y j.1 : Nat) : Int))))), (.b 40, .b (.w true (big false (suml x y j.1))))]) (fun j => 20 - j.1) (⟨0, by omega⟩) (by ((repeat (first | exact EW.subW.nil | refine EW.subW.cons rfl ?_ | refine EW.subW.conv rfl ?_ (by first | exact EW.kvI (more_c _ _ _) | exact EW.kvW (more_z _ _ _) | exact EW.kvI (more_c0 _ _) | exact EW.kvW (more_z0 _ _)) | refine EW.subW.conv rfl ?_)); (first | done | fail))) ?_; rintro hcl4 ⟨i, hi⟩; (try dsimp only))
  all_goals try (refine EW.nm ?_)
  all_goals try ((first | refine EW.eRegL (id := 4) ?_ | refine EW.eReg (id := 4) ?_); refine EW.eMove ?_; refine EW.eLss ?_; refine EW.eEnd ?_; (try refine EW.nm ?_))
  all_goals try (first | refine EW.eYes (x := Operand.tmp 10) ?_ | refine EW.eNo (x := Operand.tmp 10) ?_ | (refine EW.eCond (x := Operand.tmp 10) ?_ ?_ <;> (intro hb hb'; (try dsimp only at hb'); (try (exfalso; first | omega | with_reducible exact absurd rfl hb')))))
  all_goals try (refine EW.nm ?_)
  all_goals (try (have hdx := dg_lt x i; have hdy := dg_lt y i; have hdc := carry_le x y i))
  all_goals try ((first | refine EW.eRegL (id := 6) ?_ | refine EW.eReg (id := 6) ?_); refine EW.eMove ?_; refine EW.eFieldAddr (k := 20) ?_; refine EW.eIndexAddr (z := 1) ?_; refine EW.eLoad1 ?_; refine EW.eMove ?_; refine EW.eFieldAddr (k := 20) ?_; refine EW.eIndexAddr (z := 1) ?_; refine EW.eLoad1 ?_; refine EW.eAdd ?_; refine EW.eMove ?_; refine EW.eAdd ?_; refine EW.eAssign ?_; refine EW.eDraw ?_; (try refine EW.nm ?_))
  all_goals try ((first | refine EW.eRegL (id := 7) ?_ | refine EW.eReg (id := 7) ?_); refine EW.eMove ?_; refine EW.eMove ?_; refine EW.eRem ?_; refine EW.eFieldAddr (k := 20) ?_; refine EW.eIndexAddr (z := 1) ?_; (first | refine EW.eStoreW (k := 1) ?_ | refine EW.eStore (k := 1) ?_); refine EW.eEnd ?_; (try refine EW.nm ?_))
  all_goals try ((first | refine EW.eRegL (id := 8) ?_ | refine EW.eReg (id := 8) ?_); refine EW.eMove ?_; refine EW.eQuo ?_; refine EW.eAssign ?_; refine EW.eEnd ?_; (try refine EW.nm ?_))
  all_goals try ((first | refine EW.eRegL (id := 5) ?_ | refine EW.eReg (id := 5) ?_); refine EW.eMove ?_; refine EW.eAdd ?_; refine EW.eAssign ?_; refine EW.eEnd ?_; (try refine EW.nm ?_))
  all_goals first | (fail_if_success (with_reducible refine EW.isLater ?_)) | (refine EW.eLaterD (⟨i + 1, by omega⟩) (by dsimp only; omega) (by ((repeat (first | exact EW.subW.nil | refine EW.subW.cons rfl ?_ | refine EW.subW.conv rfl ?_ (by first | exact EW.kvI (more_c _ _ _) | exact EW.kvW (more_z _ _ _) | exact EW.kvI (more_c0 _ _) | exact EW.kvW (more_z0 _ _)) | refine EW.subW.conv rfl ?_)); (first | done | fail))) hcl4)
  all_goals try (refine EW.nm ?_)
  all_goals try ((first | refine EW.eRegL (id := 9) ?_ | refine EW.eReg (id := 9) ?_); refine EW.eLoadA (k := 21) ?_; (first | refine EW.eStoreW (k := 21) ?_ | refine EW.eStore (k := 21) ?_); refine EW.eEnd ?_; (try refine EW.nm ?_))
  all_goals try (with_reducible refine EW.parkK ?_)
  all_goals try (refine EW.Park.mk ?_)
  all_goals (refine EW.eLeaveP ?_; intro w' hW; refine ⟨?_, hW⟩)
  all_goals (obtain rfl : i = 20 := by omega)
  all_goals rfl
theorem away_c (x y i : Nat) : 1 - (((dg x i : Nat) : Int) + 65536 - ((dg y i : Nat) : Int) - ((borrow x y i : Nat) : Int)) / 65536 = ((borrow x y (i + 1) : Nat) : Int) := by
  have h1 := dg_lt x i; have h2 := dg_lt y i; have h3 := borrow_le x y i
  rw [(dif_step x y i).1]; omega
theorem away_z (x y i : Nat) : big false (setD (difl x y i) i ((((dg x i : Nat) : Int) + 65536 - ((dg y i : Nat) : Int) - ((borrow x y i : Nat) : Int)) % 65536).toNat) = big false (difl x y (i + 1)) := by
  have h1 := dg_lt x i; have h2 := dg_lt y i; have h3 := borrow_le x y i
  rw [(dif_step x y i).2]; congr 2; omega
theorem away_c0 (x y : Nat) : (0 : Int) = ((borrow x y 0 : Nat) : Int) := by simp [borrow, Nat.mod_one]
theorem away_z0 (x y : Nat) : big false 0 = big false (difl x y 0) := by simp [difl, borrow, Nat.mod_one]
theorem raway (b b' : Bool) (x y : Nat) (w : World) : Calls Try.prog 62 #[Bg b x, Bg b' y] w fun e w' => e = .returned (Bg false (difl x y 20)) ∧ Below w.heap.size w w' := by
  refine EW.eEnter Try.func62 rfl Try.ntmps62 ?_
  all_goals try (refine EW.nm ?_)
  all_goals try ((first | refine EW.eRegL (id := 0) ?_ | refine EW.eReg (id := 0) ?_); refine EW.eBox ?_; refine EW.eBox ?_; refine EW.eAlloc ?_; refine EW.eEnd ?_; (try refine EW.nm ?_))
  all_goals try ((first | refine EW.eRegL (id := 1) ?_ | refine EW.eReg (id := 1) ?_); refine EW.eAlloc ?_; refine EW.eEnd ?_; (try refine EW.nm ?_))
  all_goals (refine EW.eToW 40 true (big false 0) ?_)
  all_goals try ((first | refine EW.eRegL (id := 2) ?_ | refine EW.eReg (id := 2) ?_); refine EW.eAssign ?_; refine EW.eEnd ?_; (try refine EW.nm ?_))
  all_goals try ((first | refine EW.eRegL (id := 3) ?_ | refine EW.eReg (id := 3) ?_); refine EW.eAssign ?_; refine EW.eEnd ?_; (try refine EW.nm ?_))
  all_goals first | (fail_if_success (refine EW.eUnroll 1 ?_)) | (refine EW.eLoopD [6, 7, 8, 9, 10, 11, 12, 13, 14, 15, 16, 17, 18, 19, 20, 21, 22, 23, 24, 25, 26, 27, 28, 29, 30, 31, 32] 1000000 (fun j : {i : Nat // i ≤ 20} => [(.t 7, .v (.c (.v (.int .i64 (j.1 : Int))))), (.t 6, .v (.c (.v (.int .u64 ((borrow x y j.1 : Nat) : Int))))), (.b 40, .b (.w true (big false (difl x y j.1))))]) (fun j => 20 - j.1) (⟨0, by omega⟩) (by ((repeat (first | exact EW.subW.nil | refine EW.subW.cons rfl ?_ | refine EW.subW.conv rfl ?_ (by first | exact EW.kvI (away_c _ _ _) | exact EW.kvW (away_z _ _ _) | exact EW.kvI (away_c0 _ _) | exact EW.kvW (away_z0 _ _)) | refine EW.subW.conv rfl ?_)); (first | done | fail))) ?_; rintro hcl4 ⟨i, hi⟩; (try dsimp only))
  all_goals try (refine EW.nm ?_)
  all_goals try ((first | refine EW.eRegL (id := 4) ?_ | refine EW.eReg (id := 4) ?_); refine EW.eMove ?_; refine EW.eLss ?_; refine EW.eEnd ?_; (try refine EW.nm ?_))
  all_goals try (first | refine EW.eYes (x := Operand.tmp 10) ?_ | refine EW.eNo (x := Operand.tmp 10) ?_ | (refine EW.eCond (x := Operand.tmp 10) ?_ ?_ <;> (intro hb hb'; (try dsimp only at hb'); (try (exfalso; first | omega | with_reducible exact absurd rfl hb')))))
  all_goals try (refine EW.nm ?_)
  all_goals (try (have hdx := dg_lt x i; have hdy := dg_lt y i; have hdc := borrow_le x y i))
  all_goals try ((first | refine EW.eRegL (id := 6) ?_ | refine EW.eReg (id := 6) ?_); refine EW.eMove ?_; refine EW.eFieldAddr (k := 20) ?_; refine EW.eIndexAddr (z := 1) ?_; refine EW.eLoad1 ?_; refine EW.eAdd ?_; refine EW.eMove ?_; refine EW.eFieldAddr (k := 20) ?_; refine EW.eIndexAddr (z := 1) ?_; refine EW.eLoad1 ?_; refine EW.eSub ?_; refine EW.eMove ?_; refine EW.eSub ?_; refine EW.eAssign ?_; refine EW.eDraw ?_; (try refine EW.nm ?_))
  all_goals try ((first | refine EW.eRegL (id := 7) ?_ | refine EW.eReg (id := 7) ?_); refine EW.eMove ?_; refine EW.eMove ?_; refine EW.eRem ?_; refine EW.eFieldAddr (k := 20) ?_; refine EW.eIndexAddr (z := 1) ?_; (first | refine EW.eStoreW (k := 1) ?_ | refine EW.eStore (k := 1) ?_); refine EW.eEnd ?_; (try refine EW.nm ?_))
  all_goals try ((first | refine EW.eRegL (id := 8) ?_ | refine EW.eReg (id := 8) ?_); refine EW.eMove ?_; refine EW.eQuo ?_; refine EW.eSub ?_; refine EW.eAssign ?_; refine EW.eEnd ?_; (try refine EW.nm ?_))
  all_goals try ((first | refine EW.eRegL (id := 5) ?_ | refine EW.eReg (id := 5) ?_); refine EW.eMove ?_; refine EW.eAdd ?_; refine EW.eAssign ?_; refine EW.eEnd ?_; (try refine EW.nm ?_))
  all_goals first | (fail_if_success (with_reducible refine EW.isLater ?_)) | (refine EW.eLaterD (⟨i + 1, by omega⟩) (by dsimp only; omega) (by ((repeat (first | exact EW.subW.nil | refine EW.subW.cons rfl ?_ | refine EW.subW.conv rfl ?_ (by first | exact EW.kvI (away_c _ _ _) | exact EW.kvW (away_z _ _ _) | exact EW.kvI (away_c0 _ _) | exact EW.kvW (away_z0 _ _)) | refine EW.subW.conv rfl ?_)); (first | done | fail))) hcl4)
  all_goals try (refine EW.nm ?_)
  all_goals try ((first | refine EW.eRegL (id := 9) ?_ | refine EW.eReg (id := 9) ?_); refine EW.eLoadA (k := 21) ?_; (first | refine EW.eStoreW (k := 21) ?_ | refine EW.eStore (k := 21) ?_); refine EW.eEnd ?_; (try refine EW.nm ?_))
  all_goals try (with_reducible refine EW.parkK ?_)
  all_goals try (refine EW.Park.mk ?_)
  all_goals (refine EW.eLeaveP ?_; intro w' hW; refine ⟨?_, hW⟩)
  all_goals (obtain rfl : i = 20 := by omega)
  all_goals rfl
theorem less_next {x y i : Nat} (h : x / 65536 ^ i = y / 65536 ^ i) (h0 : 0 < i) (hd : ((dg x (i - 1) : Nat) : Int) = ((dg y (i - 1) : Nat) : Int)) : x / 65536 ^ (i - 1) = y / 65536 ^ (i - 1) := by
  obtain ⟨k, rfl⟩ : ∃ k, i = k + 1 := ⟨i - 1, by omega⟩
  simp only [Nat.add_sub_cancel] at *
  rw [less_step x y k, less_step y y k, h]; omega
theorem less_end {x y i : Nat} (h : x / 65536 ^ i = y / 65536 ^ i) (h0 : 0 < i) (hd : ¬ ((dg x (i - 1) : Nat) : Int) = ((dg y (i - 1) : Nat) : Int)) : decide (((dg x (i - 1) : Nat) : Int) < ((dg y (i - 1) : Nat) : Int)) = decide (x < y) := by
  obtain ⟨k, rfl⟩ : ∃ k, i = k + 1 := ⟨i - 1, by omega⟩
  simp only [Nat.add_sub_cancel] at *
  rw [decide_eq_decide]
  constructor
  · intro h1; exact less_here h (by omega)
  · intro h1
    rcases Nat.lt_or_ge (dg y k) (dg x k) with h2 | h2
    · have := less_here h.symm h2; omega
    · omega
theorem less_first {x y : Nat} (hx : x < W20) (hy : y < W20) : x / 65536 ^ 20 = y / 65536 ^ 20 := by
  unfold W20 at hx hy; rw [Nat.div_eq_of_lt hx, Nat.div_eq_of_lt hy]
theorem rless (b b' : Bool) (x y : Nat) (w : World) (hx : x < W20) (hy : y < W20) : Calls Try.prog 61 #[Bg b x, Bg b' y] w fun e w' => e = .returned (.bool (decide (x < y))) ∧ Below w.heap.size w w' := by
  refine EW.eEnter Try.func61 rfl Try.ntmps61 ?_
  all_goals try (refine EW.nm ?_)
  all_goals try ((first | refine EW.eRegL (id := 0) ?_ | refine EW.eReg (id := 0) ?_); refine EW.eBox ?_; refine EW.eBox ?_; refine EW.eAssign ?_; refine EW.eEnd ?_; (try refine EW.nm ?_))
  all_goals try ((first | refine EW.eRegL (id := 1) ?_ | refine EW.eReg (id := 1) ?_); refine EW.eAssign ?_; refine EW.eEnd ?_; (try refine EW.nm ?_))
  all_goals first | (fail_if_success (refine EW.eUnroll 1 ?_)) | (refine EW.eLoopD [4, 5, 6, 7, 8, 9, 10, 11, 12, 13, 14, 15, 16, 17, 18, 19, 20, 21, 22, 23, 24, 25, 26, 27] 1000000 (fun j : {i : Nat // i ≤ 20 ∧ x / 65536 ^ i = y / 65536 ^ i} => [(.t 5, .v (.c (.v (.int .i64 ((j.1 : Int) - 1)))))]) (fun j => j.1) (⟨20, by omega, less_first hx hy⟩) (by ((repeat (first | exact EW.subW.nil | refine EW.subW.cons rfl ?_ | refine EW.subW.conv rfl ?_)); (first | done | fail))) ?_; rintro hcl2 ⟨i, hi, hq⟩; (try dsimp only))
  all_goals try (refine EW.nm ?_)
  all_goals try ((first | refine EW.eRegL (id := 2) ?_ | refine EW.eReg (id := 2) ?_); refine EW.eMove ?_; refine EW.eGeq ?_; refine EW.eEnd ?_; (try refine EW.nm ?_))
  all_goals try (first | refine EW.eYes (x := Operand.tmp 7) ?_ | refine EW.eNo (x := Operand.tmp 7) ?_ | (refine EW.eCond (x := Operand.tmp 7) ?_ ?_ <;> (intro hb hb'; (try dsimp only at hb'); (try (exfalso; first | omega | with_reducible exact absurd rfl hb')))))
  all_goals try (refine EW.nm ?_)
  all_goals try ((first | refine EW.eRegL (id := 4) ?_ | refine EW.eReg (id := 4) ?_); refine EW.eMove ?_; refine EW.eFieldAddr (k := 20) ?_; refine EW.eIndexAddr (z := 1) ?_; refine EW.eLoad1 ?_; refine EW.eMove ?_; refine EW.eFieldAddr (k := 20) ?_; refine EW.eIndexAddr (z := 1) ?_; refine EW.eLoad1 ?_; refine EW.eNeq ?_; refine EW.eDraw ?_; (try refine EW.nm ?_))
  all_goals try (first | refine EW.eYes (x := Operand.tmp 18) ?_ | refine EW.eNo (x := Operand.tmp 18) ?_ | (refine EW.eCond (x := Operand.tmp 18) ?_ ?_ <;> (intro hb hb'; (try dsimp only at hb'); (try (exfalso; first | omega | with_reducible exact absurd rfl hb')))))
  all_goals try (refine EW.nm ?_)
  all_goals try ((first | refine EW.eRegL (id := 5) ?_ | refine EW.eReg (id := 5) ?_); refine EW.eMove ?_; refine EW.eFieldAddr (k := 20) ?_; refine EW.eIndexAddr (z := 1) ?_; refine EW.eLoad1 ?_; refine EW.eMove ?_; refine EW.eFieldAddr (k := 20) ?_; refine EW.eIndexAddr (z := 1) ?_; refine EW.eLoad1 ?_; refine EW.eLss ?_; refine EW.eAssign ?_; refine EW.eDraw ?_; (try refine EW.nm ?_))
  all_goals try (with_reducible refine EW.parkK ?_)
  all_goals try ((first | refine EW.eRegL (id := 3) ?_ | refine EW.eReg (id := 3) ?_); refine EW.eMove ?_; refine EW.eSub ?_; refine EW.eAssign ?_; refine EW.eEnd ?_; (try refine EW.nm ?_))
  all_goals first | (fail_if_success (with_reducible refine EW.isLater ?_)) | (refine EW.eLaterD (⟨i - 1, by omega, less_next hq (by omega) (by assumption)⟩) (by dsimp only; omega) (by ((repeat (first | exact EW.subW.nil | refine EW.subW.cons rfl ?_ | refine EW.subW.conv rfl ?_)); (first | done | fail))) hcl2)
  all_goals try (refine EW.nm ?_)
  all_goals try ((first | refine EW.eRegL (id := 6) ?_ | refine EW.eReg (id := 6) ?_); refine EW.eAssign ?_; refine EW.eEnd ?_; (try refine EW.nm ?_))
  all_goals try (with_reducible refine EW.parkK ?_)
  all_goals try (refine EW.Park.mk ?_)
  all_goals (refine EW.eLeaveP ?_; intro w' hW; refine ⟨?_, hW⟩)
  · exact congrArg (fun b => Ending.returned (.bool b)) (less_end hq (by omega) (by assumption))
  · obtain rfl : i = 0 := by omega
    simp only [Nat.pow_zero, Nat.div_one] at hq
    rw [decide_eq_false (by omega)]
end Go.Proofs.Ythclhmdgfekaeaa
namespace Go.Proofs.Ythclhmdgfekaeaa
set_option linter.unusedSimpArgs false
set_option linter.unusedVariables false
open Go.RowKit EV
open SX (Wr Tv Qu Rm Sh Is conjP eqs_iff eqs_false)
open EW (PlL PlT PlV PlVs LfV Mm Bt Opn GV)
set_option maxRecDepth 20000
abbrev BZ (z : Int) : Value := Bg (decide (z < 0)) z.natAbs
theorem suml_in {x y : Nat} (h : x + y < W20) : suml x y 20 = x + y := suml_all x y 20 h
theorem difl_in {x y : Nat} (hx : x < W20) (h : y ≤ x) : difl x y 20 = x - y := difl_all x y 20 hx h
theorem rmore_in (b b' : Bool) (x y : Nat) (w : World) (h : x + y < W20) : Calls Try.prog 60 #[Bg b x, Bg b' y] w fun e w' => e = .returned (Bg false (x + y)) ∧ Below w.heap.size w w' := by
  have := rmore b b' x y w; rwa [suml_in h] at this
theorem raway_in (b b' : Bool) (x y : Nat) (w : World) (hx : x < W20) (h : y ≤ x) : Calls Try.prog 62 #[Bg b x, Bg b' y] w fun e w' => e = .returned (Bg false (x - y)) ∧ Below w.heap.size w w' := by
  have := raway b b' x y w; rwa [difl_in hx h] at this
theorem raddB (b b' : Bool) (n m : Nat) (w : World) (h : n + m < W20) : Calls Try.prog 63 #[Bg b n, Bg b' m] w fun e w' => e = .returned (if b = b' then Bg (b && !decide (n + m = 0)) (n + m) else if n < m then Bg (b' && !decide (m - n = 0)) (m - n) else Bg (b && !decide (n - m = 0)) (n - m)) ∧ Below w.heap.size w w' := by
  refine EW.eEnter Try.func63 rfl Try.ntmps63 ?_
  all_goals try (refine EW.nm ?_)
  all_goals try ((first | refine EW.eRegL (id := 0) ?_ | refine EW.eReg (id := 0) ?_); refine EW.eBox ?_; refine EW.eBox ?_; refine EW.eAlloc ?_; refine EW.eEnd ?_; (try refine EW.nm ?_))
  all_goals try ((first | refine EW.eRegL (id := 1) ?_ | refine EW.eReg (id := 1) ?_); refine EW.eAlloc ?_; refine EW.eEnd ?_; (try refine EW.nm ?_))
  all_goals try ((first | refine EW.eRegL (id := 4) ?_ | refine EW.eReg (id := 4) ?_); refine EW.eFieldAddr (k := 1) ?_; refine EW.eLoad1 ?_; refine EW.eFieldAddr (k := 1) ?_; refine EW.eLoad1 ?_; refine EW.eEqlB ?_; refine EW.eAssign ?_; refine EW.eEnd ?_; (try refine EW.nm ?_))
  all_goals try (first | refine EW.eYes (x := Operand.tmp 12) ?_ | refine EW.eNo (x := Operand.tmp 12) ?_ | (refine EW.eCond (x := Operand.tmp 12) ?_ ?_ <;> (intro hb hb'; (try dsimp only at hb'); (try (exfalso; first | omega | with_reducible exact absurd rfl hb')))))
  all_goals try (refine EW.nm ?_)
  all_goals try ((first | refine EW.eRegL (id := 5) ?_ | refine EW.eReg (id := 5) ?_); refine EW.eLoadA (k := 21) ?_; refine EW.eLoadA (k := 21) ?_; refine EW.eCall Try.call60 (fun w => rmore_in _ _ n m w h) ?_; (first | refine EW.eStoreW (k := 21) ?_ | refine EW.eStore (k := 21) ?_); refine EW.eEnd ?_; (try refine EW.nm ?_))
  all_goals try ((first | refine EW.eRegL (id := 6) ?_ | refine EW.eReg (id := 6) ?_); refine EW.eFieldAddr (k := 1) ?_; refine EW.eLoad1 ?_; refine EW.eFieldAddr (k := 1) ?_; (first | refine EW.eStoreW (k := 1) ?_ | refine EW.eStore (k := 1) ?_); refine EW.eEnd ?_; (try refine EW.nm ?_))
  all_goals try ((first | refine EW.eRegL (id := 7) ?_ | refine EW.eReg (id := 7) ?_); refine EW.eLoadA (k := 21) ?_; refine EW.eLoadA (k := 21) ?_; refine EW.eCall Try.call61 (fun w => rless _ _ n m w (by omega) (by omega)) ?_; refine EW.eAssign ?_; refine EW.eEnd ?_; (try refine EW.nm ?_))
  all_goals try (first | refine EW.eYes (x := Operand.tmp 24) ?_ | refine EW.eNo (x := Operand.tmp 24) ?_ | (refine EW.eCond (x := Operand.tmp 24) ?_ ?_ <;> (intro hb hb'; (try dsimp only at hb'); (try (exfalso; first | omega | with_reducible exact absurd rfl hb')))))
  all_goals try (refine EW.nm ?_)
  all_goals try ((first | refine EW.eRegL (id := 8) ?_ | refine EW.eReg (id := 8) ?_); refine EW.eLoadA (k := 21) ?_; refine EW.eLoadA (k := 21) ?_; (first | refine EW.eCall Try.call62 (fun w => raway_in _ _ n m w (by omega) (by omega)) ?_ | refine EW.eCall Try.call62 (fun w => raway_in _ _ m n w (by omega) (by omega)) ?_); (first | refine EW.eStoreW (k := 21) ?_ | refine EW.eStore (k := 21) ?_); refine EW.eEnd ?_; (try refine EW.nm ?_))
  all_goals try ((first | refine EW.eRegL (id := 9) ?_ | refine EW.eReg (id := 9) ?_); refine EW.eFieldAddr (k := 1) ?_; refine EW.eLoad1 ?_; refine EW.eFieldAddr (k := 1) ?_; (first | refine EW.eStoreW (k := 1) ?_ | refine EW.eStore (k := 1) ?_); refine EW.eEnd ?_; (try refine EW.nm ?_))
  all_goals try ((first | refine EW.eRegL (id := 2) ?_ | refine EW.eReg (id := 2) ?_); refine EW.eLoadA (k := 21) ?_; refine EW.eLoadA (k := 21) ?_; (first | refine EW.eCall Try.call62 (fun w => raway_in _ _ n m w (by omega) (by omega)) ?_ | refine EW.eCall Try.call62 (fun w => raway_in _ _ m n w (by omega) (by omega)) ?_); (first | refine EW.eStoreW (k := 21) ?_ | refine EW.eStore (k := 21) ?_); refine EW.eEnd ?_; (try refine EW.nm ?_))
  all_goals try ((first | refine EW.eRegL (id := 3) ?_ | refine EW.eReg (id := 3) ?_); refine EW.eFieldAddr (k := 1) ?_; refine EW.eLoad1 ?_; refine EW.eFieldAddr (k := 1) ?_; (first | refine EW.eStoreW (k := 1) ?_ | refine EW.eStore (k := 1) ?_); refine EW.eEnd ?_; (try refine EW.nm ?_))
  all_goals try ((first | refine EW.eRegL (id := 10) ?_ | refine EW.eReg (id := 10) ?_); refine EW.eLoadA (k := 21) ?_; (first | refine EW.eCall Try.call59 (fun w => rnone _ (n + m) w (by omega)) ?_ | refine EW.eCall Try.call59 (fun w => rnone _ (n - m) w (by omega)) ?_ | refine EW.eCall Try.call59 (fun w => rnone _ (m - n) w (by omega)) ?_); refine EW.eEnd ?_; (try refine EW.nm ?_))
  all_goals try (first | refine EW.eYes (x := Operand.tmp 35) ?_ | refine EW.eNo (x := Operand.tmp 35) ?_ | (refine EW.eCond (x := Operand.tmp 35) ?_ ?_ <;> (intro hb hb'; (try dsimp only at hb'); (try (exfalso; first | omega | with_reducible exact absurd rfl hb')))))
  all_goals try (refine EW.nm ?_)
  all_goals try ((first | refine EW.eRegL (id := 11) ?_ | refine EW.eReg (id := 11) ?_); refine EW.eFieldAddr (k := 1) ?_; (first | refine EW.eStoreW (k := 1) ?_ | refine EW.eStore (k := 1) ?_); refine EW.eEnd ?_; (try refine EW.nm ?_))
  all_goals try ((first | refine EW.eRegL (id := 12) ?_ | refine EW.eReg (id := 12) ?_); refine EW.eLoadA (k := 21) ?_; (first | refine EW.eStoreW (k := 21) ?_ | refine EW.eStore (k := 21) ?_); refine EW.eEnd ?_; (try refine EW.nm ?_))
  all_goals try (with_reducible refine EW.parkK ?_)
  all_goals try (refine EW.Park.mk ?_)
  all_goals (refine EW.eLeaveP ?_; intro w' hW; refine ⟨?_, hW⟩)
  all_goals (first | rw [if_pos (by assumption)] | (rw [if_neg (by assumption)]; first | rw [if_pos (by omega)] | rw [if_neg (by omega)]))
  all_goals (first | rw [decide_eq_true (by omega)] | rw [decide_eq_false (by omega)])
  all_goals simp
theorem radd (x y : Int) (w : World) (h : x.natAbs + y.natAbs < W20) : Calls Try.prog 63 #[BZ x, BZ y] w fun e w' => e = .returned (BZ (x + y)) ∧ Below w.heap.size w w' := by
  refine (raddB _ _ _ _ w h).mono ?_
  rintro e w' ⟨rfl, hb⟩
  refine ⟨?_, hb⟩
  have key : ∀ {b c : Bool} {n m : Nat}, b = c → n = m → Ending.returned (Bg b n) = Ending.returned (Bg c m) := by rintro b c n m rfl rfl; rfl
  split
  · rename_i h1
    rw [decide_eq_decide] at h1
    refine key ?_ (by omega)
    rw [Bool.eq_iff_iff]; simp; omega
  · rename_i h1
    rw [decide_eq_decide] at h1
    split
    · refine key ?_ (by omega)
      rw [Bool.eq_iff_iff]; simp; omega
    · refine key ?_ (by omega)
      rw [Bool.eq_iff_iff]; simp; omega
theorem rnegB (b : Bool) (n : Nat) (w : World) (h : n < W20) : Calls Try.prog 64 #[Bg b n] w fun e w' => e = .returned (Bg (!b && !decide (n = 0)) n) ∧ Below w.heap.size w w' := by
  refine EW.eEnter Try.func64 rfl Try.ntmps64 ?_
  all_goals try (refine EW.nm ?_)
  all_goals try ((first | refine EW.eRegL (id := 0) ?_ | refine EW.eReg (id := 0) ?_); refine EW.eBox ?_; refine EW.eAlloc ?_; refine EW.eEnd ?_; (try refine EW.nm ?_))
  all_goals try ((first | refine EW.eRegL (id := 1) ?_ | refine EW.eReg (id := 1) ?_); refine EW.eFieldAddr (k := 1) ?_; refine EW.eLoad1 ?_; refine EW.eNot ?_; refine EW.eMove ?_)
  all_goals try (refine EW.eGuard (j := 3) (o := ⟨some 7, _, _, _, _, _⟩) ?_ ?_ <;> (intro hb hb'; (try dsimp only at hb'); (try (exfalso; first | omega | with_reducible exact absurd rfl hb'))))
  all_goals try ((first | refine EW.eSkipT (j := 3) ?_ | refine EW.eSkipU (j := 3) ?_ | refine EW.eLoadA (k := 21) ?_); (first | refine EW.eSkipT (j := 3) ?_ | refine EW.eSkipU (j := 3) ?_ | refine EW.eCall Try.call59 (fun w => rnone _ n w h) ?_); (first | refine EW.eSkipT (j := 3) ?_ | refine EW.eSkipU (j := 3) ?_ | refine EW.eNot ?_); (first | refine EW.ePickT ?_ | refine EW.ePickF ?_); refine EW.eFieldAddr (k := 1) ?_; (first | refine EW.eStoreW (k := 1) ?_ | refine EW.eStore (k := 1) ?_); refine EW.eEnd ?_; (try refine EW.nm ?_))
  all_goals try ((first | refine EW.eRegL (id := 2) ?_ | refine EW.eReg (id := 2) ?_); refine EW.eLoadA (k := 21) ?_; (first | refine EW.eStoreW (k := 21) ?_ | refine EW.eStore (k := 21) ?_); refine EW.eEnd ?_; (try refine EW.nm ?_))
  all_goals try (with_reducible refine EW.parkK ?_)
  all_goals try (refine EW.Park.mk ?_)
  all_goals (refine EW.eLeaveP ?_; intro w' hW; refine ⟨?_, hW⟩)
  all_goals simp [*]
theorem rneg (x : Int) (w : World) (h : x.natAbs < W20) : Calls Try.prog 64 #[BZ x] w fun e w' => e = .returned (BZ (-x)) ∧ Below w.heap.size w w' := by
  have := rnegB (decide (x < 0)) x.natAbs w h
  have e : (!decide (x < 0) && !decide (x.natAbs = 0)) = decide (-x < 0) := by rw [Bool.eq_iff_iff]; simp; omega
  rw [e] at this
  show Calls _ _ _ _ fun e w' => e = .returned (Bg (decide (-x < 0)) (-x).natAbs) ∧ _
  rw [Int.natAbs_neg]; exact this
structure MS (x y i : Nat) where
  j : Nat
  Z : Nat
  c : Nat
  hj : j ≤ 9
  h : MulI x y i j Z c
theorem mul_row {x y i Z c : Nat} (h : MulI x y i 9 Z c) (hy : y < 65536 ^ 9) : big false (setD Z (i + 9) ((c : Nat) : Int).toNat) = big false (x % 65536 ^ (i + 1) * y) := by
  rw [Int.toNat_natCast, mulI_row h hy]
theorem dg_prod (x i y j : Nat) : 0 ≤ ((dg x i : Nat) : Int) * ((dg y j : Nat) : Int) ∧ ((dg x i : Nat) : Int) * ((dg y j : Nat) : Int) ≤ 4294836225 := by
  have h2 := dg_lt x i
  have h3 := dg_lt y j
  have h4 : dg x i * dg y j ≤ 65535 * 65535 := Nat.mul_le_mul (by omega) (by omega)
  rw [← Int.natCast_mul]; omega
theorem prod_in {x y : Nat} (hx : x < 65536 ^ 9) (hy : y < 65536 ^ 9) : x * y < W20 :=
  Nat.lt_trans (Nat.mul_lt_mul'' hx hy) (by decide)
set_option maxHeartbeats 1000000 in
theorem rmul (b b' : Bool) (x y : Nat) (w : World) (hx : x < 65536 ^ 9) (hy : y < 65536 ^ 9) : Calls Try.prog 45 #[Bg b x, Bg b' y] w fun e w' => e = .returned (Bg (b != b' && !decide (x * y = 0)) (x * y)) ∧ Below w.heap.size w w' := by
  have hxy := prod_in hx hy
  refine EW.eEnter Try.func45 rfl Try.ntmps45 ?_
  all_goals try (refine EW.nm ?_)
  all_goals try ((first | refine EW.eRegL (id := 0) ?_ | refine EW.eReg (id := 0) ?_); refine EW.eBox ?_; refine EW.eBox ?_; refine EW.eAlloc ?_; refine EW.eEnd ?_; (try refine EW.nm ?_))
  all_goals try ((first | refine EW.eRegL (id := 1) ?_ | refine EW.eReg (id := 1) ?_); refine EW.eAlloc ?_; refine EW.eEnd ?_; (try refine EW.nm ?_))
  all_goals (refine EW.eToW 40 true (big false 0) ?_)
  all_goals try ((first | refine EW.eRegL (id := 2) ?_ | refine EW.eReg (id := 2) ?_); refine EW.eAssign ?_; refine EW.eEnd ?_; (try refine EW.nm ?_))
  all_goals first | (fail_if_success (refine EW.eUnroll 1 ?_)) | (refine EW.eLoopD [6, 7, 8, 9, 10, 11, 12, 13, 14, 15, 16, 17, 18, 19, 20, 21, 22, 23, 24, 25, 26, 27, 28, 29, 30, 31, 32, 33, 34, 35, 36, 37, 38, 39, 40, 41, 42, 43, 44, 45, 46, 47, 48, 49] 1000000 (fun j : {i : Nat // i ≤ 9} => [(.t 6, .v (.c (.v (.int .i64 (j.1 : Int))))), (.b 40, .b (.w true (big false (x % 65536 ^ j.1 * y))))]) (fun j => 9 - j.1) (⟨0, by omega⟩) (by ((repeat (first | exact EW.subW.nil | refine EW.subW.cons rfl ?_ | refine EW.subW.conv rfl ?_ (by first | exact EW.kvW (mul_row hM hy) | exact EW.kvW (by simp [Nat.mod_one])) | refine EW.subW.conv rfl ?_)); (first | done | fail))) ?_; rintro hcl3 ⟨i, hi⟩; (try dsimp only))
  all_goals try (refine EW.nm ?_)
  all_goals try ((first | refine EW.eRegL (id := 3) ?_ | refine EW.eReg (id := 3) ?_); refine EW.eMove ?_; refine EW.eLss ?_; refine EW.eEnd ?_; (try refine EW.nm ?_))
  all_goals try (first | refine EW.eYes (x := Operand.tmp 11) ?_ | refine EW.eNo (x := Operand.tmp 11) ?_ | (refine EW.eCond (x := Operand.tmp 11) ?_ ?_ <;> (intro hb hb'; (try dsimp only at hb'); (try (exfalso; first | omega | with_reducible exact absurd rfl hb')))))
  all_goals try (refine EW.nm ?_)
  all_goals try ((first | refine EW.eRegL (id := 5) ?_ | refine EW.eReg (id := 5) ?_); refine EW.eAssign ?_; refine EW.eEnd ?_; (try refine EW.nm ?_))
  all_goals try ((first | refine EW.eRegL (id := 6) ?_ | refine EW.eReg (id := 6) ?_); refine EW.eAssign ?_; refine EW.eEnd ?_; (try refine EW.nm ?_))
  all_goals first | (fail_if_success (refine EW.eUnroll 1 ?_)) | (refine EW.eLoopD [7, 8, 9, 14, 15, 16, 17, 18, 19, 20, 21, 22, 23, 24, 25, 26, 27, 28, 29, 30, 31, 32, 33, 34, 35, 36, 37, 38, 39, 40, 41, 42, 43, 44] 1000000 (fun s : MS x y i => [(.t 8, .v (.c (.v (.int .i64 (s.j : Int))))), (.t 7, .v (.c (.v (.int .u64 (s.c : Int))))), (.b 40, .b (.w true (big false s.Z)))]) (fun s => 9 - s.j) (⟨0, x % 65536 ^ i * y, 0, by omega, mulI_first x y i hy⟩) (by ((repeat (first | exact EW.subW.nil | refine EW.subW.cons rfl ?_ | refine EW.subW.conv rfl ?_ (by first | exact EW.kvW (mul_z _ _ _ _ _ _) | exact EW.kvI (mul_c _ _ _ _)) | refine EW.subW.conv rfl ?_)); (first | done | fail))) ?_; rintro hcl7 ⟨j, Z, c, hj, hM⟩; (try dsimp only))
  all_goals try (refine EW.nm ?_)
  all_goals try ((first | refine EW.eRegL (id := 7) ?_ | refine EW.eReg (id := 7) ?_); refine EW.eMove ?_; refine EW.eLss ?_; refine EW.eEnd ?_; (try refine EW.nm ?_))
  all_goals try (first | refine EW.eYes (x := Operand.tmp 15) ?_ | refine EW.eNo (x := Operand.tmp 15) ?_ | (refine EW.eCond (x := Operand.tmp 15) ?_ ?_ <;> (intro hb hb'; (try dsimp only at hb'); (try (exfalso; first | omega | with_reducible exact absurd rfl hb')))))
  all_goals try (refine EW.nm ?_)
  all_goals (try (have hd1 := dg_lt Z (i + j); have hd2 := dg_prod x i y j; have hd3 := hM.c))
  all_goals try ((first | refine EW.eRegL (id := 9) ?_ | refine EW.eReg (id := 9) ?_); refine EW.eMove ?_; refine EW.eMove ?_; refine EW.eAdd ?_; refine EW.eFieldAddr (k := 20) ?_; refine EW.eIndexAddr (z := 1) ?_; refine EW.eLoad1 ?_; refine EW.eMove ?_; refine EW.eFieldAddr (k := 20) ?_; refine EW.eIndexAddr (z := 1) ?_; refine EW.eLoad1 ?_; refine EW.eMove ?_; refine EW.eFieldAddr (k := 20) ?_; refine EW.eIndexAddr (z := 1) ?_; refine EW.eLoad1 ?_; refine EW.eMul ?_; refine EW.eAdd ?_; refine EW.eMove ?_; refine EW.eAdd ?_; refine EW.eAssign ?_; refine EW.eDraw ?_; (try refine EW.nm ?_))
  all_goals try ((first | refine EW.eRegL (id := 10) ?_ | refine EW.eReg (id := 10) ?_); refine EW.eMove ?_; refine EW.eMove ?_; refine EW.eAdd ?_; refine EW.eMove ?_; refine EW.eRem ?_; refine EW.eFieldAddr (k := 20) ?_; refine EW.eIndexAddr (z := 1) ?_; (first | refine EW.eStoreW (k := 1) ?_ | refine EW.eStore (k := 1) ?_); refine EW.eEnd ?_; (try refine EW.nm ?_))
  all_goals try ((first | refine EW.eRegL (id := 11) ?_ | refine EW.eReg (id := 11) ?_); refine EW.eMove ?_; refine EW.eQuo ?_; refine EW.eAssign ?_; refine EW.eEnd ?_; (try refine EW.nm ?_))
  all_goals try ((first | refine EW.eRegL (id := 8) ?_ | refine EW.eReg (id := 8) ?_); refine EW.eMove ?_; refine EW.eAdd ?_; refine EW.eAssign ?_; refine EW.eEnd ?_; (try refine EW.nm ?_))
  all_goals first | (fail_if_success (with_reducible refine EW.isLater ?_)) | (refine EW.eLaterD (⟨j + 1, setD Z (i + j) ((dg Z (i + j) + dg x i * dg y j + c) % 65536), (dg Z (i + j) + dg x i * dg y j + c) / 65536, by omega, mulI_next hM (by omega)⟩) (by dsimp only; omega) (by ((repeat (first | exact EW.subW.nil | refine EW.subW.cons rfl ?_ | refine EW.subW.conv rfl ?_ (by first | exact EW.kvW (mul_z _ _ _ _ _ _) | exact EW.kvI (mul_c _ _ _ _)) | refine EW.subW.conv rfl ?_)); (first | done | fail))) hcl7)
  all_goals try (refine EW.nm ?_)
  all_goals (try (obtain rfl : j = 9 := (by omega); have hcc := hM.c))
  all_goals try ((first | refine EW.eRegL (id := 12) ?_ | refine EW.eReg (id := 12) ?_); refine EW.eMove ?_; refine EW.eAdd ?_; refine EW.eMove ?_; refine EW.eFieldAddr (k := 20) ?_; refine EW.eIndexAddr (z := 1) ?_; (first | refine EW.eStoreW (k := 1) ?_ | refine EW.eStore (k := 1) ?_); refine EW.eEnd ?_; (try refine EW.nm ?_))
  all_goals try ((first | refine EW.eRegL (id := 4) ?_ | refine EW.eReg (id := 4) ?_); refine EW.eMove ?_; refine EW.eAdd ?_; refine EW.eAssign ?_; refine EW.eEnd ?_; (try refine EW.nm ?_))
  all_goals first | (fail_if_success (with_reducible refine EW.isLater ?_)) | (refine EW.eLaterD (⟨i + 1, by omega⟩) (by dsimp only; omega) (by ((repeat (first | exact EW.subW.nil | refine EW.subW.cons rfl ?_ | refine EW.subW.conv rfl ?_ (by first | exact EW.kvW (mul_row hM hy) | exact EW.kvW (by simp [Nat.mod_one])) | refine EW.subW.conv rfl ?_)); (first | done | fail))) hcl3)
  all_goals try (refine EW.nm ?_)
  all_goals (try (obtain rfl : i = 9 := (by omega); rw [Nat.mod_eq_of_lt hx]))
  all_goals try ((first | refine EW.eRegL (id := 13) ?_ | refine EW.eReg (id := 13) ?_); refine EW.eFieldAddr (k := 1) ?_; refine EW.eLoad1 ?_; refine EW.eFieldAddr (k := 1) ?_; refine EW.eLoad1 ?_; refine EW.eNeqB ?_; refine EW.eMove ?_)
  all_goals try (refine EW.eGuard (j := 5) (o := ⟨some 56, _, _, _, _, _⟩) ?_ ?_ <;> (intro hb hb'; (try dsimp only at hb'); (try (exfalso; first | omega | with_reducible exact absurd rfl hb'))))
  all_goals try ((first | refine EW.eSkipT (j := 5) ?_ | refine EW.eSkipU (j := 5) ?_ | refine EW.eLoadA (k := 21) ?_); (first | refine EW.eSkipT (j := 5) ?_ | refine EW.eSkipU (j := 5) ?_ | refine EW.eCall Try.call59 (fun w => rnone false (x * y) w hxy) ?_); (first | refine EW.eSkipT (j := 5) ?_ | refine EW.eSkipU (j := 5) ?_ | refine EW.eNot ?_); (first | refine EW.ePickT ?_ | refine EW.ePickF ?_); refine EW.eFieldAddr (k := 1) ?_; (first | refine EW.eStoreW (k := 1) ?_ | refine EW.eStore (k := 1) ?_); refine EW.eEnd ?_; (try refine EW.nm ?_))
  all_goals try ((first | refine EW.eRegL (id := 14) ?_ | refine EW.eReg (id := 14) ?_); refine EW.eLoadA (k := 21) ?_; (first | refine EW.eStoreW (k := 21) ?_ | refine EW.eStore (k := 21) ?_); refine EW.eEnd ?_; (try refine EW.nm ?_))
  all_goals try (with_reducible refine EW.parkK ?_)
  all_goals try (refine EW.Park.mk ?_)
  all_goals (refine EW.eLeaveP ?_; intro w' hW; refine ⟨?_, hW⟩)
  all_goals simp [*]
theorem rmulZ (x y : Int) (w : World) (hx : x.natAbs < 65536 ^ 9) (hy : y.natAbs < 65536 ^ 9) : Calls Try.prog 45 #[BZ x, BZ y] w fun e w' => e = .returned (BZ (x * y)) ∧ Below w.heap.size w w' := by
  have := rmul (decide (x < 0)) (decide (y < 0)) x.natAbs y.natAbs w hx hy
  rw [← Int.natAbs_mul] at this
  rwa [show (decide (x < 0) != decide (y < 0) && !decide ((x * y).natAbs = 0)) = decide (x * y < 0) from ?_] at this
  rw [Bool.eq_iff_iff]
  rcases Int.lt_trichotomy x 0 with h1 | h1 | h1
  · rcases Int.lt_trichotomy y 0 with h2 | h2 | h2
    · have := Int.mul_pos_of_neg_of_neg h1 h2; simp; omega
    · subst h2; simp
    · have := Int.mul_neg_of_neg_of_pos h1 h2; simp; omega
  · subst h1; simp
  · rcases Int.lt_trichotomy y 0 with h2 | h2 | h2
    · have := Int.mul_neg_of_pos_of_neg h1 h2; simp; omega
    · subst h2; simp
    · have := Int.mul_pos h1 h2; simp; omega
theorem two_r (n : Nat) : ((n : Int) / 16).toNat = n / 16 := by omega
theorem two_s {n i : Nat} (h : i < n % 16) : big false (setD (setD 0 (n / 16) (2 ^ i)) (n / 16) (((2 ^ i : Nat) : Int) * 2).toNat) = big false (setD 0 (n / 16) (2 ^ (i + 1))) := by
  have h2 : 2 ^ (i + 1) ≤ 2 ^ 15 := Nat.pow_le_pow_right (by decide) (by omega)
  have h3 : 2 ^ i < 65536 := Nat.lt_of_le_of_lt (Nat.pow_le_pow_right (by decide) (show i ≤ 15 by omega)) (by decide)
  congr 1
  rw [Nat.pow_succ] at *
  generalize 2 ^ i = p at *
  have e : ((p : Int) * 2).toNat = p * 2 := by omega
  rw [e]
  unfold setD
  rw [show dg (0 - dg 0 (n / 16) * 65536 ^ (n / 16) + p * 65536 ^ (n / 16)) (n / 16) = p from by
    have := dg_set (n := 0) (k := n / 16) h3 (n / 16)
    rw [if_pos rfl] at this; exact this]
  rw [dg_zero (n := 0) (by exact pB _)]
  simp
theorem two_pow (n : Nat) : setD 0 (n / 16) (2 ^ (n % 16)) = 2 ^ n := by
  unfold setD
  rw [dg_zero (n := 0) (by exact pB _), show (65536 : Nat) = 2 ^ 16 from by decide, ← Nat.pow_mul, Nat.zero_mul, Nat.zero_sub, Nat.zero_add, ← Nat.pow_add]
  congr 1; omega
theorem two_b {i n : Nat} (h : i < n % 16) : 0 ≤ ((2 ^ i : Nat) : Int) ∧ ((2 ^ i : Nat) : Int) * 2 < 65536 := by
  have : 2 ^ i ≤ 2 ^ 14 := Nat.pow_le_pow_right (by decide) (by omega)
  generalize 2 ^ i = p at *
  omega
theorem two_d {i n : Nat} (h : i < n % 16) : dg (setD 0 (n / 16) (2 ^ i)) (n / 16) = 2 ^ i := by
  have h3 : 2 ^ i < 65536 := Nat.lt_of_le_of_lt (Nat.pow_le_pow_right (by decide) (show i ≤ 15 by omega)) (by decide)
  rw [dg_set h3, if_pos rfl]
def twoI (k i : Nat) : Nat := setD 0 k (2 ^ i)
def pw (i : Nat) : Nat := 2 ^ i
theorem two_dg {i n k : Nat} (hk : k = n / 16) (h : i < n % 16) : dg (twoI k i) (n / 16) = pw i := by subst hk; exact two_d h
theorem two_dg' {i n k : Nat} (hk : k = n / 16) (h : i < n % 16) : dg (twoI k i) ((n : Int) / 16).toNat = pw i := by rw [two_r]; exact two_dg hk h
theorem two_bp {i n : Nat} (h : i < n % 16) : 0 ≤ ((pw i : Nat) : Int) ∧ ((pw i : Nat) : Int) * 2 < 65536 := two_b h
theorem two_step {n i k : Nat} (hk : k = n / 16) (h : i < n % 16) : big false (setD (twoI k i) (n / 16) (((pw i : Nat) : Int) * 2).toNat) = big false (twoI k (i + 1)) := by subst hk; exact two_s h
theorem two_step' {n i k : Nat} (hk : k = n / 16) (h : i < n % 16) : big false (setD (twoI k i) ((n : Int) / 16).toNat (((dg (twoI k i) ((n : Int) / 16).toNat : Nat) : Int) * 2).toNat) = big false (twoI k (i + 1)) := by
  rw [two_dg' hk h, two_r]; exact two_step hk h
theorem two_end {n k i : Nat} (hk : k = n / 16) (hi : i = n % 16) : twoI k i = 2 ^ n := by subst hk; subst hi; exact two_pow n
theorem rtwo (n : Nat) (w : World) (hn : n < 300) : Calls Try.prog 65 #[.int .i64 (n : Int)] w fun e w' => e = .returned (Bg false (2 ^ n)) ∧ Below w.heap.size w w' := by
  obtain ⟨k, hk⟩ : ∃ k, k = n / 16 := ⟨_, rfl⟩
  refine EW.eEnter Try.func65 rfl Try.ntmps65 ?_
  all_goals try (refine EW.nm ?_)
  all_goals try ((first | refine EW.eRegL (id := 0) ?_ | refine EW.eReg (id := 0) ?_); refine EW.eAlloc ?_; refine EW.eEnd ?_; (try refine EW.nm ?_))
  all_goals try ((first | refine EW.eRegL (id := 1) ?_ | refine EW.eReg (id := 1) ?_); refine EW.eAlloc ?_; refine EW.eEnd ?_; (try refine EW.nm ?_))
  all_goals (refine EW.eToW 20 true (big false 0) ?_)
  all_goals try ((first | refine EW.eRegL (id := 2) ?_ | refine EW.eReg (id := 2) ?_); refine EW.eMove ?_; refine EW.eQuo ?_; refine EW.eFieldAddr (k := 20) ?_; refine EW.eIndexAddr (z := 1) ?_; (first | refine EW.eStoreW (k := 1) ?_ | refine EW.eStore (k := 1) ?_); refine EW.eEnd ?_; (try refine EW.nm ?_))
  all_goals try ((first | refine EW.eRegL (id := 3) ?_ | refine EW.eReg (id := 3) ?_); refine EW.eAssign ?_; refine EW.eEnd ?_; (try refine EW.nm ?_))
  all_goals first | (fail_if_success (refine EW.eUnroll 1 ?_)) | (refine EW.eLoopD [4, 9, 10, 11, 12, 13, 14, 15, 16, 17, 18, 19, 20, 21, 22, 23, 24] 1000000 (fun j : {i : Nat // i ≤ n % 16} => [(.t 4, .v (.c (.v (.int .i64 (j.1 : Int))))), (.b 20, .b (.w true (big false (twoI k j.1))))]) (fun j => n % 16 - j.1) (⟨0, by omega⟩) (by ((repeat (first | exact EW.subW.nil | refine EW.subW.cons rfl ?_ | refine EW.subW.conv rfl ?_ (by first | exact EW.kvW (two_step' hk (by omega)) | exact EW.kvW (by rw [two_r, ← hk]; rfl)) | refine EW.subW.conv rfl ?_)); (first | done | fail))) ?_; rintro hcl4 ⟨i, hi⟩; (try dsimp only))
  all_goals try (refine EW.nm ?_)
  all_goals try ((first | refine EW.eRegL (id := 4) ?_ | refine EW.eReg (id := 4) ?_); refine EW.eMove ?_; refine EW.eMove ?_; refine EW.eRem ?_; refine EW.eLss ?_; refine EW.eEnd ?_; (try refine EW.nm ?_))
  all_goals try (first | refine EW.eYes (x := Operand.tmp 12) ?_ | refine EW.eNo (x := Operand.tmp 12) ?_ | (refine EW.eCond (x := Operand.tmp 12) ?_ ?_ <;> (intro hb hb'; (try dsimp only at hb'); (try (exfalso; first | omega | with_reducible exact absurd rfl hb')))))
  all_goals try (refine EW.nm ?_)
  all_goals (try (have hb1 : i < n % 16 := (by omega); have hb2 := two_bp hb1; have hb3 := two_dg' hk hb1))
  all_goals try ((first | refine EW.eRegL (id := 6) ?_ | refine EW.eReg (id := 6) ?_); refine EW.eMove ?_; refine EW.eQuo ?_; refine EW.eMove ?_; refine EW.eQuo ?_; refine EW.eFieldAddr (k := 20) ?_; refine EW.eIndexAddr (z := 1) ?_; refine EW.eLoad1 ?_; refine EW.eMul ?_; refine EW.eFieldAddr (k := 20) ?_; refine EW.eIndexAddr (z := 1) ?_; (first | refine EW.eStoreW (k := 1) ?_ | refine EW.eStore (k := 1) ?_); refine EW.eEnd ?_; (try refine EW.nm ?_))
  all_goals try ((first | refine EW.eRegL (id := 5) ?_ | refine EW.eReg (id := 5) ?_); refine EW.eMove ?_; refine EW.eAdd ?_; refine EW.eAssign ?_; refine EW.eEnd ?_; (try refine EW.nm ?_))
  all_goals first | (fail_if_success (with_reducible refine EW.isLater ?_)) | (refine EW.eLaterD (⟨i + 1, by omega⟩) (by dsimp only; omega) (by ((repeat (first | exact EW.subW.nil | refine EW.subW.cons rfl ?_ | refine EW.subW.conv rfl ?_ (by first | exact EW.kvW (two_step' hk (by omega)) | exact EW.kvW (by rw [two_r, ← hk]; rfl)) | refine EW.subW.conv rfl ?_)); (first | done | fail))) hcl4)
  all_goals try (refine EW.nm ?_)
  all_goals try ((first | refine EW.eRegL (id := 7) ?_ | refine EW.eReg (id := 7) ?_); refine EW.eLoadA (k := 21) ?_; (first | refine EW.eStoreW (k := 21) ?_ | refine EW.eStore (k := 21) ?_); refine EW.eEnd ?_; (try refine EW.nm ?_))
  all_goals try (with_reducible refine EW.parkK ?_)
  all_goals try (refine EW.Park.mk ?_)
  all_goals (refine EW.eLeaveP ?_; intro w' hW; refine ⟨?_, hW⟩)
  all_goals rw [two_end hk (by omega)]
end Go.Proofs.Ythclhmdgfekaeaa
namespace Go.Proofs.Ythclhmdgfekaeaa
set_option linter.unusedSimpArgs false
set_option linter.unusedVariables false
open Go.RowKit EV
open SX (Wr Tv Qu Rm Sh Is conjP eqs_iff eqs_false)
open EW (PlL PlT PlV PlVs LfV Mm Bt Opn GV)
set_option maxRecDepth 20000
theorem W20_lit : 57896044618658097711785492504343953926634992332820282019728792003956564819968 ≤ W20 := by decide
theorem rlessZ (x y : Int) (w : World) (h : x.natAbs + y.natAbs < W20) : Calls Try.prog 66 #[BZ x, BZ y] w fun e w' => e = .returned (.bool (decide (x < y))) ∧ Below w.heap.size w w' := by
  refine EW.eEnter Try.func66 rfl Try.ntmps66 ?_
  all_goals try (refine EW.nm ?_)
  all_goals try ((first | refine EW.eRegL (id := 0) ?_ | refine EW.eReg (id := 0) ?_); refine EW.eBox ?_; refine EW.eBox ?_; refine EW.eAssign ?_; refine EW.eEnd ?_; (try refine EW.nm ?_))
  all_goals try ((first | refine EW.eRegL (id := 1) ?_ | refine EW.eReg (id := 1) ?_); refine EW.eLoadA (k := 21) ?_; refine EW.eLoadA (k := 21) ?_; refine EW.eCall Try.call64 (fun w => rneg y w (by omega)) ?_; refine EW.eCall Try.call63 (fun w => radd x (-y) w (by omega)) ?_; refine EW.eAlloc ?_; (first | refine EW.eStoreW (k := 21) ?_ | refine EW.eStore (k := 21) ?_); refine EW.eDraw ?_; (try refine EW.nm ?_))
  all_goals try ((first | refine EW.eRegL (id := 2) ?_ | refine EW.eReg (id := 2) ?_); refine EW.eFieldAddr (k := 1) ?_; refine EW.eLoad1 ?_; refine EW.eAssign ?_; refine EW.eEnd ?_; (try refine EW.nm ?_))
  all_goals try (with_reducible refine EW.parkK ?_)
  all_goals try (refine EW.Park.mk ?_)
  all_goals (refine EW.eLeaveP ?_; intro w' hW; refine ⟨?_, hW⟩)
  all_goals
    refine congrArg (fun b => Ending.returned (.bool b)) ?_
    rw [decide_eq_decide]; omega
theorem rtwo127 (w : World) : Calls Try.prog 65 #[.int .i64 127] w fun e w' => e = .returned (BZ 170141183460469231731687303715884105728) ∧ Below w.heap.size w w' := rtwo 127 w (by decide)
theorem rtwo128 (w : World) : Calls Try.prog 65 #[.int .i64 128] w fun e w' => e = .returned (BZ 340282366920938463463374607431768211456) ∧ Below w.heap.size w w' := rtwo 128 w (by decide)
/-- A number of 128 bits. -/
abbrev W2 (z : Int) : Value := .agg #[.int .i64 (z / 18446744073709551616), .int .u64 (z % 18446744073709551616)]
theorem lo_is (N : Nat) : N % 18446744073709551616 = dg N 0 + 65536 * dg N 1 + 4294967296 * dg N 2 + 281474976710656 * dg N 3 := by
  have h0 := mod_succ N 0
  have h1 := mod_succ N 1
  have h2 := mod_succ N 2
  have h3 := mod_succ N 3
  simp only [Nat.reduceAdd, Nat.reducePow, Nat.mod_one] at h0 h1 h2 h3
  omega
theorem hi_is (N : Nat) : N / 18446744073709551616 % 18446744073709551616 = dg N 4 + 65536 * dg N 5 + 4294967296 * dg N 6 + 281474976710656 * dg N 7 := by
  have h := lo_is (N / 18446744073709551616)
  have e : ∀ i, dg (N / 18446744073709551616) i = dg N (4 + i) := fun i => by
    unfold dg; rw [Nat.pow_add, Nat.div_div_eq_div_mul]
  rw [e, e, e, e] at h
  exact h
theorem dg_all (N : Nat) : dg N 0 < 65536 ∧ dg N 1 < 65536 ∧ dg N 2 < 65536 ∧ dg N 3 < 65536 ∧ dg N 4 < 65536 ∧ dg N 5 < 65536 ∧ dg N 6 < 65536 ∧ dg N 7 < 65536 :=
  ⟨dg_lt _ _, dg_lt _ _, dg_lt _ _, dg_lt _ _, dg_lt _ _, dg_lt _ _, dg_lt _ _, dg_lt _ _⟩
instance (b : Bool) (n i : Nat) : EW.GetC ((big b n).map C.v) (i + 1) (.v (.int .u64 ((dg n i : Nat) : Int))) (i < 20) := ⟨fun h => by
  rw [List.getElem?_map]; show Option.map _ (dgs n)[i]? = _; rw [dgs_get n h]; rfl⟩
theorem to_fin {z : Int} {N : Nat} (h : (N : Int) = z ∨ (N : Int) = z + 340282366920938463463374607431768211456) (hz : -170141183460469231731687303715884105728 ≤ z ∧ z < 170141183460469231731687303715884105728) :
    Ending.returned (.tuple #[.agg #[.int .i64 (IntKind.i64.wrap ((((0 + ((dg N 7 : Nat) : Int)) * 65536 + ((dg N 6 : Nat) : Int)) * 65536 + ((dg N 5 : Nat) : Int)) * 65536 + ((dg N 4 : Nat) : Int))), .int .u64 ((((0 + ((dg N 3 : Nat) : Int)) * 65536 + ((dg N 2 : Nat) : Int)) * 65536 + ((dg N 1 : Nat) : Int)) * 65536 + ((dg N 0 : Nat) : Int))], .bool true]) = Ending.returned (.tuple #[W2 z, .bool true]) := by
  have h1 := lo_is N
  have h2 := hi_is N
  have e1 : IntKind.i64.wrap ((((0 + ((dg N 7 : Nat) : Int)) * 65536 + ((dg N 6 : Nat) : Int)) * 65536 + ((dg N 5 : Nat) : Int)) * 65536 + ((dg N 4 : Nat) : Int)) = z / 18446744073709551616 := by
    rw [show (((0 + ((dg N 7 : Nat) : Int)) * 65536 + ((dg N 6 : Nat) : Int)) * 65536 + ((dg N 5 : Nat) : Int)) * 65536 + ((dg N 4 : Nat) : Int) = ((N / 18446744073709551616 % 18446744073709551616 : Nat) : Int) from by omega, IntKind.wrap_i64]
    clear h1 h2; omega
  have e2 : (((0 + ((dg N 3 : Nat) : Int)) * 65536 + ((dg N 2 : Nat) : Int)) * 65536 + ((dg N 1 : Nat) : Int)) * 65536 + ((dg N 0 : Nat) : Int) = z % 18446744073709551616 := by
    rw [show (((0 + ((dg N 3 : Nat) : Int)) * 65536 + ((dg N 2 : Nat) : Int)) * 65536 + ((dg N 1 : Nat) : Int)) * 65536 + ((dg N 0 : Nat) : Int) = ((N % 18446744073709551616 : Nat) : Int) from by omega]
    clear h1 h2 e1; omega
  rw [e1, e2]
theorem rto (z : Int) (w : World) (h : z.natAbs < 1606938044258990275541962092341162602522202993782792835301376) : Calls Try.prog 48 #[BZ z] w fun e w' => e = .returned (if -170141183460469231731687303715884105728 ≤ z ∧ z < 170141183460469231731687303715884105728 then .tuple #[W2 z, .bool true] else .tuple #[W2 0, .bool false]) ∧ Below w.heap.size w w' := by
  have hW := W20_lit
  have hd1 := dg_all z.natAbs
  have hd2 := dg_all (z + 340282366920938463463374607431768211456).natAbs
  refine EW.eEnter Try.func48 rfl Try.ntmps48 ?_
  all_goals try (refine EW.nm ?_)
  all_goals try ((first | refine EW.eRegL (id := 0) ?_ | refine EW.eReg (id := 0) ?_); refine EW.eBox ?_; refine EW.eAlloc ?_; refine EW.eAssign ?_; refine EW.eEnd ?_; (try refine EW.nm ?_))
  all_goals try ((first | refine EW.eRegL (id := 1) ?_ | refine EW.eReg (id := 1) ?_); (first | refine EW.eCall Try.call65 (fun w => rtwo127 w) ?_ | refine EW.eCall Try.call65 (fun w => rtwo128 w) ?_); refine EW.eAlloc ?_; (first | refine EW.eStoreW (k := 21) ?_ | refine EW.eStore (k := 21) ?_); refine EW.eEnd ?_; (try refine EW.nm ?_))
  all_goals try ((first | refine EW.eRegL (id := 2) ?_ | refine EW.eReg (id := 2) ?_); refine EW.eLoadA (k := 21) ?_; refine EW.eLoadA (k := 21) ?_; (first | refine EW.eCall Try.call66 (fun w => rlessZ z 170141183460469231731687303715884105728 w (by omega)) ?_ | refine EW.eCall Try.call66 (fun w => rlessZ z (-170141183460469231731687303715884105728) w (by omega)) ?_); refine EW.eNot ?_; refine EW.eMove ?_)
  all_goals try (refine EW.eGuard (j := 4) (o := ⟨some 14, _, _, _, _, _⟩) ?_ ?_ <;> (intro hb hb'; (try dsimp only at hb'); (try (exfalso; first | omega | with_reducible exact absurd rfl hb'))))
  all_goals try ((first | refine EW.eSkipF (j := 4) ?_ | refine EW.eSkipU (j := 4) ?_ | refine EW.eLoadA (k := 21) ?_); (first | refine EW.eSkipF (j := 4) ?_ | refine EW.eSkipU (j := 4) ?_ | refine EW.eLoadA (k := 21) ?_); (first | refine EW.eSkipF (j := 4) ?_ | refine EW.eSkipU (j := 4) ?_ | refine EW.eCall Try.call64 (fun w => rneg 170141183460469231731687303715884105728 w (by omega)) ?_); (first | refine EW.eSkipF (j := 4) ?_ | refine EW.eSkipU (j := 4) ?_ | refine EW.eCall Try.call66 (fun w => rlessZ z 170141183460469231731687303715884105728 w (by omega)) ?_ | refine EW.eCall Try.call66 (fun w => rlessZ z (-170141183460469231731687303715884105728) w (by omega)) ?_); (first | refine EW.ePickT ?_ | refine EW.ePickF ?_); refine EW.eDraw ?_; (try refine EW.nm ?_))
  all_goals try (first | refine EW.eYes (x := Operand.tmp 18) ?_ | refine EW.eNo (x := Operand.tmp 18) ?_ | (refine EW.eCond (x := Operand.tmp 18) ?_ ?_ <;> (intro hb hb'; (try dsimp only at hb'); (try (exfalso; first | omega | with_reducible exact absurd rfl hb')))))
  all_goals try (refine EW.nm ?_)
  all_goals try ((first | refine EW.eRegL (id := 3) ?_ | refine EW.eReg (id := 3) ?_); refine EW.eBuild (place := fun i => [(0, 1), (1, 1)][i]?) ?_; (first | refine EW.eStoreW (k := 2) ?_ | refine EW.eStore (k := 2) ?_); refine EW.eAssign ?_; refine EW.eEnd ?_; (try refine EW.nm ?_))
  all_goals try (with_reducible refine EW.parkK ?_)
  all_goals try ((first | refine EW.eRegL (id := 4) ?_ | refine EW.eReg (id := 4) ?_); refine EW.eFieldAddr (k := 1) ?_; refine EW.eLoad1 ?_; refine EW.eEnd ?_; (try refine EW.nm ?_))
  all_goals try (first | refine EW.eYes (x := Operand.tmp 21) ?_ | refine EW.eNo (x := Operand.tmp 21) ?_ | (refine EW.eCond (x := Operand.tmp 21) ?_ ?_ <;> (intro hb hb'; (try dsimp only at hb'); (try (exfalso; first | omega | with_reducible exact absurd rfl hb')))))
  all_goals try (refine EW.nm ?_)
  all_goals try ((first | refine EW.eRegL (id := 5) ?_ | refine EW.eReg (id := 5) ?_); refine EW.eLoadA (k := 21) ?_; (first | refine EW.eCall Try.call65 (fun w => rtwo127 w) ?_ | refine EW.eCall Try.call65 (fun w => rtwo128 w) ?_); refine EW.eCall Try.call63 (fun w => radd z 340282366920938463463374607431768211456 w (by omega)) ?_; (first | refine EW.eStoreW (k := 21) ?_ | refine EW.eStore (k := 21) ?_); refine EW.eDraw ?_; (try refine EW.nm ?_))
  all_goals try ((first | refine EW.eRegL (id := 6) ?_ | refine EW.eReg (id := 6) ?_); refine EW.eAssign ?_; refine EW.eEnd ?_; (try refine EW.nm ?_))
  all_goals try ((first | refine EW.eRegL (id := 7) ?_ | refine EW.eReg (id := 7) ?_); refine EW.eAssign ?_; refine EW.eEnd ?_; (try refine EW.nm ?_))
  all_goals try ((first | refine EW.eRegL (id := 8) ?_ | refine EW.eReg (id := 8) ?_); refine EW.eAssign ?_; refine EW.eEnd ?_; (try refine EW.nm ?_))
  all_goals try (refine EW.eUnroll 5 ?_)
  all_goals try (refine EW.nm ?_)
  iterate 5 (
    all_goals try ((first | refine EW.eRegL (id := 9) ?_ | refine EW.eReg (id := 9) ?_); refine EW.eMove ?_; refine EW.eGeq ?_; refine EW.eEnd ?_; (try refine EW.nm ?_))
    all_goals try (first | refine EW.eYes (x := Operand.tmp 26) ?_ | refine EW.eNo (x := Operand.tmp 26) ?_ | (refine EW.eCond (x := Operand.tmp 26) ?_ ?_ <;> (intro hb hb'; (try dsimp only at hb'); (try (exfalso; first | omega | with_reducible exact absurd rfl hb')))))
    all_goals try (refine EW.nm ?_)
    all_goals try ((first | refine EW.eRegL (id := 11) ?_ | refine EW.eReg (id := 11) ?_); refine EW.eMove ?_; refine EW.eMul ?_; refine EW.eMove ?_; refine EW.eFieldAddr (k := 20) ?_; refine EW.eIndexAddr (z := 1) ?_; refine EW.eLoad1 ?_; refine EW.eAdd ?_; refine EW.eAssign ?_; refine EW.eEnd ?_; (try refine EW.nm ?_))
    all_goals try ((first | refine EW.eRegL (id := 12) ?_ | refine EW.eReg (id := 12) ?_); refine EW.eMove ?_; refine EW.eMul ?_; refine EW.eMove ?_; refine EW.eAdd ?_; refine EW.eFieldAddr (k := 20) ?_; refine EW.eIndexAddr (z := 1) ?_; refine EW.eLoad1 ?_; refine EW.eAdd ?_; refine EW.eAssign ?_; refine EW.eEnd ?_; (try refine EW.nm ?_))
    all_goals try ((first | refine EW.eRegL (id := 10) ?_ | refine EW.eReg (id := 10) ?_); refine EW.eMove ?_; refine EW.eSub ?_; refine EW.eAssign ?_; refine EW.eEnd ?_; (try refine EW.nm ?_)))
  all_goals try ((first | refine EW.eRegL (id := 13) ?_ | refine EW.eReg (id := 13) ?_); refine EW.eMove ?_; refine EW.eConv ?_; refine EW.eMove ?_; refine EW.eBuild (place := fun i => [(0, 1), (1, 1)][i]?) ?_; (first | refine EW.eStoreW (k := 2) ?_ | refine EW.eStore (k := 2) ?_); refine EW.eAssign ?_; refine EW.eEnd ?_; (try refine EW.nm ?_))
  all_goals try (with_reducible refine EW.parkK ?_)
  all_goals try (refine EW.Park.mk ?_)
  all_goals (refine EW.eLeaveP ?_; intro w' hW; refine ⟨?_, hW⟩)
  · rw [if_neg (by omega)]; rfl
  · rw [if_neg (by omega)]; rfl
  · rw [if_pos (by omega)]; exact to_fin (by omega) (by omega)
  · rw [if_pos (by omega)]; exact to_fin (by omega) (by omega)
end Go.Proofs.Ythclhmdgfekaeaa
namespace Go.Proofs.Ythclhmdgfekaeaa
set_option linter.unusedSimpArgs false
set_option linter.unusedVariables false
open Go.RowKit EV
open SX (Wr Tv Qu Rm Sh Is conjP eqs_iff eqs_false)
open EW (PlL PlT PlV PlVs LfV Mm Bt Opn GV)
set_option maxRecDepth 20000
def shd (n k : Nat) : Nat := n / 2 ^ k
theorem shd_zero (n : Nat) : shd n 0 = n := by simp [shd]
theorem shd_succ (n k : Nat) : shd n (k + 1) = shd n k / 2 := by unfold shd; rw [Nat.pow_succ, Nat.div_div_eq_div_mul]
theorem shd_le (n k : Nat) : shd n k ≤ n := Nat.div_le_self _ _
theorem shd_next (n k : Nat) : ((shd n k : Nat) : Int) / 2 = ((shd n (k + 1) : Nat) : Int) := by rw [shd_succ]; omega
theorem div_i (i : Nat) : (((i : Int) - 1) / 16).toNat = (i - 1) / 16 := by omega
def divB (a d i : Nat) : Nat := divR a d i + divR a d i + a / 2 ^ (i - 1) % 2
theorem divB_le (a d i : Nat) : divB a d i ≤ divR a d i + divR a d i + 1 := by
  unfold divB; have := Nat.mod_lt (a / 2 ^ (i - 1)) (show 2 > 0 by decide); omega
theorem dg_even (r : Nat) : dg (r + r) 0 ≤ 65534 := by
  have h1 := dg_lt (r + r) 0
  have h2 : dg (r + r) 0 % 2 = 0 := by unfold dg; simp only [Nat.pow_zero, Nat.div_one]; omega
  omega
theorem set_lowE {r b : Nat} : setD (r + r) 0 (dg (r + r) 0 + b) = r + r + b := by
  have := set_add (r + r) 0 (dg (r + r) 0 + b)
  simp only [Nat.pow_zero, Nat.mul_one] at this; omega
theorem div_low {a d i k : Nat} (hi : 0 < i) (hk : k = (i - 1) % 16) : big false (setD (divR a d i + divR a d i) 0 (((dg (divR a d i + divR a d i) 0 : Nat) : Int) + ((shd (dg a (((i : Int) - 1) / 16).toNat) k : Nat) : Int) % 2).toNat) = big false (divB a d i) := by
  subst hk
  rw [div_i]
  have e := bit_is a (i - 1)
  have e2 : (((dg (divR a d i + divR a d i) 0 : Nat) : Int) + ((shd (dg a ((i - 1) / 16)) ((i - 1) % 16) : Nat) : Int) % 2).toNat = dg (divR a d i + divR a d i) 0 + shd (dg a ((i - 1) / 16)) ((i - 1) % 16) % 2 := by omega
  rw [e2, set_lowE]
  unfold shd divB
  rw [e]
theorem div_lt {a d i : Nat} (hd : 0 < d) (hi : 0 < i) (h : divB a d i < d) : divB a d i = divR a d (i - 1) ∧ divQ a d i + divQ a d i = divQ a d (i - 1) := by
  obtain ⟨k, rfl⟩ : ∃ k, i = k + 1 := ⟨i - 1, by omega⟩
  have := (div_round (a := a) (i := k) hd).1
  unfold divB at *
  simp only [Nat.add_sub_cancel] at *
  obtain ⟨h1, h2⟩ := this (by omega)
  rw [h1, h2]; omega
theorem div_ge {a d i : Nat} (hd : 0 < d) (hi : 0 < i) (h : ¬ divB a d i < d) : divB a d i - d = divR a d (i - 1) ∧ divQ a d i + divQ a d i + 1 = divQ a d (i - 1) := by
  obtain ⟨k, rfl⟩ : ∃ k, i = k + 1 := ⟨i - 1, by omega⟩
  have := (div_round (a := a) (i := k) hd).2
  unfold divB at *
  simp only [Nat.add_sub_cancel] at *
  obtain ⟨h1, h2⟩ := this (by omega)
  rw [h1, h2]; omega
theorem div_q1 (q : Nat) : big false (setD (q + q) 0 (((dg (q + q) 0 : Nat) : Int) + 1).toNat) = big false (q + q + 1) := by
  have e : (((dg (q + q) 0 : Nat) : Int) + 1).toNat = dg (q + q) 0 + 1 := by omega
  rw [e, set_lowE]
theorem divR_lt {a d i : Nat} (hd : 0 < d) : divR a d i < d := Nat.mod_lt _ hd
theorem divQ_le (a d i : Nat) : divQ a d i ≤ a := Nat.le_trans (Nat.div_le_self _ _) (Nat.div_le_self _ _)
theorem div_begin {a d : Nat} (h : a < 65536 ^ 9) : divR a d 144 = 0 ∧ divQ a d 144 = 0 := by
  unfold divR divQ; rw [Nat.div_eq_of_lt (by simpa using h)]; simp
theorem div_done (a d : Nat) : divR a d 0 = a % d ∧ divQ a d 0 = a / d := by simp [divR, divQ]
theorem W20_nine : 65536 ^ 9 * 65536 ^ 9 * 4 < W20 := by decide
theorem rof1 (w : World) : Calls Try.prog 46 #[.int .i64 1] w fun e w' => e = .returned (Bg false 1) ∧ Below w.heap.size w w' := rof 1 w (by omega) (by omega)
theorem radd1 (n : Nat) (w : World) (h : n + 1 < W20) : Calls Try.prog 63 #[Bg false n, Bg false 1] w fun e w' => e = .returned (Bg false (n + 1)) ∧ Below w.heap.size w w' := by
  have := raddB false false n 1 w h
  rwa [if_pos rfl, Bool.false_and] at this
theorem big_z {B : Bool} {N : Nat} {z : Int} (h : N = z.natAbs) (h' : B = decide (z < 0)) : big B N = big (decide (z < 0)) z.natAbs := by rw [h, h']
theorem prod_z {z c : Int} (h : z.natAbs < 65536 ^ 9) (h' : c.natAbs < 65536 ^ 9) : (z * c).natAbs < 65536 ^ 9 * 65536 ^ 9 := by
  rw [Int.natAbs_mul]; exact Nat.mul_lt_mul'' h h'
set_option maxHeartbeats 4000000 in
theorem rdiv_walk (x c z : Int) (q r : Nat) (w : World) (hr : divR x.natAbs c.natAbs 0 = r) (hq : divQ x.natAbs c.natAbs 0 = q) (ha : x.natAbs < 65536 ^ 9) (hd : 0 < c.natAbs) (hd' : c.natAbs < 65536 ^ 9) (hz : z.natAbs < 65536 ^ 9) (hqa : q ≤ x.natAbs) (hrd : r < c.natAbs)
    (h1 : ¬ decide (x < 0) = decide (c < 0) → ¬ r = 0 → z = -((q : Int) + 1)) (h2 : ¬ decide (x < 0) = decide (c < 0) → r = 0 → z = -(q : Int)) (h3 : decide (x < 0) = decide (c < 0) → z = q) : Calls Try.prog 47 #[BZ x, BZ c] w fun e w' => e = .returned (.tuple #[BZ z, BZ (x + -(z * c)), .int .i64 0]) ∧ Below w.heap.size w w' := by
  have hW := W20_nine
  have hp := prod_z hz hd'
  refine EW.eEnter Try.func47 rfl Try.ntmps47 ?_
  all_goals try (refine EW.nm ?_)
  all_goals try ((first | refine EW.eRegL (id := 0) ?_ | refine EW.eReg (id := 0) ?_); refine EW.eBox ?_; refine EW.eBox ?_; refine EW.eAlloc ?_; refine EW.eAlloc ?_; refine EW.eAssign ?_; refine EW.eEnd ?_; (try refine EW.nm ?_))
  all_goals try ((first | refine EW.eRegL (id := 1) ?_ | refine EW.eReg (id := 1) ?_); refine EW.eLoadA (k := 21) ?_; (first | refine EW.eCall Try.call59 (fun w => rnone false r w (by omega)) ?_ | refine EW.eCall Try.call59 (fun w => rnone false q w (by omega)) ?_ | refine EW.eCall Try.call59 (fun w => rnone false (q + 1) w (by omega)) ?_ | refine EW.eCall Try.call59 (fun w => rnone (decide (c < 0)) c.natAbs w (by omega)) ?_); refine EW.eEnd ?_; (try refine EW.nm ?_))
  all_goals try (first | refine EW.eYes (x := Operand.tmp 14) ?_ | refine EW.eNo (x := Operand.tmp 14) ?_ | (refine EW.eCond (x := Operand.tmp 14) ?_ ?_ <;> (intro hb hb'; (try dsimp only at hb'); (try (exfalso; first | omega | with_reducible exact absurd rfl hb')))))
  all_goals try (refine EW.nm ?_)
  all_goals try ((first | refine EW.eRegL (id := 2) ?_ | refine EW.eReg (id := 2) ?_); refine EW.eBuild (place := fun i => [(0, 1), (1, 20)][i]?) ?_; refine EW.eBuild (place := fun i => [(0, 1), (1, 20)][i]?) ?_; (first | refine EW.eStoreW (k := 21) ?_ | refine EW.eStore (k := 21) ?_); (first | refine EW.eStoreW (k := 21) ?_ | refine EW.eStore (k := 21) ?_); refine EW.eAssign ?_; refine EW.eEnd ?_; (try refine EW.nm ?_))
  all_goals try (with_reducible refine EW.parkK ?_)
  all_goals try ((first | refine EW.eRegL (id := 3) ?_ | refine EW.eReg (id := 3) ?_); refine EW.eAlloc ?_; refine EW.eEnd ?_; (try refine EW.nm ?_))
  all_goals try ((first | refine EW.eRegL (id := 4) ?_ | refine EW.eReg (id := 4) ?_); refine EW.eAlloc ?_; refine EW.eEnd ?_; (try refine EW.nm ?_))
  all_goals (try (refine EW.eToW 50 true (big false 0) ?_; refine EW.eToW 60 true (big false 0) ?_))
  all_goals try ((first | refine EW.eRegL (id := 5) ?_ | refine EW.eReg (id := 5) ?_); refine EW.eLoadA (k := 21) ?_; refine EW.eAlloc ?_; (first | refine EW.eStoreW (k := 21) ?_ | refine EW.eStore (k := 21) ?_); refine EW.eEnd ?_; (try refine EW.nm ?_))
  all_goals try ((first | refine EW.eRegL (id := 6) ?_ | refine EW.eReg (id := 6) ?_); refine EW.eFieldAddr (k := 1) ?_; (first | refine EW.eStoreW (k := 1) ?_ | refine EW.eStore (k := 1) ?_); refine EW.eEnd ?_; (try refine EW.nm ?_))
  all_goals try ((first | refine EW.eRegL (id := 7) ?_ | refine EW.eReg (id := 7) ?_); refine EW.eAssign ?_; refine EW.eEnd ?_; (try refine EW.nm ?_))
  all_goals first | (fail_if_success (refine EW.eUnroll 1 ?_)) | (refine EW.eLoopD [10, 11, 12, 19, 20, 21, 22, 23, 24, 25, 26, 27, 28, 29, 30, 31, 32, 33, 34, 35, 36, 37, 38, 39, 40, 41, 42, 43, 44, 45, 46, 47, 48, 49, 50, 51, 52, 53, 54, 55, 56, 57, 58, 59, 60, 61, 62] 1000000 (fun j : {i : Nat // i ≤ 144} => [(.t 10, .v (.c (.v (.int .i64 ((j.1 : Int) - 1))))), (.b 60, .b (.w true (big false (divR x.natAbs c.natAbs j.1)))), (.b 50, .b (.w true (big false (divQ x.natAbs c.natAbs j.1))))]) (fun j => j.1) (⟨144, by omega⟩) (by ((repeat (first | exact EW.subW.nil | refine EW.subW.cons rfl ?_ | refine EW.subW.conv rfl ?_ (by first | exact EW.kvW (by rw [(div_begin ha).1]) | exact EW.kvW (by rw [(div_begin ha).2]) | exact EW.kvW (by rw [(div_lt hd (by omega) (by assumption)).1]) | exact EW.kvW (by rw [(div_lt hd (by omega) (by assumption)).2]) | exact EW.kvW (by rw [(div_ge hd (by omega) (by omega)).1]) | exact EW.kvW (by rw [(div_ge hd (by omega) (by omega)).2])) | refine EW.subW.conv rfl ?_)); (first | done | fail))) ?_; rintro hcl8 ⟨i, hi⟩; (try dsimp only))
  all_goals try (refine EW.nm ?_)
  all_goals try ((first | refine EW.eRegL (id := 8) ?_ | refine EW.eReg (id := 8) ?_); refine EW.eMove ?_; refine EW.eGeq ?_; refine EW.eEnd ?_; (try refine EW.nm ?_))
  all_goals try (first | refine EW.eYes (x := Operand.tmp 20) ?_ | refine EW.eNo (x := Operand.tmp 20) ?_ | (refine EW.eCond (x := Operand.tmp 20) ?_ ?_ <;> (intro hb hb'; (try dsimp only at hb'); (try (exfalso; first | omega | with_reducible exact absurd rfl hb')))))
  all_goals try (refine EW.nm ?_)
  all_goals (try (have hr1 := divR_lt (a := x.natAbs) (i := i) hd; have hr2 := divQ_le x.natAbs c.natAbs i; have hr3 := dg_even (divR x.natAbs c.natAbs i); have hr4 := dg_even (divQ x.natAbs c.natAbs i); have hr5 := divB_le x.natAbs c.natAbs i))
  all_goals try ((first | refine EW.eRegL (id := 10) ?_ | refine EW.eReg (id := 10) ?_); refine EW.eLoadA (k := 21) ?_; refine EW.eLoadA (k := 21) ?_; (first | refine EW.eCall Try.call60 (fun w => rmore_in false false (divR x.natAbs c.natAbs i) (divR x.natAbs c.natAbs i) w (by omega)) ?_ | refine EW.eCall Try.call60 (fun w => rmore_in false false (divQ x.natAbs c.natAbs i) (divQ x.natAbs c.natAbs i) w (by omega)) ?_); (first | refine EW.eStoreW (k := 21) ?_ | refine EW.eStore (k := 21) ?_); refine EW.eEnd ?_; (try refine EW.nm ?_))
  all_goals try ((first | refine EW.eRegL (id := 11) ?_ | refine EW.eReg (id := 11) ?_); refine EW.eMove ?_; refine EW.eQuo ?_; refine EW.eFieldAddr (k := 20) ?_; refine EW.eIndexAddr (z := 1) ?_; refine EW.eLoad1 ?_; refine EW.eAssign ?_; refine EW.eEnd ?_; (try refine EW.nm ?_))
  all_goals try ((first | refine EW.eRegL (id := 12) ?_ | refine EW.eReg (id := 12) ?_); refine EW.eAssign ?_; refine EW.eEnd ?_; (try refine EW.nm ?_))
  all_goals first | (fail_if_success (refine EW.eUnroll 1 ?_)) | (refine EW.eLoopD [11, 12, 31, 32, 33, 34, 35, 36, 37, 38] 1000000 (fun j : {k : Nat // k ≤ (i - 1) % 16} => [(.t 12, .v (.c (.v (.int .i64 (j.1 : Int))))), (.t 11, .v (.c (.v (.int .u64 ((shd (dg x.natAbs (((i : Int) - 1) / 16).toNat) j.1 : Nat) : Int)))))]) (fun j => (i - 1) % 16 - j.1) (⟨0, by omega⟩) (by ((repeat (first | exact EW.subW.nil | refine EW.subW.cons rfl ?_ | refine EW.subW.conv rfl ?_ (by first | exact EW.kvI (shd_next _ _) | exact EW.kvI (by rw [shd_zero])) | refine EW.subW.conv rfl ?_)); (first | done | fail))) ?_; rintro hcl13 ⟨k, hk⟩; (try dsimp only))
  all_goals try (refine EW.nm ?_)
  all_goals try ((first | refine EW.eRegL (id := 13) ?_ | refine EW.eReg (id := 13) ?_); refine EW.eMove ?_; refine EW.eMove ?_; refine EW.eRem ?_; refine EW.eLss ?_; refine EW.eEnd ?_; (try refine EW.nm ?_))
  all_goals try (first | refine EW.eYes (x := Operand.tmp 34) ?_ | refine EW.eNo (x := Operand.tmp 34) ?_ | (refine EW.eCond (x := Operand.tmp 34) ?_ ?_ <;> (intro hb hb'; (try dsimp only at hb'); (try (exfalso; first | omega | with_reducible exact absurd rfl hb')))))
  all_goals try (refine EW.nm ?_)
  all_goals (try (have hs1 := shd_le (dg x.natAbs (((i : Int) - 1) / 16).toNat) k; have hs2 := dg_lt x.natAbs (((i : Int) - 1) / 16).toNat))
  all_goals try ((first | refine EW.eRegL (id := 15) ?_ | refine EW.eReg (id := 15) ?_); refine EW.eMove ?_; refine EW.eQuo ?_; refine EW.eAssign ?_; refine EW.eEnd ?_; (try refine EW.nm ?_))
  all_goals try ((first | refine EW.eRegL (id := 14) ?_ | refine EW.eReg (id := 14) ?_); refine EW.eMove ?_; refine EW.eAdd ?_; refine EW.eAssign ?_; refine EW.eEnd ?_; (try refine EW.nm ?_))
  all_goals first | (fail_if_success (with_reducible refine EW.isLater ?_)) | (refine EW.eLaterD (⟨k + 1, by omega⟩) (by dsimp only; omega) (by ((repeat (first | exact EW.subW.nil | refine EW.subW.cons rfl ?_ | refine EW.subW.conv rfl ?_ (by first | exact EW.kvI (shd_next _ _) | exact EW.kvI (by rw [shd_zero])) | refine EW.subW.conv rfl ?_)); (first | done | fail))) hcl13)
  all_goals try (refine EW.nm ?_)
  all_goals try ((first | refine EW.eRegL (id := 16) ?_ | refine EW.eReg (id := 16) ?_); refine EW.eFieldAddr (k := 20) ?_; refine EW.eIndexAddr (z := 1) ?_; refine EW.eLoad1 ?_; refine EW.eMove ?_; refine EW.eRem ?_; refine EW.eAdd ?_; refine EW.eFieldAddr (k := 20) ?_; refine EW.eIndexAddr (z := 1) ?_; (first | refine EW.eStoreW (k := 1) ?_ | refine EW.eStore (k := 1) ?_); refine EW.eEnd ?_; (try refine EW.nm ?_))
  all_goals (try rw [div_low (by omega) (by omega)])
  all_goals try ((first | refine EW.eRegL (id := 17) ?_ | refine EW.eReg (id := 17) ?_); refine EW.eLoadA (k := 21) ?_; refine EW.eLoadA (k := 21) ?_; (first | refine EW.eCall Try.call60 (fun w => rmore_in false false (divR x.natAbs c.natAbs i) (divR x.natAbs c.natAbs i) w (by omega)) ?_ | refine EW.eCall Try.call60 (fun w => rmore_in false false (divQ x.natAbs c.natAbs i) (divQ x.natAbs c.natAbs i) w (by omega)) ?_); (first | refine EW.eStoreW (k := 21) ?_ | refine EW.eStore (k := 21) ?_); refine EW.eEnd ?_; (try refine EW.nm ?_))
  all_goals try ((first | refine EW.eRegL (id := 18) ?_ | refine EW.eReg (id := 18) ?_); refine EW.eLoadA (k := 21) ?_; refine EW.eLoadA (k := 21) ?_; refine EW.eCall Try.call61 (fun w => rless false false (divB x.natAbs c.natAbs i) c.natAbs w (by omega) (by omega)) ?_; refine EW.eNot ?_; refine EW.eEnd ?_; (try refine EW.nm ?_))
  all_goals try (first | refine EW.eYes (x := Operand.tmp 53) ?_ | refine EW.eNo (x := Operand.tmp 53) ?_ | (refine EW.eCond (x := Operand.tmp 53) ?_ ?_ <;> (intro hb hb'; (try dsimp only at hb'); (try (exfalso; first | omega | with_reducible exact absurd rfl hb')))))
  all_goals try (refine EW.nm ?_)
  all_goals try ((first | refine EW.eRegL (id := 19) ?_ | refine EW.eReg (id := 19) ?_); refine EW.eLoadA (k := 21) ?_; refine EW.eLoadA (k := 21) ?_; refine EW.eCall Try.call62 (fun w => raway_in false false (divB x.natAbs c.natAbs i) c.natAbs w (by omega) (by omega)) ?_; (first | refine EW.eStoreW (k := 21) ?_ | refine EW.eStore (k := 21) ?_); refine EW.eEnd ?_; (try refine EW.nm ?_))
  all_goals try ((first | refine EW.eRegL (id := 20) ?_ | refine EW.eReg (id := 20) ?_); refine EW.eFieldAddr (k := 20) ?_; refine EW.eIndexAddr (z := 1) ?_; refine EW.eLoad1 ?_; refine EW.eAdd ?_; refine EW.eFieldAddr (k := 20) ?_; refine EW.eIndexAddr (z := 1) ?_; (first | refine EW.eStoreW (k := 1) ?_ | refine EW.eStore (k := 1) ?_); refine EW.eEnd ?_; (try refine EW.nm ?_))
  all_goals (try rw [div_q1])
  all_goals try ((first | refine EW.eRegL (id := 9) ?_ | refine EW.eReg (id := 9) ?_); refine EW.eMove ?_; refine EW.eSub ?_; refine EW.eAssign ?_; refine EW.eEnd ?_; (try refine EW.nm ?_))
  all_goals first | (fail_if_success (with_reducible refine EW.isLater ?_)) | (refine EW.eLaterD (⟨i - 1, by omega⟩) (by dsimp only; omega) (by ((repeat (first | exact EW.subW.nil | refine EW.subW.cons rfl ?_ | refine EW.subW.conv rfl ?_ (by first | exact EW.kvW (by rw [(div_begin ha).1]) | exact EW.kvW (by rw [(div_begin ha).2]) | exact EW.kvW (by rw [(div_lt hd (by omega) (by assumption)).1]) | exact EW.kvW (by rw [(div_lt hd (by omega) (by assumption)).2]) | exact EW.kvW (by rw [(div_ge hd (by omega) (by omega)).1]) | exact EW.kvW (by rw [(div_ge hd (by omega) (by omega)).2])) | refine EW.subW.conv rfl ?_)); (first | done | fail))) hcl8)
  all_goals try (refine EW.nm ?_)
  all_goals (try (obtain rfl : i = 0 := (by omega); rw [hr, hq]))
  all_goals try ((first | refine EW.eRegL (id := 21) ?_ | refine EW.eReg (id := 21) ?_); refine EW.eFieldAddr (k := 1) ?_; refine EW.eLoad1 ?_; refine EW.eFieldAddr (k := 1) ?_; refine EW.eLoad1 ?_; refine EW.eNeqB ?_; refine EW.eMove ?_)
  all_goals try (refine EW.eGuard (j := 5) (o := ⟨some 69, _, _, _, _, _⟩) ?_ ?_ <;> (intro hb hb'; (try dsimp only at hb'); (try (exfalso; first | omega | with_reducible exact absurd rfl hb'))))
  all_goals try ((first | refine EW.eSkipT (j := 5) ?_ | refine EW.eSkipU (j := 5) ?_ | refine EW.eLoadA (k := 21) ?_); (first | refine EW.eSkipT (j := 5) ?_ | refine EW.eSkipU (j := 5) ?_ | refine EW.eCall Try.call59 (fun w => rnone false r w (by omega)) ?_ | refine EW.eCall Try.call59 (fun w => rnone false q w (by omega)) ?_ | refine EW.eCall Try.call59 (fun w => rnone false (q + 1) w (by omega)) ?_ | refine EW.eCall Try.call59 (fun w => rnone (decide (c < 0)) c.natAbs w (by omega)) ?_); (first | refine EW.eSkipT (j := 5) ?_ | refine EW.eSkipU (j := 5) ?_ | refine EW.eNot ?_); (first | refine EW.ePickT ?_ | refine EW.ePickF ?_); refine EW.eEnd ?_; (try refine EW.nm ?_))
  all_goals try (first | refine EW.eYes (x := Operand.tmp 72) ?_ | refine EW.eNo (x := Operand.tmp 72) ?_ | (refine EW.eCond (x := Operand.tmp 72) ?_ ?_ <;> (intro hb hb'; (try dsimp only at hb'); (try (exfalso; first | omega | with_reducible exact absurd rfl hb')))))
  all_goals try (refine EW.nm ?_)
  all_goals try ((first | refine EW.eRegL (id := 22) ?_ | refine EW.eReg (id := 22) ?_); refine EW.eLoadA (k := 21) ?_; refine EW.eCall Try.call46 (fun w => rof1 w) ?_; (first | refine EW.eCall Try.call63 (fun w => radd1 q w (by omega)) ?_ | refine EW.eCall Try.call63 (fun w => radd x (-(z * c)) w (by omega)) ?_); (first | refine EW.eStoreW (k := 21) ?_ | refine EW.eStore (k := 21) ?_); refine EW.eDraw ?_; (try refine EW.nm ?_))
  all_goals try ((first | refine EW.eRegL (id := 23) ?_ | refine EW.eReg (id := 23) ?_); refine EW.eFieldAddr (k := 1) ?_; refine EW.eLoad1 ?_; refine EW.eFieldAddr (k := 1) ?_; refine EW.eLoad1 ?_; refine EW.eNeqB ?_; refine EW.eMove ?_)
  all_goals try (refine EW.eGuard (j := 5) (o := ⟨some 82, _, _, _, _, _⟩) ?_ ?_ <;> (intro hb hb'; (try dsimp only at hb'); (try (exfalso; first | omega | with_reducible exact absurd rfl hb'))))
  all_goals try ((first | refine EW.eSkipT (j := 5) ?_ | refine EW.eSkipU (j := 5) ?_ | refine EW.eLoadA (k := 21) ?_); (first | refine EW.eSkipT (j := 5) ?_ | refine EW.eSkipU (j := 5) ?_ | refine EW.eCall Try.call59 (fun w => rnone false r w (by omega)) ?_ | refine EW.eCall Try.call59 (fun w => rnone false q w (by omega)) ?_ | refine EW.eCall Try.call59 (fun w => rnone false (q + 1) w (by omega)) ?_ | refine EW.eCall Try.call59 (fun w => rnone (decide (c < 0)) c.natAbs w (by omega)) ?_); (first | refine EW.eSkipT (j := 5) ?_ | refine EW.eSkipU (j := 5) ?_ | refine EW.eNot ?_); (first | refine EW.ePickT ?_ | refine EW.ePickF ?_); refine EW.eFieldAddr (k := 1) ?_; (first | refine EW.eStoreW (k := 1) ?_ | refine EW.eStore (k := 1) ?_); refine EW.eEnd ?_; (try refine EW.nm ?_))
  all_goals (try (first | (have e := h1 (by assumption) (by assumption); rw [big_z (B := true) (N := q + 1) (z := z) (by omega) (by rw [Bool.eq_iff_iff]; simp; omega)]) | (have e := h2 (by assumption) (by assumption); rw [big_z (B := !decide (q = 0)) (N := q) (z := z) (by omega) (by rw [Bool.eq_iff_iff]; simp; omega)]) | (have e := h3 (by assumption); rw [big_z (B := false) (N := q) (z := z) (by omega) (by rw [Bool.eq_iff_iff]; simp; omega)])))
  all_goals try ((first | refine EW.eRegL (id := 24) ?_ | refine EW.eReg (id := 24) ?_); refine EW.eLoadA (k := 21) ?_; refine EW.eLoadA (k := 21) ?_; refine EW.eLoadA (k := 21) ?_; refine EW.eLoadA (k := 21) ?_; refine EW.eCall Try.call45 (fun w => rmulZ z c w (by omega) hd') ?_; refine EW.eCall Try.call64 (fun w => rneg (z * c) w (by omega)) ?_; (first | refine EW.eCall Try.call63 (fun w => radd1 q w (by omega)) ?_ | refine EW.eCall Try.call63 (fun w => radd x (-(z * c)) w (by omega)) ?_); (first | refine EW.eStoreW (k := 21) ?_ | refine EW.eStore (k := 21) ?_); (first | refine EW.eStoreW (k := 21) ?_ | refine EW.eStore (k := 21) ?_); refine EW.eAssign ?_; refine EW.eDraw ?_; (try refine EW.nm ?_))
  all_goals try (with_reducible refine EW.parkK ?_)
  all_goals try (refine EW.Park.mk ?_)
  all_goals (refine EW.eLeaveP ?_; intro w' hW; refine ⟨?_, hW⟩)
  all_goals rfl
theorem fdiv_cases {x c z : Int} (hc : c ≠ 0) (hz : x.fdiv c = z) : (¬ decide (x < 0) = decide (c < 0) → ¬ x.natAbs % c.natAbs = 0 → z = -(((x.natAbs / c.natAbs : Nat) : Int) + 1)) ∧ (¬ decide (x < 0) = decide (c < 0) → x.natAbs % c.natAbs = 0 → z = -((x.natAbs / c.natAbs : Nat) : Int)) ∧ (decide (x < 0) = decide (c < 0) → z = ((x.natAbs / c.natAbs : Nat) : Int)) := by
  subst hz
  have hd : 0 < c.natAbs := by omega
  have key : ∀ z : Int, (0 ≤ x - z * c ∧ x - z * c < c) ∨ (c < x - z * c ∧ x - z * c ≤ 0) → x.fdiv c = z := fun z h => by
    have e1 := Int.fdiv_mul_add_fmod x c
    have h2 : x.fmod c = x - x.fdiv c * c := by omega
    have : (0 ≤ x.fmod c ∧ x.fmod c < c) ∨ (c < x.fmod c ∧ x.fmod c ≤ 0) := by
      rcases Int.lt_or_gt_of_ne hc with h0 | h0
      · right
        have h3 := Int.fmod_nonneg_of_pos (-x) (show 0 < -c by omega)
        have h4 := Int.fmod_lt_of_pos (-x) (show 0 < -c by omega)
        rw [Int.neg_fmod_neg] at h3 h4; omega
      · left; exact ⟨Int.fmod_nonneg_of_pos x h0, Int.fmod_lt_of_pos x h0⟩
    rw [h2] at this
    generalize x.fdiv c = y at *
    -- (z - y) * c is between -|c| and |c|
    have e : (z - y) * c = (x - y * c) - (x - z * c) := by rw [Int.sub_mul]; omega
    generalize x - y * c = u at *
    generalize x - z * c = v at *
    rcases Int.lt_trichotomy (z - y) 0 with h5 | h5 | h5
    · rcases Int.lt_or_gt_of_ne hc with h0 | h0
      · have := Int.mul_le_mul_of_nonpos_right (show z - y ≤ -1 by omega) (show c ≤ 0 by omega); omega
      · have := Int.mul_le_mul_of_nonneg_right (show z - y ≤ -1 by omega) (show 0 ≤ c by omega); omega
    · omega
    · rcases Int.lt_or_gt_of_ne hc with h0 | h0
      · have := Int.mul_le_mul_of_nonpos_right (show 1 ≤ z - y by omega) (show c ≤ 0 by omega); omega
      · have := Int.mul_le_mul_of_nonneg_right (show 1 ≤ z - y by omega) (show 0 ≤ c by omega); omega
  have hm := Nat.mod_add_div x.natAbs c.natAbs
  have hl := Nat.mod_lt x.natAbs hd
  have hm2 : ((x.natAbs % c.natAbs : Nat) : Int) + (c.natAbs : Int) * ((x.natAbs / c.natAbs : Nat) : Int) = (x.natAbs : Int) := by rw [← Int.natCast_mul, ← Int.natCast_add, hm]
  generalize x.natAbs / c.natAbs = q at *
  generalize x.natAbs % c.natAbs = r at *
  rw [Int.mul_comm] at hm2
  refine ⟨fun h hr => key _ ?_, fun h hr => key _ ?_, fun h => key _ ?_⟩ <;> rw [decide_eq_decide] at h <;> rcases Int.lt_or_gt_of_ne hc with h0 | h0
  all_goals first | rw [show (c.natAbs : Int) = -c from by omega, Int.mul_neg] at hm2 | rw [show (c.natAbs : Int) = c from by omega] at hm2
  all_goals (try simp only [Int.neg_mul, Int.add_mul, Int.one_mul])
  all_goals generalize (q : Int) * c = p at *
  all_goals omega
theorem rdiv (x c : Int) (w : World) (ha : x.natAbs < 1606938044258990275541962092341162602522202) (hc : c ≠ 0) (hd' : c.natAbs < 1606938044258990275541962092341162602522202) : Calls Try.prog 47 #[BZ x, BZ c] w fun e w' => e = .returned (.tuple #[BZ (x.fdiv c), BZ (x + -(x.fdiv c * c)), .int .i64 0]) ∧ Below w.heap.size w w' := by
  obtain ⟨h1, h2, h3⟩ := fdiv_cases (x := x) hc rfl
  have hd : 0 < c.natAbs := by omega
  have hqa := Nat.div_le_self x.natAbs c.natAbs
  refine rdiv_walk x c (x.fdiv c) (x.natAbs / c.natAbs) (x.natAbs % c.natAbs) w (div_done _ _).1 (div_done _ _).2 (by omega) hd (by omega) ?_ hqa (Nat.mod_lt _ hd) h1 h2 h3
  generalize x.natAbs / c.natAbs = q at *
  generalize x.natAbs % c.natAbs = r at *
  generalize x.fdiv c = z at *
  by_cases hs : decide (x < 0) = decide (c < 0)
  · have := h3 hs; omega
  · by_cases hr : r = 0
    · have := h2 hs hr; omega
    · have := h1 hs hr; omega
end Go.Proofs.Ythclhmdgfekaeaa
