/- Package wide: numbers of 128 bits: Of, size, turned, Mul, plus, Add, Sub. -/
import Derived.Test.YthclhmdgfekaeaaLib
import Derived.Test.YthclhmdgfekaeaaDiv64
import Derived.Shelf.Spec.BitsCarry
namespace Go.Proofs.Ythclhmdgfekaeaa
open Go.RowKit Go.Shelf

theorem add64 (x y c : Int) (hx : 0 ≤ x) (hx' : x < 18446744073709551616) (hy : 0 ≤ y) (hy' : y < 18446744073709551616) (hc0 : 0 ≤ c) (hc : c ≤ 1) (w : World) : (callFunc 88 #[.int .u64 x, .int .u64 y, .int .u64 c]).run Try.prog w =
    .ok (.value (.tuple #[.int .u64 ((x + y + c) % 18446744073709551616), .int .u64 ((x + y + c) / 18446744073709551616)])) w := by
  obtain ⟨x, rfl⟩ := Int.eq_ofNat_of_zero_le hx
  obtain ⟨y, rfl⟩ := Int.eq_ofNat_of_zero_le hy
  obtain ⟨c, rfl⟩ := Int.eq_ofNat_of_zero_le hc0
  rw [run_callFunc_extern Try.func88 (by kernel_rfl) (by kernel_rfl) (by kernel_rfl) (e := add64Entry) (by kernel_rfl), run_add64 x y c (by omega) (by omega) (by omega) (by omega)]
  simp only [Result.andThen]
theorem sub64 (x y b : Int) (hx : 0 ≤ x) (hy : 0 ≤ y) (hy' : y < 18446744073709551616) (hb0 : 0 ≤ b) (hb : b ≤ 1) (w : World) : (callFunc 86 #[.int .u64 x, .int .u64 y, .int .u64 b]).run Try.prog w =
    .ok (.value (.tuple #[.int .u64 ((x - y - b) % 18446744073709551616), .int .u64 (if x < y + b then 1 else 0)])) w := by
  obtain ⟨x, rfl⟩ := Int.eq_ofNat_of_zero_le hx
  obtain ⟨y, rfl⟩ := Int.eq_ofNat_of_zero_le hy
  obtain ⟨b, rfl⟩ := Int.eq_ofNat_of_zero_le hb0
  have e1 : (((x + 18446744073709551616 - y - b) % 18446744073709551616 : Nat) : Int) = ((x : Int) - y - b) % 18446744073709551616 := by omega
  have e2 : ((if x < y + b then 1 else 0 : Nat) : Int) = if (x : Int) < y + b then 1 else 0 := by split <;> split <;> omega
  rw [← e1, ← e2, run_callFunc_extern Try.func86 (by kernel_rfl) (by kernel_rfl) (by kernel_rfl) (e := sub64Entry) (by kernel_rfl), run_sub64 x y b (by omega)]
  rfl

/-- A number as one of 128 bits with a sign. -/
def w128 (z : Int) : Int := (z + 170141183460469231731687303715884105728) % 340282366920938463463374607431768211456 - 170141183460469231731687303715884105728
theorem w128_in {z : Int} (h0 : -170141183460469231731687303715884105728 ≤ z) (h1 : z < 170141183460469231731687303715884105728) : w128 z = z := by unfold w128; omega
theorem w128_bounds (z : Int) : -170141183460469231731687303715884105728 ≤ w128 z ∧ w128 z < 170141183460469231731687303715884105728 := by unfold w128; omega
theorem turned_hi {hi lo b : Int} (h0 : -9223372036854775808 ≤ hi) (h1 : hi ≤ 9223372036854775807) (h2 : 0 ≤ lo) (h3 : lo < 18446744073709551616) (hb : (if 0 < lo then (1 : Int) else 0) = b) :
    wrap64 ((-(hi % 18446744073709551616) - b) % 18446744073709551616) = w128 (-(hi * 18446744073709551616 + lo)) / 18446744073709551616 ∧ -lo % 18446744073709551616 = w128 (-(hi * 18446744073709551616 + lo)) % 18446744073709551616 := by
  unfold w128 wrap64
  split at hb <;> subst hb <;> constructor <;> omega
theorem plus_hi {hi lo hi2 lo2 : Int} (h2 : 0 ≤ lo) (h3 : lo < 18446744073709551616) (k2 : 0 ≤ lo2) (k3 : lo2 < 18446744073709551616) :
    wrap64 (wrap64 (hi + hi2) + (lo + lo2) / 18446744073709551616) = w128 (hi * 18446744073709551616 + lo + (hi2 * 18446744073709551616 + lo2)) / 18446744073709551616 ∧ (lo + lo2) % 18446744073709551616 = w128 (hi * 18446744073709551616 + lo + (hi2 * 18446744073709551616 + lo2)) % 18446744073709551616 := by
  unfold w128 wrap64
  constructor <;> omega

theorem of_any (n : Int) (w : World) (h0 : -9223372036854775808 ≤ n) (h1 : n ≤ 9223372036854775807) :
    Calls Try.prog 83 #[.int .i64 n] w fun e w' => e = .returned (.agg #[.int .i64 (n / 18446744073709551616), .int .u64 (n % 18446744073709551616)]) ∧ Below w.heap.size w w' := by
  have e1 : n / 9223372036854775808 = n / 18446744073709551616 := by omega
  have e2 : IntKind.u64.wrap n = n % 18446744073709551616 := IntKind.wrap_u64 n
  go_enter Try.func83, Try.ntmps83
  go_wp2
  go_returns
  exact ⟨rfl, by go_grown⟩
theorem size_any (n : Int) (w : World) (h0 : -9223372036854775808 ≤ n) (h1 : n ≤ 9223372036854775807) :
    Calls Try.prog 81 #[.int .i64 n] w fun e w' => e = .returned (.int .u64 (if n < 0 then -n else n)) ∧ w' = w := by
  have e2 : IntKind.u64.wrap n = n % 18446744073709551616 := IntKind.wrap_u64 n
  by_cases hn : n < 0
  · have e3 : IntKind.u64.wrap (-(n % 18446744073709551616)) = -n := by rw [IntKind.wrap_u64]; omega
    go_enter Try.func81, Try.ntmps81
    go_wp2
    go_returns
    exact ⟨by simp [hn], rfl⟩
  · have e3 : n % 18446744073709551616 = n := by omega
    go_enter Try.func81, Try.ntmps81
    go_wp2
    go_returns
    exact ⟨by simp [hn], rfl⟩
theorem turned_any (hi lo : Int) (w : World) (h0 : -9223372036854775808 ≤ hi) (h1 : hi ≤ 9223372036854775807) (h2 : 0 ≤ lo) (h3 : lo < 18446744073709551616) :
    Calls Try.prog 79 #[.agg #[.int .i64 hi, .int .u64 lo]] w fun e w' => e = .returned (.agg #[.int .i64 (w128 (-(hi * 18446744073709551616 + lo)) / 18446744073709551616), .int .u64 (w128 (-(hi * 18446744073709551616 + lo)) % 18446744073709551616)]) ∧ Below w.heap.size w w' := by
  have a1 := sub64 0 lo 0 (by omega) h2 h3 (by omega) (by omega)
  rw [show (0 : Int) - lo - 0 = -lo from by omega, show lo + 0 = lo from by omega] at a1
  obtain ⟨b, hb, hb0, hb1⟩ : ∃ b : Int, (if 0 < lo then (1 : Int) else 0) = b ∧ 0 ≤ b ∧ b ≤ 1 := ⟨_, rfl, by split <;> omega, by split <;> omega⟩
  rw [hb] at a1
  have a2 := sub64 0 (hi % 18446744073709551616) b (by omega) (by omega) (by omega) hb0 hb1
  obtain ⟨b2, hb2⟩ : ∃ b2 : Int, (if 0 < hi % 18446744073709551616 + b then (1 : Int) else 0) = b2 := ⟨_, rfl⟩
  rw [hb2] at a2
  clear hb2
  have e2 : IntKind.u64.wrap hi = hi % 18446744073709551616 := IntKind.wrap_u64 hi
  have HB := Lib.hid hb
  clear hb
  go_enter Try.func79, Try.ntmps79
  go_wp2
  go_returns
  obtain ⟨e1, e3⟩ := turned_hi h0 h1 h2 h3 HB.out
  exact ⟨by rw [← e1, ← e3], by go_grown⟩
theorem plus_any (hi lo hi2 lo2 : Int) (w : World) (h0 : -9223372036854775808 ≤ hi) (h1 : hi ≤ 9223372036854775807) (h2 : 0 ≤ lo) (h3 : lo < 18446744073709551616) (k0 : -9223372036854775808 ≤ hi2) (k1 : hi2 ≤ 9223372036854775807) (k2 : 0 ≤ lo2) (k3 : lo2 < 18446744073709551616) :
    Calls Try.prog 82 #[.agg #[.int .i64 hi, .int .u64 lo], .agg #[.int .i64 hi2, .int .u64 lo2]] w fun e w' => e = .returned (.agg #[.int .i64 (w128 (hi * 18446744073709551616 + lo + (hi2 * 18446744073709551616 + lo2)) / 18446744073709551616), .int .u64 (w128 (hi * 18446744073709551616 + lo + (hi2 * 18446744073709551616 + lo2)) % 18446744073709551616)]) ∧ Below w.heap.size w w' := by
  have a1 := add64 lo lo2 0 h2 h3 k2 k3 (by omega) (by omega)
  go_enter Try.func82, Try.ntmps82
  go_wp2
  go_returns
  obtain ⟨e1, e3⟩ := plus_hi (hi := hi) (hi2 := hi2) h2 h3 k2 k3
  exact ⟨by rw [← e1, ← e3], by go_grown⟩

theorem below_cells {B : Nat} {w w' : World} (h : Below B w w') : (∀ b o, b < B → w'.cell? ⟨b, o, none⟩ = w.cell? ⟨b, o, none⟩) ∧ (∀ b o, b < B → w'.frozen? ⟨b, o, none⟩ = w.frozen? ⟨b, o, none⟩) :=
  ⟨fun b o hb => h.cell (p := ⟨b, o, none⟩) hb, fun b o hb => h.frozen (p := ⟨b, o, none⟩) hb⟩

theorem mul64_any (x y : Int) (w : World) (h0 : 0 ≤ x) (h1 : x < 18446744073709551616) (h2 : 0 ≤ y) (h3 : y < 18446744073709551616) :
    Calls Try.prog 84 #[.int .u64 x, .int .u64 y] w fun e w' => e = .returned (.tuple #[.int .u64 (x * y / 18446744073709551616), .int .u64 (x * y % 18446744073709551616)]) ∧ w = w' := by
  obtain ⟨x, rfl⟩ := Int.eq_ofNat_of_zero_le h0
  obtain ⟨y, rfl⟩ := Int.eq_ofNat_of_zero_le h2
  refine (Try.bits_Mul64 x y (by omega) (by omega) w).mono ?_
  rintro e w' ⟨rfl, rfl⟩
  exact ⟨by rw [Int.natCast_ediv, Int.natCast_emod, Int.natCast_mul]; rfl, rfl⟩
theorem natAbs_eq (n : Int) : (if n < 0 then -n else n) = (n.natAbs : Int) := by split <;> omega
theorem abs_prod {a b : Int} (ha0 : -9223372036854775808 ≤ a) (ha1 : a ≤ 9223372036854775807) (hb0 : -9223372036854775808 ≤ b) (hb1 : b ≤ 9223372036854775807) :
    0 ≤ (a.natAbs : Int) * b.natAbs ∧ (a.natAbs : Int) * b.natAbs ≤ 85070591730234615865843651857942052864 := by
  have h1 : a.natAbs * b.natAbs ≤ 9223372036854775808 * 9223372036854775808 := Nat.mul_le_mul (by omega) (by omega)
  have h2 : ((a.natAbs * b.natAbs : Nat) : Int) = (a.natAbs : Int) * b.natAbs := by push_cast; rfl
  rw [← h2]; omega
theorem prod_same {a b : Int} (h : (a < 0) ↔ (b < 0)) : (a.natAbs : Int) * b.natAbs = a * b := by
  rcases Int.lt_or_le a 0 with ha | ha
  · have hb := h.1 ha
    rw [Int.ofNat_natAbs_of_nonpos (by omega), Int.ofNat_natAbs_of_nonpos (by omega), Int.neg_mul_neg]
  · have hb : 0 ≤ b := by omega
    rw [Int.natAbs_of_nonneg ha, Int.natAbs_of_nonneg hb]
theorem prod_other {a b : Int} (h : ¬ ((a < 0) ↔ (b < 0))) : (a.natAbs : Int) * b.natAbs = -(a * b) := by
  rcases Int.lt_or_le a 0 with ha | ha
  · have hb : 0 ≤ b := by omega
    rw [Int.ofNat_natAbs_of_nonpos (by omega), Int.natAbs_of_nonneg hb, Int.neg_mul]
  · have hb : b < 0 := by omega
    rw [Int.natAbs_of_nonneg ha, Int.ofNat_natAbs_of_nonpos (by omega), Int.mul_neg]

set_option maxHeartbeats 1000000 in
theorem mul_any (a b : Int) (w : World) (ha0 : -9223372036854775808 ≤ a) (ha1 : a ≤ 9223372036854775807) (hb0 : -9223372036854775808 ≤ b) (hb1 : b ≤ 9223372036854775807) :
    Calls Try.prog 75 #[.int .i64 a, .int .i64 b] w fun e w' => e = .returned (.agg #[.int .i64 (a * b / 18446744073709551616), .int .u64 (a * b % 18446744073709551616)]) ∧ Below w.heap.size w w' := by
  obtain ⟨p0, p1⟩ := abs_prod ha0 ha1 hb0 hb1
  have e0 : wrap64 ((a.natAbs : Int) * b.natAbs / 18446744073709551616) = (a.natAbs : Int) * b.natAbs / 18446744073709551616 := by unfold wrap64; omega
  by_cases ha : a < 0
  · have d1 : decide (a < 0) = true := by simpa using ha
    by_cases hb : b < 0
    · have d2 : decide (b < 0) = true := by simpa using hb
      have hp := prod_same (a := a) (b := b) (by omega)
      go_enter Try.func75, Try.ntmps75
      go_wp2_with (first
        | (go_at_call 81; refine (size_any _ _ (by omega) (by omega)).mono ?_; rintro e w' ⟨rfl, rfl⟩; rw [natAbs_eq])
        | (go_at_call 84; refine (mul64_any _ _ _ (by omega) (by omega) (by omega) (by omega)).mono ?_; rintro e w' ⟨rfl, rfl⟩))
      go_returns
      exact ⟨rfl, by go_grown⟩
    · have d2 : decide (b < 0) = false := by simpa using hb
      have hp := prod_other (a := a) (b := b) (by omega)
      obtain ⟨p, hP⟩ : ∃ p, (a.natAbs : Int) * b.natAbs = p := ⟨_, rfl⟩
      rw [hP] at p0 p1 e0 hp
      have eT : w128 (-(p / 18446744073709551616 * 18446744073709551616 + p % 18446744073709551616)) = a * b := by unfold w128; omega
      clear hp
      go_enter Try.func75, Try.ntmps75
      go_wp2_with (first
        | (go_at_call 81; refine (size_any _ _ (by omega) (by omega)).mono ?_; rintro e w' ⟨rfl, rfl⟩; rw [natAbs_eq])
        | (go_at_call 84; refine (mul64_any _ _ _ (by omega) (by omega) (by omega) (by omega)).mono ?_; rintro e w' ⟨rfl, rfl⟩; rw [hP])
        | (go_at_call 79; refine (turned_any _ _ _ (by omega) (by omega) (by omega) (by omega)).mono ?_; rintro e w2 ⟨rfl, hb⟩; have B0 := blk2_0 hb; obtain ⟨hB, q0, q1⟩ := below2 hb; clear hb)
        | ((with_reducible refine at_store 89 4 ?_); refine wpList_store_blk B0 89 _ _ rfl rfl rfl rfl rfl (by kernel_rfl) (by simp [Value.oneCell']) ?_; intro w3 B3 g3))
      exact bodyPost_ret (results_cell B3 rfl rfl Try.underlying89 rfl (by kernel_rfl)) rfl ⟨rfl, hB.grown g3 hB.size (fun k hk => by cases hk; omega)⟩
  · have d1 : decide (a < 0) = false := by simpa using ha
    by_cases hb : b < 0
    · have d2 : decide (b < 0) = true := by simpa using hb
      have hp := prod_other (a := a) (b := b) (by omega)
      obtain ⟨p, hP⟩ : ∃ p, (a.natAbs : Int) * b.natAbs = p := ⟨_, rfl⟩
      rw [hP] at p0 p1 e0 hp
      have eT : w128 (-(p / 18446744073709551616 * 18446744073709551616 + p % 18446744073709551616)) = a * b := by unfold w128; omega
      clear hp
      go_enter Try.func75, Try.ntmps75
      go_wp2_with (first
        | (go_at_call 81; refine (size_any _ _ (by omega) (by omega)).mono ?_; rintro e w' ⟨rfl, rfl⟩; rw [natAbs_eq])
        | (go_at_call 84; refine (mul64_any _ _ _ (by omega) (by omega) (by omega) (by omega)).mono ?_; rintro e w' ⟨rfl, rfl⟩; rw [hP])
        | (go_at_call 79; refine (turned_any _ _ _ (by omega) (by omega) (by omega) (by omega)).mono ?_; rintro e w2 ⟨rfl, hb⟩; have B0 := blk2_0 hb; obtain ⟨hB, q0, q1⟩ := below2 hb; clear hb)
        | ((with_reducible refine at_store 89 4 ?_); refine wpList_store_blk B0 89 _ _ rfl rfl rfl rfl rfl (by kernel_rfl) (by simp [Value.oneCell']) ?_; intro w3 B3 g3))
      exact bodyPost_ret (results_cell B3 rfl rfl Try.underlying89 rfl (by kernel_rfl)) rfl ⟨rfl, hB.grown g3 hB.size (fun k hk => by cases hk; omega)⟩
    · have d2 : decide (b < 0) = false := by simpa using hb
      have hp := prod_same (a := a) (b := b) (by omega)
      go_enter Try.func75, Try.ntmps75
      go_wp2_with (first
        | (go_at_call 81; refine (size_any _ _ (by omega) (by omega)).mono ?_; rintro e w' ⟨rfl, rfl⟩; rw [natAbs_eq])
        | (go_at_call 84; refine (mul64_any _ _ _ (by omega) (by omega) (by omega) (by omega)).mono ?_; rintro e w' ⟨rfl, rfl⟩))
      go_returns
      exact ⟨rfl, by go_grown⟩
end Go.Proofs.Ythclhmdgfekaeaa
