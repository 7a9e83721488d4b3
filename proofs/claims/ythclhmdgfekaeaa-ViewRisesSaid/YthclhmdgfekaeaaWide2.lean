/- Package wide: Add. -/
import Derived.Test.YthclhmdgfekaeaaWide1
import Derived.Deep.RegionHeld3
namespace Go.Proofs.Ythclhmdgfekaeaa
open Go.RowKit Go.Shelf

set_option maxHeartbeats 8000000 in
theorem add_ok (hi lo hi2 lo2 : Int) (w : World) (h0 : -9223372036854775808 ≤ hi) (h1 : hi ≤ 9223372036854775807) (h2 : 0 ≤ lo) (h3 : lo < 18446744073709551616) (k0 : -9223372036854775808 ≤ hi2) (k1 : hi2 ≤ 9223372036854775807) (k2 : 0 ≤ lo2) (k3 : lo2 < 18446744073709551616) (r0 : -170141183460469231731687303715884105728 ≤ (hi * 18446744073709551616 + lo + (hi2 * 18446744073709551616 + lo2))) (r1 : (hi * 18446744073709551616 + lo + (hi2 * 18446744073709551616 + lo2)) < 170141183460469231731687303715884105728) :
    Calls Try.prog 78 #[.agg #[.int .i64 hi, .int .u64 lo], .agg #[.int .i64 hi2, .int .u64 lo2]] w fun e w' => e = .returned (.tuple #[.agg #[.int .i64 ((hi * 18446744073709551616 + lo + (hi2 * 18446744073709551616 + lo2)) / 18446744073709551616), .int .u64 ((hi * 18446744073709551616 + lo + (hi2 * 18446744073709551616 + lo2)) % 18446744073709551616)], .int .i64 0]) ∧ Below w.heap.size w w' := by
  have ew := w128_in r0 r1
  obtain ⟨s, hs⟩ : ∃ s, (hi * 18446744073709551616 + lo + (hi2 * 18446744073709551616 + lo2)) = s := ⟨_, rfl⟩
  rw [hs] at ew r0 r1
  have HS := Lib.hid hs
  have hsg : ¬ ((hi < 0 ↔ hi2 < 0) ∧ ¬ (s / 18446744073709551616 < 0 ↔ hi < 0)) := by omega
  clear hs r0 r1
  rw [HS.out]
  rcases hda : decide (hi < 0) with _ | _ <;> rcases hdb : decide (hi2 < 0) with _ | _ <;> rcases hdc : decide (s / 18446744073709551616 < 0) with _ | _
  all_goals have ha := hda
  all_goals have hb := hdb
  all_goals have hc := hdc
  all_goals simp only [decide_eq_true_eq, decide_eq_false_iff_not] at ha hb hc
  case true.true.false => exfalso; omega
  case false.false.true => exfalso; omega
  all_goals
    have HK := Lib.hid (show _ ∧ _ ∧ _ ∧ _ ∧ _ ∧ _ ∧ _ ∧ _ from ⟨h0, h1, h2, h3, k0, k1, k2, k3⟩)
    clear h0 h1 h2 h3 k0 k1 k2 k3 hsg
    have EW := Lib.hid ew
    clear ew ha hb hc
    go_enter Try.func78, Try.ntmps78
    go_wp2_with (first
      | (go_at_call 82; obtain ⟨h0, h1, h2, h3, k0, k1, k2, k3⟩ := HK.out; refine (plus_any _ _ _ _ _ h0 h1 h2 h3 k0 k1 k2 k3).mono ?_; clear h0 h1 h2 h3 k0 k1 k2 k3; rintro e w2 ⟨rfl, hb⟩; rw [HS.out, EW.out]; have B0 := blk3_0 hb; have B1 := blk3_1 hb; have B2 := blk3_2 hb; obtain ⟨hB, q0, q1, q2⟩ := below3 hb; clear hb; obtain ⟨c0, f0⟩ := B0.rules; obtain ⟨c1, f1⟩ := B1.rules)
      | ((with_reducible refine at_store 89 4 ?_); refine wpList_store_blk (B2.alloc _) 89 _ _ rfl rfl rfl rfl rfl (by kernel_rfl) (by simp [Value.oneCell']) ?_; intro w3 B3 g3))
    exact bodyPost_ret (results_cell_tmp B3 rfl rfl Try.underlying89 rfl (by kernel_rfl)) rfl ⟨rfl, (hB.alloc hB.size _).grown g3 (by simp; omega) (fun k hk => by cases hk; omega)⟩

set_option maxHeartbeats 8000000 in
theorem add_no (hi lo hi2 lo2 : Int) (w : World) (h0 : -9223372036854775808 ≤ hi) (h1 : hi ≤ 9223372036854775807) (h2 : 0 ≤ lo) (h3 : lo < 18446744073709551616) (k0 : -9223372036854775808 ≤ hi2) (k1 : hi2 ≤ 9223372036854775807) (k2 : 0 ≤ lo2) (k3 : lo2 < 18446744073709551616) (r0 : (hi * 18446744073709551616 + lo + (hi2 * 18446744073709551616 + lo2)) < -170141183460469231731687303715884105728 ∨ 170141183460469231731687303715884105728 ≤ (hi * 18446744073709551616 + lo + (hi2 * 18446744073709551616 + lo2))) :
    Calls Try.prog 78 #[.agg #[.int .i64 hi, .int .u64 lo], .agg #[.int .i64 hi2, .int .u64 lo2]] w fun e w' => e = .returned (.tuple #[.agg #[.int .i64 0, .int .u64 0], .int .i64 20]) ∧ Below w.heap.size w w' := by
  obtain ⟨z, ew⟩ : ∃ z, w128 (hi * 18446744073709551616 + lo + (hi2 * 18446744073709551616 + lo2)) = z := ⟨_, rfl⟩
  obtain ⟨s, hs⟩ : ∃ s, (hi * 18446744073709551616 + lo + (hi2 * 18446744073709551616 + lo2)) = s := ⟨_, rfl⟩
  rw [hs] at ew r0
  have HS := Lib.hid hs
  have hz : z = w128 s := ew.symm
  have hsg : (hi < 0 ↔ hi2 < 0) ∧ ¬ (z / 18446744073709551616 < 0 ↔ hi < 0) := by rw [hz]; unfold w128; rcases r0 with r0 | r0 <;> constructor <;> omega
  clear hs r0 hz
  rcases hda : decide (hi < 0) with _ | _ <;> rcases hdb : decide (hi2 < 0) with _ | _ <;> rcases hdc : decide (z / 18446744073709551616 < 0) with _ | _
  all_goals have ha := hda
  all_goals have hb := hdb
  all_goals have hc := hdc
  all_goals simp only [decide_eq_true_eq, decide_eq_false_iff_not] at ha hb hc
  case true.true.true => exfalso; omega
  case false.false.false => exfalso; omega
  case true.false.true => exfalso; omega
  case false.true.false => exfalso; omega
  case true.false.false => exfalso; omega
  case false.true.true => exfalso; omega
  all_goals
    have HK := Lib.hid (show _ ∧ _ ∧ _ ∧ _ ∧ _ ∧ _ ∧ _ ∧ _ from ⟨h0, h1, h2, h3, k0, k1, k2, k3⟩)
    clear h0 h1 h2 h3 k0 k1 k2 k3 hsg
    have EW := Lib.hid ew
    clear ew ha hb hc
    go_enter Try.func78, Try.ntmps78
    go_wp2_with (first
      | (go_at_call 82; obtain ⟨h0, h1, h2, h3, k0, k1, k2, k3⟩ := HK.out; refine (plus_any _ _ _ _ _ h0 h1 h2 h3 k0 k1 k2 k3).mono ?_; clear h0 h1 h2 h3 k0 k1 k2 k3; rintro e w2 ⟨rfl, hb⟩; rw [HS.out, EW.out]; have B0 := blk3_0 hb; have B1 := blk3_1 hb; have B2 := blk3_2 hb; obtain ⟨hB, q0, q1, q2⟩ := below3 hb; clear hb; obtain ⟨c0, f0⟩ := B0.rules; obtain ⟨c1, f1⟩ := B1.rules)
      | ((with_reducible refine at_store 89 4 ?_); refine wpList_store_blk (B2.alloc _) 89 _ _ rfl rfl rfl rfl rfl (by kernel_rfl) (by simp [Value.oneCell']) ?_; intro w3 B3 g3))
    exact bodyPost_ret (results_cell_tmp B3 rfl rfl Try.underlying89 rfl (by kernel_rfl)) rfl ⟨rfl, (hB.alloc hB.size _).grown g3 (by simp; omega) (fun k hk => by cases hk; omega)⟩

end Go.Proofs.Ythclhmdgfekaeaa
