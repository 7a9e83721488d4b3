/- math/bits.Div64: the quotient and the rest of 128 bits by 64. -/
import Derived.Test.YthclhmdgfekaeaaRows
import Derived.Test.YthclhmdgfekaeaaShelf
import Derived.Test.YthclhmdgfekaeaaHDivMath
import Derived.BigQuiet
import Derived.Handy
import Derived.Lib.Hide
import Derived.Deep.DeepCutAuto
import Derived.Deep.CutBlock
namespace Go.Proofs.Ythclhmdgfekaeaa
open Go.RowKit
theorem lz_any (y : Int) (w : World) (h0 : 0 < y) (h1 : y < 18446744073709551616) :
    Calls Try.prog 89 #[.int .u64 y] w fun e w' => ∃ s : Nat, e = .returned (.int .i64 (s : Int)) ∧ s < 64 ∧ 9223372036854775808 ≤ y * 2 ^ s ∧ y * 2 ^ s < 18446744073709551616 ∧ w' = w := by
  refine (Try.bits_LeadingZeros64 y w (by omega) (by omega)).mono ?_
  rintro e w' ⟨rfl, rfl⟩
  obtain ⟨s, hs, h2⟩ := top_shift h0 h1
  rw [hs]
  exact ⟨s, rfl, h2.1, h2.2.1, h2.2.2, rfl⟩
set_option maxHeartbeats 1000000 in
theorem div64_zero (lo y : Int) (w : World) (hlo : 0 ≤ lo) (hlo' : lo < 18446744073709551616) (hy : 0 < y) (hy' : y < 18446744073709551616) :
    Calls Try.prog 87 #[.int .u64 0, .int .u64 lo, .int .u64 y] w fun e w' => e = .returned (.tuple #[.int .u64 (lo / y), .int .u64 (lo % y)]) ∧ ∃ n, w' = w.drewN n := by
  have h0 : (y == 0) = false := by simp; omega
  have h1 : decide (y ≤ 0) = false := by simp; omega
  go_enter Try.func87, Try.ntmps87
  go_wp2
  go_quiet (fail)
  go_wp2
  go_ret2
  exact ⟨rfl, _, rfl⟩
set_option maxRecDepth 100000 in
set_option maxHeartbeats 4000000 in
theorem div64_long (hi lo y : Int) (w : World) (hhi : 0 < hi) (hlo : 0 ≤ lo) (hlo' : lo < 18446744073709551616) (hy : hi < y) (hy' : y < 18446744073709551616) :
    Calls Try.prog 87 #[.int .u64 hi, .int .u64 lo, .int .u64 y] w fun e w' => e = .returned (.tuple #[.int .u64 ((hi * 18446744073709551616 + lo) / y), .int .u64 ((hi * 18446744073709551616 + lo) % y)]) ∧ w' = w := by
  have h0 : (y == 0) = false := by simp; omega
  have h1 : decide (y ≤ hi) = false := by simp; omega
  have h2 : (hi == 0) = false := by simp; omega
  go_enter Try.func87, Try.ntmps87
  go_wp2_with fail
  refine (lz_any y _ (by omega) hy').mono ?_
  rintro e w' ⟨s, rfl, hs, hn1, hn2, rfl⟩
  -- the numbers, each under a name
  have hpos : (0 : Int) < 2 ^ s := Int.pow_pos (by omega)
  have hhs : hi * 2 ^ s < y * 2 ^ s := Int.mul_lt_mul_of_pos_right hy hpos
  have hhs0 : 0 ≤ hi * 2 ^ s := Int.mul_nonneg (by omega) (by omega)
  have eU0 := u64_shift_or (hi := hi) (lo := lo) hs (by omega) (by omega) hlo hlo'
  have HA := Lib.hid (shifted (hi := hi) (lo := lo) hs)
  have HB := Lib.hid (unshifted (A := hi * 18446744073709551616 + lo) (y := y) (s := s))
  have hUY0 : hi * 2 ^ s + lo / 2 ^ (64 - s) < y * 2 ^ s := by
    have e1 : lo / 2 ^ (64 - s) < 2 ^ s := Int.ediv_lt_of_lt_mul (Int.pow_pos (by omega)) (by rw [Int.mul_comm, two_pow_split hs]; exact hlo')
    have e2 : (hi + 1) * 2 ^ s ≤ y * 2 ^ s := Int.mul_le_mul_of_nonneg_right (by omega) (by omega)
    rw [Int.add_mul] at e2; omega
  have hU0 : 0 ≤ hi * 2 ^ s + lo / 2 ^ (64 - s) := by have := Int.ediv_nonneg hlo (show (0 : Int) ≤ 2 ^ (64 - s) from Int.le_of_lt (Int.pow_pos (by omega))); omega
  have eY : IntKind.u64.wrap (y * 2 ^ s) = y * 2 ^ s := by rw [IntKind.wrap_u64]; omega
  have hL0 : 0 ≤ IntKind.u64.wrap (lo * 2 ^ s) ∧ IntKind.u64.wrap (lo * 2 ^ s) < 18446744073709551616 := by rw [IntKind.wrap_u64]; omega
  have em : min s 64 = s := by omega
  have hz : IntKind.u64.wrap (lo * 2 ^ s) / 4294967296 * 4294967296 + IntKind.u64.wrap (lo * 2 ^ s) % 4294967296 = IntKind.u64.wrap (lo * 2 ^ s) := by omega
  have em0 := u64_mask32 hL0.1 hL0.2
  rw [← hz] at HA
  clear hz
  obtain ⟨U, hU⟩ : ∃ U, hi * 2 ^ s + lo / 2 ^ (64 - s) = U := ⟨_, rfl⟩
  obtain ⟨L, hL⟩ : ∃ L, IntKind.u64.wrap (lo * 2 ^ s) = L := ⟨_, rfl⟩
  rw [hU] at eU0 HA hUY0 hU0
  rw [hL] at hL0 em0 HA
  clear hU hhs hhs0
  obtain ⟨Y, hY⟩ : ∃ Y, y * 2 ^ s = Y := ⟨_, rfl⟩
  have eYm := u64_mask32 (show 0 ≤ y * 2 ^ s by omega) hn2
  rw [hY] at HB eYm hn1 hn2 hUY0
  have eY' : IntKind.u64.wrap (y * 2 ^ s) = Y := eY.trans hY
  clear hY eY
  have hy1 : 2147483648 ≤ Y / 4294967296 := by omega
  have hy1' : Y / 4294967296 < 4294967296 := by omega
  have hy0 : 0 ≤ Y % 4294967296 := by omega
  have hy0' : Y % 4294967296 < 4294967296 := by omega
  have hYs : Y = Y / 4294967296 * 4294967296 + Y % 4294967296 := by omega
  obtain ⟨y1, ey1⟩ : ∃ y1, Y / 4294967296 = y1 := ⟨_, rfl⟩
  obtain ⟨y0, ey0⟩ : ∃ y0, Y % 4294967296 = y0 := ⟨_, rfl⟩
  rw [ey1] at hy1 hy1' hYs
  rw [ey0] at hy0 hy0' hYs eYm
  have hu1 : 0 ≤ L / 4294967296 := by omega
  have hu1' : L / 4294967296 < 4294967296 := by omega
  have hu0 : 0 ≤ L % 4294967296 := by omega
  have hu0' : L % 4294967296 < 4294967296 := by omega
  obtain ⟨u1, eu1⟩ : ∃ u1, L / 4294967296 = u1 := ⟨_, rfl⟩
  obtain ⟨u0, eu0⟩ : ∃ u0, L % 4294967296 = u0 := ⟨_, rfl⟩
  rw [eu1] at hu1 hu1' HA
  rw [eu0] at hu0 hu0' HA em0
  have eb : (y1 == 0) = false := by simp; omega
  obtain ⟨i1, i2, i3, i4, i5, i6⟩ := dig_init hYs hy0 hy0' hy1 hU0 hUY0 hu1 hu1'
  have hUlt : U < 18446744073709551616 := by omega
  have er : IntKind.u64.wrap (U - IntKind.u64.wrap (U / y1 * y1)) = U - U / y1 * y1 := by simp only [IntKind.wrap_u64]; omega
  have HY := Lib.hid hYs
  clear hYs ey0 eu0
  have HQ := Lib.hid (show U / y1 * y1 + (U - U / y1 * y1) = U from by omega)
  have hYp : 0 < Y := by omega
  -- the first digit
  go_upto_block 0 with fail
  go_cut [15, 16] from 67 to 85 (fun vq vr wx => vq = .int .u64 ((U * 4294967296 + u1) / Y) ∧ (∃ r, vr = .int .u64 r) ∧ w' = wx)
  case first =>
    go_wp2_with fail
    go_loop [15, 16] (fun vq vr => ∃ q r : Int, vq = .int .u64 q ∧ vr = .int .u64 r ∧ ((U * 4294967296 + u1) / Y) ≤ q ∧ 0 ≤ q ∧ q ≤ 4294967297 ∧ 0 ≤ r ∧ r < 4294967296 ∧ q * y1 + r = U) (fun vq _ => (intOf vq).toNat)
    case atStart => exact ⟨_, _, rfl, rfl, i1, i2, i3, by omega, by omega, HQ.out⟩
    case round =>
      clear HQ er i1 i2 i3 i4 i5 i6
      obtain ⟨q, r, rfl, rfl, a1, a2, a3, a4, a5, a6⟩ := hrel
      have hp := dig_prod hy0 hy0' a2 a3
      have ep : IntKind.u64.wrap (q * y0) = q * y0 := by simp only [IntKind.wrap_u64]; omega
      have hq := dig_bounds hU0 hUY0 hu1 hu1'
      by_cases c1 : 4294967296 ≤ q ∨ 4294967296 * r + u1 < q * y0
      · have hq1 : ((U * 4294967296 + u1) / Y) ≤ q - 1 := by
          rcases c1 with c1 | c1
          · omega
          · have := dig_more HY.out hYp a6 c1; omega
        have hq2 : 1 ≤ q := by omega
        have A6 := Lib.hid (dig_step a6)
        clear a6
        have hb : r + y1 < 4294967296 ∨ 4294967296 ≤ r + y1 := by omega
        have hfar : 4294967296 ≤ r + y1 → q - 1 ≤ ((U * 4294967296 + u1) / Y) := fun h => dig_far HY.out hYp hu1 hy0 hy0' A6.out (by omega) (by omega) h
        by_cases c2 : 4294967296 ≤ q
        · have d1 : decide (4294967296 ≤ q) = true := by simpa using c2
          rcases hb with hb | hb
          · have d2 : decide (4294967296 ≤ r + y1) = false := by simp; omega
            clear hfar
            go_wp2
            go_round
            case rel => exact ⟨_, _, rfl, rfl, hq1, by omega, by omega, by omega, by omega, A6.out⟩
            case measure => simp [intOf]; omega
          · have d2 : decide (4294967296 ≤ r + y1) = true := by simp; omega
            have hE := Lib.hid (show q - 1 = ((U * 4294967296 + u1) / Y) from by have := hfar hb; omega)
            clear hfar
            go_wp2
            go_meet
            exact ⟨by rw [hE.out], ⟨_, rfl⟩, rfl⟩
        · have d1 : decide (4294967296 ≤ q) = false := by simpa using c2
          have d0 : decide (4294967296 * r + u1 < q * y0) = true := by simp; omega
          rcases hb with hb | hb
          · have d2 : decide (4294967296 ≤ r + y1) = false := by simp; omega
            clear hfar
            go_wp2
            go_round
            case rel => exact ⟨_, _, rfl, rfl, hq1, by omega, by omega, by omega, by omega, A6.out⟩
            case measure => simp [intOf]; omega
          · have d2 : decide (4294967296 ≤ r + y1) = true := by simp; omega
            have hE := Lib.hid (show q - 1 = ((U * 4294967296 + u1) / Y) from by have := hfar hb; omega)
            clear hfar
            go_wp2
            go_meet
            exact ⟨by rw [hE.out], ⟨_, rfl⟩, rfl⟩
      · have d1 : decide (4294967296 ≤ q) = false := by simp; omega
        have d0 : decide (4294967296 * r + u1 < q * y0) = false := by simp; omega
        have hE := Lib.hid (show q = ((U * 4294967296 + u1) / Y) from by have := dig_enough (q := q) (r := r) (u1 := u1) HY.out hYp a6 (by omega); omega)
        clear a6
        go_wp2
        go_meet
        exact ⟨by rw [hE.out], ⟨_, rfl⟩, rfl⟩
  case rest =>
    clear HQ er i1 i2 i3 i4 i5 i6
    obtain ⟨rfl, ⟨r, rfl⟩, rfl⟩ := hcut
    have eR := dig_rest hU0 hUY0 hu1 hu1' (by omega)
    have hR0 := Int.emod_nonneg (U * 4294967296 + u1) (show Y ≠ 0 by omega)
    have hR1 := Int.emod_lt_of_pos (U * 4294967296 + u1) hYp
    have hq1 := dig_bounds hU0 hUY0 hu1 hu1'
    obtain ⟨e2a, e2b⟩ := two_digits (u0 := u0) hYp hu0 hu0' hU0 hUY0 hu1 hu1'
    have HC := Lib.hid e2a
    have HD := Lib.hid e2b
    clear e2a e2b
    obtain ⟨R, eR'⟩ : ∃ R, (U * 4294967296 + u1) % Y = R := ⟨_, rfl⟩
    rw [eR'] at eR hR0 hR1 HC HD
    clear eR'
    obtain ⟨j1, j2, j3, j4, j5, j6⟩ := dig_init HY.out hy0 hy0' hy1 hR0 hR1 hu0 hu0'
    have er' : IntKind.u64.wrap (R - IntKind.u64.wrap (R / y1 * y1)) = R - R / y1 * y1 := by simp only [IntKind.wrap_u64]; omega
    have HS := Lib.hid (show R / y1 * y1 + (R - R / y1 * y1) = R from by omega)
    go_upto_block 2 with fail
    go_cut [18, 16] from 102 to 120 (fun vq vr wx => vq = .int .u64 ((R * 4294967296 + u0) / Y) ∧ (∃ r, vr = .int .u64 r) ∧ w' = wx)
    case first =>
      go_wp2_with fail
      go_loop [18, 16] (fun vq vr => ∃ q r : Int, vq = .int .u64 q ∧ vr = .int .u64 r ∧ ((R * 4294967296 + u0) / Y) ≤ q ∧ 0 ≤ q ∧ q ≤ 4294967297 ∧ 0 ≤ r ∧ r < 4294967296 ∧ q * y1 + r = R) (fun vq _ => (intOf vq).toNat)
      case atStart => exact ⟨_, _, rfl, rfl, j1, j2, j3, by omega, by omega, HS.out⟩
      case round =>
        clear HS er' j1 j2 j3 j4 j5 j6
        obtain ⟨q, r, rfl, rfl, a1, a2, a3, a4, a5, a6⟩ := hrel
        have hp := dig_prod hy0 hy0' a2 a3
        have ep : IntKind.u64.wrap (q * y0) = q * y0 := by simp only [IntKind.wrap_u64]; omega
        have hq := dig_bounds hR0 hR1 hu0 hu0'
        by_cases c1 : 4294967296 ≤ q ∨ 4294967296 * r + u0 < q * y0
        · have hq1 : ((R * 4294967296 + u0) / Y) ≤ q - 1 := by
            rcases c1 with c1 | c1
            · omega
            · have := dig_more HY.out hYp a6 c1; omega
          have hq2 : 1 ≤ q := by omega
          have A6 := Lib.hid (dig_step a6)
          clear a6
          have hb : r + y1 < 4294967296 ∨ 4294967296 ≤ r + y1 := by omega
          have hfar : 4294967296 ≤ r + y1 → q - 1 ≤ ((R * 4294967296 + u0) / Y) := fun h => dig_far HY.out hYp hu0 hy0 hy0' A6.out (by omega) (by omega) h
          by_cases c2 : 4294967296 ≤ q
          · have d1 : decide (4294967296 ≤ q) = true := by simpa using c2
            rcases hb with hb | hb
            · have d2 : decide (4294967296 ≤ r + y1) = false := by simp; omega
              clear hfar
              go_wp2
              go_round
              case rel => exact ⟨_, _, rfl, rfl, hq1, by omega, by omega, by omega, by omega, A6.out⟩
              case measure => simp [intOf]; omega
            · have d2 : decide (4294967296 ≤ r + y1) = true := by simp; omega
              have hE := Lib.hid (show q - 1 = ((R * 4294967296 + u0) / Y) from by have := hfar hb; omega)
              clear hfar
              go_wp2
              go_meet
              exact ⟨by rw [hE.out], ⟨_, rfl⟩, rfl⟩
          · have d1 : decide (4294967296 ≤ q) = false := by simpa using c2
            have d0 : decide (4294967296 * r + u0 < q * y0) = true := by simp; omega
            rcases hb with hb | hb
            · have d2 : decide (4294967296 ≤ r + y1) = false := by simp; omega
              clear hfar
              go_wp2
              go_round
              case rel => exact ⟨_, _, rfl, rfl, hq1, by omega, by omega, by omega, by omega, A6.out⟩
              case measure => simp [intOf]; omega
            · have d2 : decide (4294967296 ≤ r + y1) = true := by simp; omega
              have hE := Lib.hid (show q - 1 = ((R * 4294967296 + u0) / Y) from by have := hfar hb; omega)
              clear hfar
              go_wp2
              go_meet
              exact ⟨by rw [hE.out], ⟨_, rfl⟩, rfl⟩
        · have d1 : decide (4294967296 ≤ q) = false := by simp; omega
          have d0 : decide (4294967296 * r + u0 < q * y0) = false := by simp; omega
          have hE := Lib.hid (show q = ((R * 4294967296 + u0) / Y) from by have := dig_enough (q := q) (r := r) (u1 := u0) HY.out hYp a6 (by omega); omega)
          clear a6
          go_wp2
          go_meet
          exact ⟨by rw [hE.out], ⟨_, rfl⟩, rfl⟩
    case rest =>
      clear HS er' j1 j2 j3 j4 j5 j6
      obtain ⟨rfl, ⟨r2, rfl⟩, rfl⟩ := hcut
      have eS := dig_rest hR0 hR1 hu0 hu0' (by omega)
      have hq0 := dig_bounds hR0 hR1 hu0 hu0'
      have hT0 := Int.emod_nonneg (R * 4294967296 + u0) (show Y ≠ 0 by omega)
      have hT1 := Int.emod_lt_of_pos (R * 4294967296 + u0) hYp
      have eQ : IntKind.u64.wrap (IntKind.u64.wrap ((U * 4294967296 + u1) / Y * 4294967296) + (R * 4294967296 + u0) / Y) = (U * 4294967296 + u1) / Y * 4294967296 + (R * 4294967296 + u0) / Y := by simp only [IntKind.wrap_u64]; omega
      clear eR
      go_wp2
      go_ret2
      refine ⟨?_, rfl⟩
      have h1 := HB.out
      rw [HA.out, ← HC.out, ← HD.out] at h1
      rw [← h1.1, ← h1.2]
      rfl
/-- math/bits.Div64. -/
theorem div64_any (hi lo y : Int) (w : World) (hhi : 0 ≤ hi) (hlo : 0 ≤ lo) (hlo' : lo < 18446744073709551616) (hy : hi < y) (hy' : y < 18446744073709551616) :
    Calls Try.prog 87 #[.int .u64 hi, .int .u64 lo, .int .u64 y] w fun e w' => e = .returned (.tuple #[.int .u64 ((hi * 18446744073709551616 + lo) / y), .int .u64 ((hi * 18446744073709551616 + lo) % y)]) ∧ ∃ n, w' = w.drewN n := by
  by_cases h : hi = 0
  · subst h
    refine (div64_zero lo y w hlo hlo' hy hy').mono ?_
    rintro e w' ⟨rfl, h⟩
    exact ⟨by simp, h⟩
  · refine (div64_long hi lo y w (by omega) hlo hlo' hy hy').mono ?_
    rintro e w' ⟨rfl, rfl⟩
    exact ⟨rfl, 0, by rw [World.drewN_zero]⟩
end Go.Proofs.Ythclhmdgfekaeaa
