/- WideBack: what comes in. -/
import Derived.Test.YtbjogekhedglgaaHWt9
import Derived.Test.YtbjogekhedglgaaHWt8
namespace Go.Proofs.Ytbjogekhedglgaa
set_option linter.unusedSimpArgs false
set_option linter.unusedVariables false
open Go.RowKit EV
open EW (PlL PlT PlV PlVs nums)
set_option maxRecDepth 20000
theorem wE_ok {z : Int} (h : wE z = 0) : In128 z := by
  unfold wE at h
  split at h
  · assumption
  · exact absurd h (by decide)
theorem wE_in {z : Int} (h : In128 z) : wE z = 0 := by rw [wE, if_pos h]
theorem wV_eq {z : Int} (h : In128 z) : wV z = z := by rw [wV, if_pos h]
theorem back_any (x y z a b : Int) (s : List Int) (w : World) (hx : In128 x) (hy : In128 y) (hz : In128 z) (hs : By s) (ha0 : -9223372036854775808 ≤ a) (ha1 : a ≤ 9223372036854775807) (hb0 : -9223372036854775808 ≤ b) (hb1 : b ≤ 9223372036854775807) : Calls Try.prog 7 #[W2 x, W2 y, W2 z, .int .i64 a, .int .i64 b, tS (U s)] w fun e w' => e = .returned (.bool true) ∧ Below w.heap.size w w' := by
  rcases Nat.lt_or_ge 60 s.length with h60 | h60
  · exact back_far x y z a b s w h60
  obtain ⟨v, f, hv, hvf, hP, _⟩ := parse_both s hs (by omega)
  have hc : cmpI x y = -cmpI y x ∧ -1 ≤ cmpI y x ∧ cmpI y x ≤ 1 := by unfold cmpI; repeat' split <;> omega
  refine back_walk x y z a b v f (wV (x + y)) (wE (x + y)) (wV (x + y + z)) (wE (x + y + z)) (wV (y + z)) (wE (y + z)) (a * b) ((0 - a) * b) (cmpI x y) (cmpI y x) s (tz x) (tz v) w h60 ha0 ha1 (fun w => wtext x w hx) (fun w => wparse_ok x w hx) hP (fun w => wtext v w hv) ?_ (fun w => wadd x y w hx hy) (fun w => ?_) (fun hg => ?_) (fun w => wmul a b w ha0 ha1 hb0 hb1) (fun w => ?_) (fun hm => ⟨fun w => wmul (0 - a) b w (by omega) (by omega) hb0 hb1, fun w => ?_⟩) (fun w => wcmp x y w) (fun w => wcmp y x w) hc.1 hc.2
  · rcases hvf with ⟨h1, h2⟩ | ⟨h1, _⟩
    · exact .inl ⟨h1, h2⟩
    · exact .inr h1
  · rw [Int.add_comm x y]; exact wadd y x w hy hx
  · have hi := wE_ok hg
    refine ⟨fun w => ?_, fun w => ?_, fun w => wadd y z w hy hz, fun hj hk w => ?_⟩
    · have := wsub (wV (x + y)) y w (by rw [wV_eq hi]; exact hi) hy
      rw [show wV (x + y) - y = x by rw [wV_eq hi]; omega, wV_eq hx, wE_in hx] at this
      exact this
    · have := wadd (wV (x + y)) z w (by rw [wV_eq hi]; exact hi) hz
      rw [show wV (x + y) + z = x + y + z by rw [wV_eq hi]] at this
      exact this
    · have hi2 := wE_ok hk
      have hi1 := wE_ok hj
      have := wadd x (wV (y + z)) w hx (by rw [wV_eq hi2]; exact hi2)
      rw [show x + wV (y + z) = x + y + z by rw [wV_eq hi2]; omega, wE_in hi1] at this
      exact this
  · rw [Int.mul_comm a b]; exact wmul b a w hb0 hb1 ha0 ha1
  · rw [Int.mul_comm (0 - a) b]; exact wmul b (0 - a) w hb0 hb1 (by omega) (by omega)
theorem back_row (W : World) (h0 l0 h1 l1 h2 l2 a b : Int) (s : ByteArray) (g1 : -9223372036854775808 ≤ h0) (g2 : h0 ≤ 9223372036854775807) (g3 : 0 ≤ l0) (g4 : l0 < 18446744073709551616) (g5 : -9223372036854775808 ≤ h1) (g6 : h1 ≤ 9223372036854775807) (g7 : 0 ≤ l1) (g8 : l1 < 18446744073709551616) (g9 : -9223372036854775808 ≤ h2) (ga : h2 ≤ 9223372036854775807) (gb : 0 ≤ l2) (gc : l2 < 18446744073709551616) (ha0 : -9223372036854775808 ≤ a) (ha1 : a ≤ 9223372036854775807) (hb0 : -9223372036854775808 ≤ b) (hb1 : b ≤ 9223372036854775807) : Calls Try.prog 7 #[.agg #[.int .i64 h0, .int .u64 l0], .agg #[.int .i64 h1, .int .u64 l1], .agg #[.int .i64 h2, .int .u64 l2], .int .i64 a, .int .i64 b, .string s] W fun e w' => e = .returned (.bool true) ∧ Below W.heap.size W w' := by
  have key : ∀ h l : Int, -9223372036854775808 ≤ h → h ≤ 9223372036854775807 → 0 ≤ l → l < 18446744073709551616 → ∃ x : Int, In128 x ∧ Value.agg #[.int .i64 h, .int .u64 l] = W2 x := fun h l a1 a2 a3 a4 =>
    ⟨h * 18446744073709551616 + l, by unfold In128; omega, w2_alt (by omega) (by omega)⟩
  obtain ⟨x, hx, ex⟩ := key h0 l0 g1 g2 g3 g4
  obtain ⟨y, hy, ey⟩ := key h1 l1 g5 g6 g7 g8
  obtain ⟨z, hz, ez⟩ := key h2 l2 g9 ga gb gc
  rw [ex, ey, ez, byt_str]
  exact back_any x y z a b (byt s) W hx hy hz (byt_by s) ha0 ha1 hb0 hb1
end Go.Proofs.Ytbjogekhedglgaa
