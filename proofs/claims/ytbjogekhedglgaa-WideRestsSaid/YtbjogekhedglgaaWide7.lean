/- The law WideRests, walked; what is reckoned stands as letters. -/
import Derived.Test.YtbjogekhedglgaaWide6
namespace Go.Proofs.Ytbjogekhedglgaa
open Go.RowKit Go.Shelf

set_option maxHeartbeats 8000000 in
theorem rests0 (hi lo a c QH QL R N ML MH OH OL : Int) (w : World)
    (hz : (c == 0) = true) :
    Calls Try.prog 5 #[.agg #[.int .i64 hi, .int .u64 lo], .int .i64 a, .int .i64 c] w fun e w' => e = .returned (.bool true) ∧ Below w.heap.size w w' := by
  have HA := Lib.hid alive_any
  all_goals
    go_enter Try.func5, Try.ntmps5
    go_wp2_with (first
      | (go_at_call 28; (with_reducible refine (HA.out _).mono ?_); rintro e w2 ⟨rfl, hb⟩; have B3 := blk1_0 hb; have hB := (below1 hb).1; clear hb; obtain ⟨c3, f3⟩ := B3.rules))
    go_returns
    exact ⟨rfl, hB⟩

set_option maxHeartbeats 8000000 in
theorem rests_no (hi lo a c QH QL R N ML MH OH OL : Int) (w : World)
    (hz : (c == 0) = false)
    (hMD : ∀ W, Calls Try.prog 27 #[.int .i64 a, .int .i64 c, .int .i64 c] W fun e w' => e = .returned (.tuple #[.int .i64 a, .int .i64 0]) ∧ Below W.heap.size W w')
    (hD : ∀ W, Calls Try.prog 25 #[.agg #[.int .i64 hi, .int .u64 lo], .int .i64 c] W fun e w' => e = .returned (.tuple #[.agg #[.int .i64 0, .int .u64 0], .int .i64 0, .int .i64 20]) ∧ Below W.heap.size W w') :
    Calls Try.prog 5 #[.agg #[.int .i64 hi, .int .u64 lo], .int .i64 a, .int .i64 c] w fun e w' => e = .returned (.bool true) ∧ Below w.heap.size w w' := by
  have HA := Lib.hid alive_any
  have HhMD := Lib.hid hMD
  have HhD := Lib.hid hD
  clear hMD hD
  all_goals
    go_enter Try.func5, Try.ntmps5
    go_wp2_with (first
      | (go_at_call 28; (with_reducible refine (HA.out _).mono ?_); rintro e w2 ⟨rfl, hb⟩; have B3 := blk1_0 hb; have hB := (below1 hb).1; clear hb; obtain ⟨c3, f3⟩ := B3.rules)
      | (go_at_call 27; (with_reducible refine (HhMD.out _).mono ?_); rintro e w2 ⟨rfl, hb⟩; have hB := hB.trans (hb.mono hB.size); have B3 := B3.below hb B3.lt; clear hb; obtain ⟨c3, f3⟩ := B3.rules)
      | (go_at_call 25; (with_reducible refine (HhD.out _).mono ?_); rintro e w2 ⟨rfl, hb⟩; have hB := hB.trans (hb.mono hB.size); have B3 := B3.below hb B3.lt; clear hb; obtain ⟨c3, f3⟩ := B3.rules)
      | ((with_reducible refine at_store 24 10 ?_); refine wpList_store_blk (Blk.new _ _ _) 24 _ _ rfl rfl rfl rfl rfl (by kernel_rfl) (by simp [Value.oneCell']) ?_; intro w4 B10 g4; have B3 := (B3.alloc _).grown g4 (by have := B3.lt; simp; omega); have hB : Below w.heap.size w w4 := (hB.alloc hB.size _).grown g4 (by have := hB.size; simp; omega) (fun k hk => by have := hB.size; cases hk; omega); clear g4; obtain ⟨c3, f3⟩ := B3.rules; obtain ⟨c10, f10⟩ := B10.rules))
    go_returns
    exact ⟨rfl, hB⟩

set_option maxHeartbeats 8000000 in
theorem rests_far (hi lo a c QH QL R N ML MH OH OL : Int) (w : World)
    (hz : (c == 0) = false)
    (hsg : (0 < c ∧ 0 ≤ R ∧ R < c) ∨ (c < 0 ∧ c < R ∧ R ≤ 0))
    (hMD : ∀ W, Calls Try.prog 27 #[.int .i64 a, .int .i64 c, .int .i64 c] W fun e w' => e = .returned (.tuple #[.int .i64 a, .int .i64 0]) ∧ Below W.heap.size W w')
    (hD : ∀ W, Calls Try.prog 25 #[.agg #[.int .i64 hi, .int .u64 lo], .int .i64 c] W fun e w' => e = .returned (.tuple #[.agg #[.int .i64 QH, .int .u64 QL], .int .i64 R, .int .i64 0]) ∧ Below W.heap.size W w')
    (hI : ∀ W, Calls Try.prog 19 #[.agg #[.int .i64 QH, .int .u64 QL]] W fun e w' => e = .returned (.tuple #[.int .i64 0, .int .i64 20]) ∧ Below W.heap.size W w') :
    Calls Try.prog 5 #[.agg #[.int .i64 hi, .int .u64 lo], .int .i64 a, .int .i64 c] w fun e w' => e = .returned (.bool true) ∧ Below w.heap.size w w' := by
  have HA := Lib.hid alive_any
  have HhMD := Lib.hid hMD
  have HhD := Lib.hid hD
  have HhI := Lib.hid hI
  clear hMD hD hI
  rcases hsg with ⟨s1, s2, s3⟩ | ⟨s1, s2, s3⟩ <;> rcases hr : (R == 0) with _ | _
  all_goals simp only [beq_eq_false_iff_ne, beq_iff_eq] at hr
  all_goals have hr0 := hr
  case inl.false =>
    have d1 : (R == 0) = false := by simpa using hr
    have d2 : decide (R < 0) = false := by simp; omega
    have d3 : decide (c < 0) = false := by simp; omega
    have d4 : decide (0 < c) = true := by simp; omega
    have d5 : decide (c ≤ R) = false := by simp; omega
    have d6 : decide (R ≤ c) = true := by simp; omega
    clear s1 s2 s3 hr0
    go_enter Try.func5, Try.ntmps5
    go_wp2_with (first
      | (go_at_call 28; (with_reducible refine (HA.out _).mono ?_); rintro e w2 ⟨rfl, hb⟩; have B3 := blk1_0 hb; have hB := (below1 hb).1; clear hb; obtain ⟨c3, f3⟩ := B3.rules)
      | (go_at_call 27; (with_reducible refine (HhMD.out _).mono ?_); rintro e w2 ⟨rfl, hb⟩; have hB := hB.trans (hb.mono hB.size); have B3 := B3.below hb B3.lt; clear hb; obtain ⟨c3, f3⟩ := B3.rules)
      | (go_at_call 25; (with_reducible refine (HhD.out _).mono ?_); rintro e w2 ⟨rfl, hb⟩; have hB := hB.trans (hb.mono hB.size); have B3 := B3.below hb B3.lt; clear hb; obtain ⟨c3, f3⟩ := B3.rules)
      | ((with_reducible refine at_store 24 10 ?_); refine wpList_store_blk (Blk.new _ _ _) 24 _ _ rfl rfl rfl rfl rfl (by kernel_rfl) (by simp [Value.oneCell']) ?_; intro w4 B10 g4; have B3 := (B3.alloc _).grown g4 (by have := B3.lt; simp; omega); have hB : Below w.heap.size w w4 := (hB.alloc hB.size _).grown g4 (by have := hB.size; simp; omega) (fun k hk => by have := hB.size; cases hk; omega); clear g4; obtain ⟨c3, f3⟩ := B3.rules; obtain ⟨c10, f10⟩ := B10.rules)
      | (go_at_call 19; (with_reducible refine (HhI.out _).mono ?_); rintro e w2 ⟨rfl, hb⟩; have hB := hB.trans (hb.mono hB.size); have B3 := B3.below hb B3.lt; have B10 := B10.below hb B10.lt; clear hb; obtain ⟨c3, f3⟩ := B3.rules; obtain ⟨c10, f10⟩ := B10.rules))
    go_returns
    exact ⟨rfl, hB⟩
  case inl.true =>
    obtain rfl := hr
    have d3 : decide (c < 0) = false := by simp; omega
    have d4 : decide (0 < c) = true := by simp; omega
    have d5 : decide (c ≤ 0) = false := by simp; omega
    have d6 : decide (0 ≤ c) = true := by simp; omega
    clear s1 s2 s3 hr0
    go_enter Try.func5, Try.ntmps5
    go_wp2_with (first
      | (go_at_call 28; (with_reducible refine (HA.out _).mono ?_); rintro e w2 ⟨rfl, hb⟩; have B3 := blk1_0 hb; have hB := (below1 hb).1; clear hb; obtain ⟨c3, f3⟩ := B3.rules)
      | (go_at_call 27; (with_reducible refine (HhMD.out _).mono ?_); rintro e w2 ⟨rfl, hb⟩; have hB := hB.trans (hb.mono hB.size); have B3 := B3.below hb B3.lt; clear hb; obtain ⟨c3, f3⟩ := B3.rules)
      | (go_at_call 25; (with_reducible refine (HhD.out _).mono ?_); rintro e w2 ⟨rfl, hb⟩; have hB := hB.trans (hb.mono hB.size); have B3 := B3.below hb B3.lt; clear hb; obtain ⟨c3, f3⟩ := B3.rules)
      | ((with_reducible refine at_store 24 10 ?_); refine wpList_store_blk (Blk.new _ _ _) 24 _ _ rfl rfl rfl rfl rfl (by kernel_rfl) (by simp [Value.oneCell']) ?_; intro w4 B10 g4; have B3 := (B3.alloc _).grown g4 (by have := B3.lt; simp; omega); have hB : Below w.heap.size w w4 := (hB.alloc hB.size _).grown g4 (by have := hB.size; simp; omega) (fun k hk => by have := hB.size; cases hk; omega); clear g4; obtain ⟨c3, f3⟩ := B3.rules; obtain ⟨c10, f10⟩ := B10.rules)
      | (go_at_call 19; (with_reducible refine (HhI.out _).mono ?_); rintro e w2 ⟨rfl, hb⟩; have hB := hB.trans (hb.mono hB.size); have B3 := B3.below hb B3.lt; have B10 := B10.below hb B10.lt; clear hb; obtain ⟨c3, f3⟩ := B3.rules; obtain ⟨c10, f10⟩ := B10.rules))
    go_returns
    exact ⟨rfl, hB⟩
  case inr.false =>
    have d1 : (R == 0) = false := by simpa using hr
    have d2 : decide (R < 0) = true := by simp; omega
    have d3 : decide (c < 0) = true := by simp; omega
    have d4 : decide (0 < c) = false := by simp; omega
    have d5 : decide (c ≤ R) = true := by simp; omega
    have d6 : decide (R ≤ c) = false := by simp; omega
    clear s1 s2 s3 hr0
    go_enter Try.func5, Try.ntmps5
    go_wp2_with (first
      | (go_at_call 28; (with_reducible refine (HA.out _).mono ?_); rintro e w2 ⟨rfl, hb⟩; have B3 := blk1_0 hb; have hB := (below1 hb).1; clear hb; obtain ⟨c3, f3⟩ := B3.rules)
      | (go_at_call 27; (with_reducible refine (HhMD.out _).mono ?_); rintro e w2 ⟨rfl, hb⟩; have hB := hB.trans (hb.mono hB.size); have B3 := B3.below hb B3.lt; clear hb; obtain ⟨c3, f3⟩ := B3.rules)
      | (go_at_call 25; (with_reducible refine (HhD.out _).mono ?_); rintro e w2 ⟨rfl, hb⟩; have hB := hB.trans (hb.mono hB.size); have B3 := B3.below hb B3.lt; clear hb; obtain ⟨c3, f3⟩ := B3.rules)
      | ((with_reducible refine at_store 24 10 ?_); refine wpList_store_blk (Blk.new _ _ _) 24 _ _ rfl rfl rfl rfl rfl (by kernel_rfl) (by simp [Value.oneCell']) ?_; intro w4 B10 g4; have B3 := (B3.alloc _).grown g4 (by have := B3.lt; simp; omega); have hB : Below w.heap.size w w4 := (hB.alloc hB.size _).grown g4 (by have := hB.size; simp; omega) (fun k hk => by have := hB.size; cases hk; omega); clear g4; obtain ⟨c3, f3⟩ := B3.rules; obtain ⟨c10, f10⟩ := B10.rules)
      | (go_at_call 19; (with_reducible refine (HhI.out _).mono ?_); rintro e w2 ⟨rfl, hb⟩; have hB := hB.trans (hb.mono hB.size); have B3 := B3.below hb B3.lt; have B10 := B10.below hb B10.lt; clear hb; obtain ⟨c3, f3⟩ := B3.rules; obtain ⟨c10, f10⟩ := B10.rules))
    go_returns
    exact ⟨rfl, hB⟩
  case inr.true =>
    obtain rfl := hr
    have d3 : decide (c < 0) = true := by simp; omega
    have d4 : decide (0 < c) = false := by simp; omega
    have d5 : decide (c ≤ 0) = true := by simp; omega
    have d6 : decide (0 ≤ c) = false := by simp; omega
    clear s1 s2 s3 hr0
    go_enter Try.func5, Try.ntmps5
    go_wp2_with (first
      | (go_at_call 28; (with_reducible refine (HA.out _).mono ?_); rintro e w2 ⟨rfl, hb⟩; have B3 := blk1_0 hb; have hB := (below1 hb).1; clear hb; obtain ⟨c3, f3⟩ := B3.rules)
      | (go_at_call 27; (with_reducible refine (HhMD.out _).mono ?_); rintro e w2 ⟨rfl, hb⟩; have hB := hB.trans (hb.mono hB.size); have B3 := B3.below hb B3.lt; clear hb; obtain ⟨c3, f3⟩ := B3.rules)
      | (go_at_call 25; (with_reducible refine (HhD.out _).mono ?_); rintro e w2 ⟨rfl, hb⟩; have hB := hB.trans (hb.mono hB.size); have B3 := B3.below hb B3.lt; clear hb; obtain ⟨c3, f3⟩ := B3.rules)
      | ((with_reducible refine at_store 24 10 ?_); refine wpList_store_blk (Blk.new _ _ _) 24 _ _ rfl rfl rfl rfl rfl (by kernel_rfl) (by simp [Value.oneCell']) ?_; intro w4 B10 g4; have B3 := (B3.alloc _).grown g4 (by have := B3.lt; simp; omega); have hB : Below w.heap.size w w4 := (hB.alloc hB.size _).grown g4 (by have := hB.size; simp; omega) (fun k hk => by have := hB.size; cases hk; omega); clear g4; obtain ⟨c3, f3⟩ := B3.rules; obtain ⟨c10, f10⟩ := B10.rules)
      | (go_at_call 19; (with_reducible refine (HhI.out _).mono ?_); rintro e w2 ⟨rfl, hb⟩; have hB := hB.trans (hb.mono hB.size); have B3 := B3.below hb B3.lt; have B10 := B10.below hb B10.lt; clear hb; obtain ⟨c3, f3⟩ := B3.rules; obtain ⟨c10, f10⟩ := B10.rules))
    go_returns
    exact ⟨rfl, hB⟩

set_option maxHeartbeats 8000000 in
theorem rests_in (hi lo a c QH QL R N ML MH OH OL : Int) (w : World)
    (hz : (c == 0) = false)
    (hsg : (0 < c ∧ 0 ≤ R ∧ R < c) ∨ (c < 0 ∧ c < R ∧ R ≤ 0))
    (hMD : ∀ W, Calls Try.prog 27 #[.int .i64 a, .int .i64 c, .int .i64 c] W fun e w' => e = .returned (.tuple #[.int .i64 a, .int .i64 0]) ∧ Below W.heap.size W w')
    (hD : ∀ W, Calls Try.prog 25 #[.agg #[.int .i64 hi, .int .u64 lo], .int .i64 c] W fun e w' => e = .returned (.tuple #[.agg #[.int .i64 QH, .int .u64 QL], .int .i64 R, .int .i64 0]) ∧ Below W.heap.size W w')
    (hI : ∀ W, Calls Try.prog 19 #[.agg #[.int .i64 QH, .int .u64 QL]] W fun e w' => e = .returned (.tuple #[.int .i64 N, .int .i64 0]) ∧ Below W.heap.size W w')
    (hMu : ∀ W, Calls Try.prog 21 #[.int .i64 N, .int .i64 c] W fun e w' => e = .returned (.agg #[.int .i64 MH, .int .u64 ML]) ∧ Below W.heap.size W w')
    (hO : ∀ W, Calls Try.prog 22 #[.int .i64 R] W fun e w' => e = .returned (.agg #[.int .i64 OH, .int .u64 OL]) ∧ Below W.heap.size W w')
    (hAd : ∀ W, Calls Try.prog 13 #[.agg #[.int .i64 MH, .int .u64 ML], .agg #[.int .i64 OH, .int .u64 OL]] W fun e w' => e = .returned (.tuple #[.agg #[.int .i64 hi, .int .u64 lo], .int .i64 0]) ∧ Below W.heap.size W w') :
    Calls Try.prog 5 #[.agg #[.int .i64 hi, .int .u64 lo], .int .i64 a, .int .i64 c] w fun e w' => e = .returned (.bool true) ∧ Below w.heap.size w w' := by
  have HA := Lib.hid alive_any
  have HhMD := Lib.hid hMD
  have HhD := Lib.hid hD
  have HhI := Lib.hid hI
  have HhMu := Lib.hid hMu
  have HhO := Lib.hid hO
  have HhAd := Lib.hid hAd
  clear hMD hD hI hMu hO hAd
  rcases hsg with ⟨s1, s2, s3⟩ | ⟨s1, s2, s3⟩ <;> rcases hr : (R == 0) with _ | _
  all_goals simp only [beq_eq_false_iff_ne, beq_iff_eq] at hr
  all_goals have hr0 := hr
  case inl.false =>
    have d1 : (R == 0) = false := by simpa using hr
    have d2 : decide (R < 0) = false := by simp; omega
    have d3 : decide (c < 0) = false := by simp; omega
    have d4 : decide (0 < c) = true := by simp; omega
    have d5 : decide (c ≤ R) = false := by simp; omega
    have d6 : decide (R ≤ c) = true := by simp; omega
    clear s1 s2 s3 hr0
    go_enter Try.func5, Try.ntmps5
    go_wp2_with (first
      | (go_at_call 28; (with_reducible refine (HA.out _).mono ?_); rintro e w2 ⟨rfl, hb⟩; have B3 := blk1_0 hb; have hB := (below1 hb).1; clear hb; obtain ⟨c3, f3⟩ := B3.rules)
      | (go_at_call 27; (with_reducible refine (HhMD.out _).mono ?_); rintro e w2 ⟨rfl, hb⟩; have hB := hB.trans (hb.mono hB.size); have B3 := B3.below hb B3.lt; clear hb; obtain ⟨c3, f3⟩ := B3.rules)
      | (go_at_call 25; (with_reducible refine (HhD.out _).mono ?_); rintro e w2 ⟨rfl, hb⟩; have hB := hB.trans (hb.mono hB.size); have B3 := B3.below hb B3.lt; clear hb; obtain ⟨c3, f3⟩ := B3.rules)
      | ((with_reducible refine at_store 24 10 ?_); refine wpList_store_blk (Blk.new _ _ _) 24 _ _ rfl rfl rfl rfl rfl (by kernel_rfl) (by simp [Value.oneCell']) ?_; intro w4 B10 g4; have B3 := (B3.alloc _).grown g4 (by have := B3.lt; simp; omega); have hB : Below w.heap.size w w4 := (hB.alloc hB.size _).grown g4 (by have := hB.size; simp; omega) (fun k hk => by have := hB.size; cases hk; omega); clear g4; obtain ⟨c3, f3⟩ := B3.rules; obtain ⟨c10, f10⟩ := B10.rules)
      | (go_at_call 19; (with_reducible refine (HhI.out _).mono ?_); rintro e w2 ⟨rfl, hb⟩; have hB := hB.trans (hb.mono hB.size); have B3 := B3.below hb B3.lt; have B10 := B10.below hb B10.lt; clear hb; obtain ⟨c3, f3⟩ := B3.rules; obtain ⟨c10, f10⟩ := B10.rules)
      | (go_at_call 21; (with_reducible refine (HhMu.out _).mono ?_); rintro e w2 ⟨rfl, hb⟩; have hB := hB.trans (hb.mono hB.size); have B3 := B3.below hb B3.lt; have B10 := B10.below hb B10.lt; clear hb; obtain ⟨c3, f3⟩ := B3.rules; obtain ⟨c10, f10⟩ := B10.rules)
      | (go_at_call 22; (with_reducible refine (HhO.out _).mono ?_); rintro e w2 ⟨rfl, hb⟩; have hB := hB.trans (hb.mono hB.size); have B3 := B3.below hb B3.lt; have B10 := B10.below hb B10.lt; clear hb; obtain ⟨c3, f3⟩ := B3.rules; obtain ⟨c10, f10⟩ := B10.rules)
      | (go_at_call 13; (with_reducible refine (HhAd.out _).mono ?_); rintro e w2 ⟨rfl, hb⟩; have hB := hB.trans (hb.mono hB.size); have B3 := B3.below hb B3.lt; have B10 := B10.below hb B10.lt; clear hb; obtain ⟨c3, f3⟩ := B3.rules; obtain ⟨c10, f10⟩ := B10.rules)
      | ((with_reducible refine at_store 24 15 ?_); refine wpList_store_blk (Blk.new _ _ _) 24 _ _ rfl rfl rfl rfl rfl (by kernel_rfl) (by simp [Value.oneCell']) ?_; intro w4 B15 g4; have B3 := (B3.alloc _).grown g4 (by have := B3.lt; simp; omega); have B10 := (B10.alloc _).grown g4 (by have := B10.lt; simp; omega); have hB : Below w.heap.size w w4 := (hB.alloc hB.size _).grown g4 (by have := hB.size; simp; omega) (fun k hk => by have := hB.size; cases hk; omega); clear g4; obtain ⟨c3, f3⟩ := B3.rules; obtain ⟨c10, f10⟩ := B10.rules; obtain ⟨c15, f15⟩ := B15.rules))
    go_returns
    exact ⟨rfl, hB⟩
  case inl.true =>
    obtain rfl := hr
    have d3 : decide (c < 0) = false := by simp; omega
    have d4 : decide (0 < c) = true := by simp; omega
    have d5 : decide (c ≤ 0) = false := by simp; omega
    have d6 : decide (0 ≤ c) = true := by simp; omega
    clear s1 s2 s3 hr0
    go_enter Try.func5, Try.ntmps5
    go_wp2_with (first
      | (go_at_call 28; (with_reducible refine (HA.out _).mono ?_); rintro e w2 ⟨rfl, hb⟩; have B3 := blk1_0 hb; have hB := (below1 hb).1; clear hb; obtain ⟨c3, f3⟩ := B3.rules)
      | (go_at_call 27; (with_reducible refine (HhMD.out _).mono ?_); rintro e w2 ⟨rfl, hb⟩; have hB := hB.trans (hb.mono hB.size); have B3 := B3.below hb B3.lt; clear hb; obtain ⟨c3, f3⟩ := B3.rules)
      | (go_at_call 25; (with_reducible refine (HhD.out _).mono ?_); rintro e w2 ⟨rfl, hb⟩; have hB := hB.trans (hb.mono hB.size); have B3 := B3.below hb B3.lt; clear hb; obtain ⟨c3, f3⟩ := B3.rules)
      | ((with_reducible refine at_store 24 10 ?_); refine wpList_store_blk (Blk.new _ _ _) 24 _ _ rfl rfl rfl rfl rfl (by kernel_rfl) (by simp [Value.oneCell']) ?_; intro w4 B10 g4; have B3 := (B3.alloc _).grown g4 (by have := B3.lt; simp; omega); have hB : Below w.heap.size w w4 := (hB.alloc hB.size _).grown g4 (by have := hB.size; simp; omega) (fun k hk => by have := hB.size; cases hk; omega); clear g4; obtain ⟨c3, f3⟩ := B3.rules; obtain ⟨c10, f10⟩ := B10.rules)
      | (go_at_call 19; (with_reducible refine (HhI.out _).mono ?_); rintro e w2 ⟨rfl, hb⟩; have hB := hB.trans (hb.mono hB.size); have B3 := B3.below hb B3.lt; have B10 := B10.below hb B10.lt; clear hb; obtain ⟨c3, f3⟩ := B3.rules; obtain ⟨c10, f10⟩ := B10.rules)
      | (go_at_call 21; (with_reducible refine (HhMu.out _).mono ?_); rintro e w2 ⟨rfl, hb⟩; have hB := hB.trans (hb.mono hB.size); have B3 := B3.below hb B3.lt; have B10 := B10.below hb B10.lt; clear hb; obtain ⟨c3, f3⟩ := B3.rules; obtain ⟨c10, f10⟩ := B10.rules)
      | (go_at_call 22; (with_reducible refine (HhO.out _).mono ?_); rintro e w2 ⟨rfl, hb⟩; have hB := hB.trans (hb.mono hB.size); have B3 := B3.below hb B3.lt; have B10 := B10.below hb B10.lt; clear hb; obtain ⟨c3, f3⟩ := B3.rules; obtain ⟨c10, f10⟩ := B10.rules)
      | (go_at_call 13; (with_reducible refine (HhAd.out _).mono ?_); rintro e w2 ⟨rfl, hb⟩; have hB := hB.trans (hb.mono hB.size); have B3 := B3.below hb B3.lt; have B10 := B10.below hb B10.lt; clear hb; obtain ⟨c3, f3⟩ := B3.rules; obtain ⟨c10, f10⟩ := B10.rules)
      | ((with_reducible refine at_store 24 15 ?_); refine wpList_store_blk (Blk.new _ _ _) 24 _ _ rfl rfl rfl rfl rfl (by kernel_rfl) (by simp [Value.oneCell']) ?_; intro w4 B15 g4; have B3 := (B3.alloc _).grown g4 (by have := B3.lt; simp; omega); have B10 := (B10.alloc _).grown g4 (by have := B10.lt; simp; omega); have hB : Below w.heap.size w w4 := (hB.alloc hB.size _).grown g4 (by have := hB.size; simp; omega) (fun k hk => by have := hB.size; cases hk; omega); clear g4; obtain ⟨c3, f3⟩ := B3.rules; obtain ⟨c10, f10⟩ := B10.rules; obtain ⟨c15, f15⟩ := B15.rules))
    go_returns
    exact ⟨rfl, hB⟩
  case inr.false =>
    have d1 : (R == 0) = false := by simpa using hr
    have d2 : decide (R < 0) = true := by simp; omega
    have d3 : decide (c < 0) = true := by simp; omega
    have d4 : decide (0 < c) = false := by simp; omega
    have d5 : decide (c ≤ R) = true := by simp; omega
    have d6 : decide (R ≤ c) = false := by simp; omega
    clear s1 s2 s3 hr0
    go_enter Try.func5, Try.ntmps5
    go_wp2_with (first
      | (go_at_call 28; (with_reducible refine (HA.out _).mono ?_); rintro e w2 ⟨rfl, hb⟩; have B3 := blk1_0 hb; have hB := (below1 hb).1; clear hb; obtain ⟨c3, f3⟩ := B3.rules)
      | (go_at_call 27; (with_reducible refine (HhMD.out _).mono ?_); rintro e w2 ⟨rfl, hb⟩; have hB := hB.trans (hb.mono hB.size); have B3 := B3.below hb B3.lt; clear hb; obtain ⟨c3, f3⟩ := B3.rules)
      | (go_at_call 25; (with_reducible refine (HhD.out _).mono ?_); rintro e w2 ⟨rfl, hb⟩; have hB := hB.trans (hb.mono hB.size); have B3 := B3.below hb B3.lt; clear hb; obtain ⟨c3, f3⟩ := B3.rules)
      | ((with_reducible refine at_store 24 10 ?_); refine wpList_store_blk (Blk.new _ _ _) 24 _ _ rfl rfl rfl rfl rfl (by kernel_rfl) (by simp [Value.oneCell']) ?_; intro w4 B10 g4; have B3 := (B3.alloc _).grown g4 (by have := B3.lt; simp; omega); have hB : Below w.heap.size w w4 := (hB.alloc hB.size _).grown g4 (by have := hB.size; simp; omega) (fun k hk => by have := hB.size; cases hk; omega); clear g4; obtain ⟨c3, f3⟩ := B3.rules; obtain ⟨c10, f10⟩ := B10.rules)
      | (go_at_call 19; (with_reducible refine (HhI.out _).mono ?_); rintro e w2 ⟨rfl, hb⟩; have hB := hB.trans (hb.mono hB.size); have B3 := B3.below hb B3.lt; have B10 := B10.below hb B10.lt; clear hb; obtain ⟨c3, f3⟩ := B3.rules; obtain ⟨c10, f10⟩ := B10.rules)
      | (go_at_call 21; (with_reducible refine (HhMu.out _).mono ?_); rintro e w2 ⟨rfl, hb⟩; have hB := hB.trans (hb.mono hB.size); have B3 := B3.below hb B3.lt; have B10 := B10.below hb B10.lt; clear hb; obtain ⟨c3, f3⟩ := B3.rules; obtain ⟨c10, f10⟩ := B10.rules)
      | (go_at_call 22; (with_reducible refine (HhO.out _).mono ?_); rintro e w2 ⟨rfl, hb⟩; have hB := hB.trans (hb.mono hB.size); have B3 := B3.below hb B3.lt; have B10 := B10.below hb B10.lt; clear hb; obtain ⟨c3, f3⟩ := B3.rules; obtain ⟨c10, f10⟩ := B10.rules)
      | (go_at_call 13; (with_reducible refine (HhAd.out _).mono ?_); rintro e w2 ⟨rfl, hb⟩; have hB := hB.trans (hb.mono hB.size); have B3 := B3.below hb B3.lt; have B10 := B10.below hb B10.lt; clear hb; obtain ⟨c3, f3⟩ := B3.rules; obtain ⟨c10, f10⟩ := B10.rules)
      | ((with_reducible refine at_store 24 15 ?_); refine wpList_store_blk (Blk.new _ _ _) 24 _ _ rfl rfl rfl rfl rfl (by kernel_rfl) (by simp [Value.oneCell']) ?_; intro w4 B15 g4; have B3 := (B3.alloc _).grown g4 (by have := B3.lt; simp; omega); have B10 := (B10.alloc _).grown g4 (by have := B10.lt; simp; omega); have hB : Below w.heap.size w w4 := (hB.alloc hB.size _).grown g4 (by have := hB.size; simp; omega) (fun k hk => by have := hB.size; cases hk; omega); clear g4; obtain ⟨c3, f3⟩ := B3.rules; obtain ⟨c10, f10⟩ := B10.rules; obtain ⟨c15, f15⟩ := B15.rules))
    go_returns
    exact ⟨rfl, hB⟩
  case inr.true =>
    obtain rfl := hr
    have d3 : decide (c < 0) = true := by simp; omega
    have d4 : decide (0 < c) = false := by simp; omega
    have d5 : decide (c ≤ 0) = true := by simp; omega
    have d6 : decide (0 ≤ c) = false := by simp; omega
    clear s1 s2 s3 hr0
    go_enter Try.func5, Try.ntmps5
    go_wp2_with (first
      | (go_at_call 28; (with_reducible refine (HA.out _).mono ?_); rintro e w2 ⟨rfl, hb⟩; have B3 := blk1_0 hb; have hB := (below1 hb).1; clear hb; obtain ⟨c3, f3⟩ := B3.rules)
      | (go_at_call 27; (with_reducible refine (HhMD.out _).mono ?_); rintro e w2 ⟨rfl, hb⟩; have hB := hB.trans (hb.mono hB.size); have B3 := B3.below hb B3.lt; clear hb; obtain ⟨c3, f3⟩ := B3.rules)
      | (go_at_call 25; (with_reducible refine (HhD.out _).mono ?_); rintro e w2 ⟨rfl, hb⟩; have hB := hB.trans (hb.mono hB.size); have B3 := B3.below hb B3.lt; clear hb; obtain ⟨c3, f3⟩ := B3.rules)
      | ((with_reducible refine at_store 24 10 ?_); refine wpList_store_blk (Blk.new _ _ _) 24 _ _ rfl rfl rfl rfl rfl (by kernel_rfl) (by simp [Value.oneCell']) ?_; intro w4 B10 g4; have B3 := (B3.alloc _).grown g4 (by have := B3.lt; simp; omega); have hB : Below w.heap.size w w4 := (hB.alloc hB.size _).grown g4 (by have := hB.size; simp; omega) (fun k hk => by have := hB.size; cases hk; omega); clear g4; obtain ⟨c3, f3⟩ := B3.rules; obtain ⟨c10, f10⟩ := B10.rules)
      | (go_at_call 19; (with_reducible refine (HhI.out _).mono ?_); rintro e w2 ⟨rfl, hb⟩; have hB := hB.trans (hb.mono hB.size); have B3 := B3.below hb B3.lt; have B10 := B10.below hb B10.lt; clear hb; obtain ⟨c3, f3⟩ := B3.rules; obtain ⟨c10, f10⟩ := B10.rules)
      | (go_at_call 21; (with_reducible refine (HhMu.out _).mono ?_); rintro e w2 ⟨rfl, hb⟩; have hB := hB.trans (hb.mono hB.size); have B3 := B3.below hb B3.lt; have B10 := B10.below hb B10.lt; clear hb; obtain ⟨c3, f3⟩ := B3.rules; obtain ⟨c10, f10⟩ := B10.rules)
      | (go_at_call 22; (with_reducible refine (HhO.out _).mono ?_); rintro e w2 ⟨rfl, hb⟩; have hB := hB.trans (hb.mono hB.size); have B3 := B3.below hb B3.lt; have B10 := B10.below hb B10.lt; clear hb; obtain ⟨c3, f3⟩ := B3.rules; obtain ⟨c10, f10⟩ := B10.rules)
      | (go_at_call 13; (with_reducible refine (HhAd.out _).mono ?_); rintro e w2 ⟨rfl, hb⟩; have hB := hB.trans (hb.mono hB.size); have B3 := B3.below hb B3.lt; have B10 := B10.below hb B10.lt; clear hb; obtain ⟨c3, f3⟩ := B3.rules; obtain ⟨c10, f10⟩ := B10.rules)
      | ((with_reducible refine at_store 24 15 ?_); refine wpList_store_blk (Blk.new _ _ _) 24 _ _ rfl rfl rfl rfl rfl (by kernel_rfl) (by simp [Value.oneCell']) ?_; intro w4 B15 g4; have B3 := (B3.alloc _).grown g4 (by have := B3.lt; simp; omega); have B10 := (B10.alloc _).grown g4 (by have := B10.lt; simp; omega); have hB : Below w.heap.size w w4 := (hB.alloc hB.size _).grown g4 (by have := hB.size; simp; omega) (fun k hk => by have := hB.size; cases hk; omega); clear g4; obtain ⟨c3, f3⟩ := B3.rules; obtain ⟨c10, f10⟩ := B10.rules; obtain ⟨c15, f15⟩ := B15.rules))
    go_returns
    exact ⟨rfl, hB⟩

end Go.Proofs.Ytbjogekhedglgaa
