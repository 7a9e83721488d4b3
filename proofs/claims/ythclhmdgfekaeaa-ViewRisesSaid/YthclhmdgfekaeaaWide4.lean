/- Package wide: Div, walked; what is reckoned stands as letters. -/
import Derived.Test.YthclhmdgfekaeaaWide3
namespace Go.Proofs.Ythclhmdgfekaeaa
open Go.RowKit Go.Shelf Go.BigFrame
attribute [local go_sem] Meets.cell quietR

set_option maxHeartbeats 8000000 in
theorem div_pp0 (hi lo c ah al C QH QL R NH NL OH OL MH ML D NR E : Int) (w : World)
    (hS : ∀ W, Calls Try.prog 81 #[.int .i64 c] W fun e w' => e = .returned (.int .u64 C) ∧ w' = W)
    (hP : ∀ W, Calls Try.prog 80 #[.agg #[.int .i64 hi, .int .u64 lo], .int .u64 C] W fun e w' => e = .returned (.tuple #[.agg #[.int .i64 QH, .int .u64 QL], .int .u64 R]) ∧ Below W.heap.size W w')
    (hq : decide (QH < 0) = false)
    (ha : decide (hi < 0) = false)
    (hc : decide (c < 0) = false)
    (hz : (c == 0) = false)
    (hE : IntKind.i64.wrap R = E) :
    Calls Try.prog 71 #[.agg #[.int .i64 hi, .int .u64 lo], .int .i64 c] w fun e w' => e = .returned (.tuple #[.agg #[.int .i64 QH, .int .u64 QL], .int .i64 E, .int .i64 0]) ∧ Below w.heap.size w w' := by
  have HS := Lib.hid hS
  have HP := Lib.hid hP
  clear hS hP
  go_enter Try.func71, Try.ntmps71
  go_wp2_with (first
    | ((with_reducible refine at_store 89 8 ?_); refine wpList_store_blk (blk3_2 (Below.refl _ _)) 89 _ _ rfl rfl rfl rfl rfl (by kernel_rfl) (by simp [Value.oneCell']) ?_; intro w3 B8 g3; have B4 := Blk.grown (blk3_1 (Below.refl _ _)) g3 (by simp); have hB : Below w.heap.size w w3 := Below.grown (by go_grown) g3 (by simp; omega) (fun k hk => by cases hk; omega); clear g3; obtain ⟨c4, f4⟩ := B4.rules; obtain ⟨c8, f8⟩ := B8.rules))
  have LS := B8.meets
  refine region_flow 7 10 [true, true, true, true, true, true, true] [true, true, true] (by kernel_rfl) (by kernel_rfl) (fun d _ _ _ _ h => by cases d <;> exact h) ?_
  simp only [List.take_succ_cons, List.take_zero, List.drop_succ_cons, List.drop_zero]
  repeat (refine wpQuietR_step (fun K hK => ?_); go_simp; first | (refine hK _ ?_; clear hK K) | (apply Exists.intro; refine ⟨fun s => ?_, hK _ ?_⟩; (first | exact (HP.out _) | (refine (HS.out _).mono ?_; rintro e w2 ⟨rfl, rfl⟩; exact ⟨rfl, Below.refl _ _⟩)); clear hK K))
  clear LS
  refine wpQuietR_nil ?_
  intro w5 hb
  have q4 := B4.lt
  refine wpListR_var (z := #[.int .i64 0, .int .u64 0]) (t := 89) (cs := #[.int .i64 QH, .int .u64 QL]) (s := 9) ⟨hb.os, hb.tape, hb.output, hb.size, hb.block⟩ (.tmp 26) rfl rfl (fun _ => by go_simp) rfl rfl rfl (by simp) (fun _ => by simp [go_sem]) rfl (by kernel_rfl) (by simp [Value.oneCell']) ?_
  intro g w6 hg B9 hS6
  refine wpListR_assign (fun _ => hS6) rfl rfl ?_
  intro w7 hw7
  refine wpListR_nil ?_
  intro w8 hw8
  have hT := Below.undrew (hS6.trans ((hw7.trans (hw8.mono hw7.size)).mono hS6.size))
  have B9 := (B9.below hw7 B9.lt)
  have B9 := (B9.below hw8 B9.lt)
  have B4 := B4.below hT q4
  have hB := hB.trans (hT.mono hB.size)
  have q9 : w.heap.size + 1 < g := Nat.lt_of_lt_of_le q4 hg
  clear hb hS6 hw7 hw8 hT q4 hg c4 f4 c8 f8
  obtain ⟨c4, f4⟩ := B4.rules
  obtain ⟨c9, f9⟩ := B9.rules
  have q8 : w.heap.size ≤ g := by omega
  have q7 : w.heap.size + 1 ≠ g := by omega
  have q6 : g ≠ w.heap.size + 1 := by omega
  go_wp2_with (first
    | ((with_reducible refine at_store 89 9 ?_); refine wpList_store_blk B9 89 _ _ rfl rfl rfl rfl rfl (by kernel_rfl) (by simp [Value.oneCell']) ?_; intro w6 B9 g6; have B4 := B4.grown g6 (by simpa using q7); have hB : Below w.heap.size w w6 := hB.grown g6 hB.size (fun k hk => by cases hk; exact q8); clear g6 c9 f9; obtain ⟨c4, f4⟩ := B4.rules; obtain ⟨c9, f9⟩ := B9.rules)
    | ((with_reducible refine at_store 89 4 ?_); refine wpList_store_blk B4 89 _ _ rfl rfl rfl rfl rfl (by kernel_rfl) (by simp [Value.oneCell']) ?_; intro w9 B4 g9; have hB : Below w.heap.size w w9 := hB.grown g9 hB.size (fun k hk => by cases hk; omega)))
  exact bodyPost_ret (results_cell_tmp2 B4 rfl rfl Try.underlying89 rfl (by kernel_rfl)) rfl ⟨rfl, hB⟩

set_option maxHeartbeats 8000000 in
theorem div_pm0 (hi lo c ah al C QH QL R NH NL OH OL MH ML D NR E : Int) (w : World)
    (hS : ∀ W, Calls Try.prog 81 #[.int .i64 c] W fun e w' => e = .returned (.int .u64 C) ∧ w' = W)
    (hP : ∀ W, Calls Try.prog 80 #[.agg #[.int .i64 hi, .int .u64 lo], .int .u64 C] W fun e w' => e = .returned (.tuple #[.agg #[.int .i64 QH, .int .u64 QL], .int .u64 R]) ∧ Below W.heap.size W w')
    (hT2 : ∀ W, Calls Try.prog 79 #[.agg #[.int .i64 QH, .int .u64 QL]] W fun e w' => e = .returned (.agg #[.int .i64 NH, .int .u64 NL]) ∧ Below W.heap.size W w')
    (hr : decide (0 < R) = false)
    (ha : decide (hi < 0) = false)
    (hc : decide (c < 0) = true)
    (hz : (c == 0) = false)
    (hN : IntKind.u64.wrap (-R) = NR)
    (hE : IntKind.i64.wrap NR = E) :
    Calls Try.prog 71 #[.agg #[.int .i64 hi, .int .u64 lo], .int .i64 c] w fun e w' => e = .returned (.tuple #[.agg #[.int .i64 NH, .int .u64 NL], .int .i64 E, .int .i64 0]) ∧ Below w.heap.size w w' := by
  have HS := Lib.hid hS
  have HP := Lib.hid hP
  have HT2 := Lib.hid hT2
  clear hS hP hT2
  go_enter Try.func71, Try.ntmps71
  go_wp2_with (first
    | ((with_reducible refine at_store 89 8 ?_); refine wpList_store_blk (blk3_2 (Below.refl _ _)) 89 _ _ rfl rfl rfl rfl rfl (by kernel_rfl) (by simp [Value.oneCell']) ?_; intro w3 B8 g3; have B4 := Blk.grown (blk3_1 (Below.refl _ _)) g3 (by simp); have hB : Below w.heap.size w w3 := Below.grown (by go_grown) g3 (by simp; omega) (fun k hk => by cases hk; omega); clear g3; obtain ⟨c4, f4⟩ := B4.rules; obtain ⟨c8, f8⟩ := B8.rules))
  have LS := B8.meets
  refine region_flow 7 10 [true, true, true, true, true, true, true] [true, true, true] (by kernel_rfl) (by kernel_rfl) (fun d _ _ _ _ h => by cases d <;> exact h) ?_
  simp only [List.take_succ_cons, List.take_zero, List.drop_succ_cons, List.drop_zero]
  repeat (refine wpQuietR_step (fun K hK => ?_); go_simp; first | (refine hK _ ?_; clear hK K) | (apply Exists.intro; refine ⟨fun s => ?_, hK _ ?_⟩; (first | exact (HP.out _) | (refine (HS.out _).mono ?_; rintro e w2 ⟨rfl, rfl⟩; exact ⟨rfl, Below.refl _ _⟩)); clear hK K))
  clear LS
  refine wpQuietR_nil ?_
  intro w5 hb
  have q4 := B4.lt
  refine wpListR_var (z := #[.int .i64 0, .int .u64 0]) (t := 89) (cs := #[.int .i64 QH, .int .u64 QL]) (s := 9) ⟨hb.os, hb.tape, hb.output, hb.size, hb.block⟩ (.tmp 26) rfl rfl (fun _ => by go_simp) rfl rfl rfl (by simp) (fun _ => by simp [go_sem]) rfl (by kernel_rfl) (by simp [Value.oneCell']) ?_
  intro g w6 hg B9 hS6
  refine wpListR_assign (fun _ => hS6) rfl rfl ?_
  intro w7 hw7
  refine wpListR_nil ?_
  intro w8 hw8
  have hT := Below.undrew (hS6.trans ((hw7.trans (hw8.mono hw7.size)).mono hS6.size))
  have B9 := (B9.below hw7 B9.lt)
  have B9 := (B9.below hw8 B9.lt)
  have B4 := B4.below hT q4
  have hB := hB.trans (hT.mono hB.size)
  have q9 : w.heap.size + 1 < g := Nat.lt_of_lt_of_le q4 hg
  clear hb hS6 hw7 hw8 hT q4 hg c4 f4 c8 f8
  obtain ⟨c4, f4⟩ := B4.rules
  obtain ⟨c9, f9⟩ := B9.rules
  have q8 : w.heap.size ≤ g := by omega
  have q7 : w.heap.size + 1 ≠ g := by omega
  have q6 : g ≠ w.heap.size + 1 := by omega
  go_wp2_with (first
    | ((with_reducible refine at_store 89 9 ?_); refine wpList_store_blk B9 89 _ _ rfl rfl rfl rfl rfl (by kernel_rfl) (by simp [Value.oneCell']) ?_; intro w6 B9 g6; have B4 := B4.grown g6 (by simpa using q7); have hB : Below w.heap.size w w6 := hB.grown g6 hB.size (fun k hk => by cases hk; exact q8); clear g6 c9 f9; obtain ⟨c4, f4⟩ := B4.rules; obtain ⟨c9, f9⟩ := B9.rules)
    | (go_at_call 79; refine (HT2.out _).mono ?_; rintro e w7 ⟨rfl, hb⟩; have hB := hB.trans (hb.mono hB.size); have B4 := B4.below hb B4.lt; have B9 := B9.below hb B9.lt; clear hb; obtain ⟨c4, f4⟩ := B4.rules; obtain ⟨c9, f9⟩ := B9.rules)
    | ((with_reducible refine at_store 89 4 ?_); refine wpList_store_blk B4 89 _ _ rfl rfl rfl rfl rfl (by kernel_rfl) (by simp [Value.oneCell']) ?_; intro w9 B4 g9; have hB : Below w.heap.size w w9 := hB.grown g9 hB.size (fun k hk => by cases hk; omega)))
  exact bodyPost_ret (results_cell_tmp2 B4 rfl rfl Try.underlying89 rfl (by kernel_rfl)) rfl ⟨rfl, hB⟩

set_option maxHeartbeats 8000000 in
theorem div_pm1 (hi lo c ah al C QH QL R NH NL OH OL MH ML D NR E : Int) (w : World)
    (hS : ∀ W, Calls Try.prog 81 #[.int .i64 c] W fun e w' => e = .returned (.int .u64 C) ∧ w' = W)
    (hP : ∀ W, Calls Try.prog 80 #[.agg #[.int .i64 hi, .int .u64 lo], .int .u64 C] W fun e w' => e = .returned (.tuple #[.agg #[.int .i64 QH, .int .u64 QL], .int .u64 R]) ∧ Below W.heap.size W w')
    (hT2 : ∀ W, Calls Try.prog 79 #[.agg #[.int .i64 QH, .int .u64 QL]] W fun e w' => e = .returned (.agg #[.int .i64 NH, .int .u64 NL]) ∧ Below W.heap.size W w')
    (hO : ∀ W, Calls Try.prog 83 #[.int .i64 (-1)] W fun e w' => e = .returned (.agg #[.int .i64 OH, .int .u64 OL]) ∧ Below W.heap.size W w')
    (hPl : ∀ W, Calls Try.prog 82 #[.agg #[.int .i64 NH, .int .u64 NL], .agg #[.int .i64 OH, .int .u64 OL]] W fun e w' => e = .returned (.agg #[.int .i64 MH, .int .u64 ML]) ∧ Below W.heap.size W w')
    (hD : IntKind.u64.wrap (C - R) = D)
    (hr : decide (0 < R) = true)
    (ha : decide (hi < 0) = false)
    (hc : decide (c < 0) = true)
    (hz : (c == 0) = false)
    (hN : IntKind.u64.wrap (-D) = NR)
    (hE : IntKind.i64.wrap NR = E) :
    Calls Try.prog 71 #[.agg #[.int .i64 hi, .int .u64 lo], .int .i64 c] w fun e w' => e = .returned (.tuple #[.agg #[.int .i64 MH, .int .u64 ML], .int .i64 E, .int .i64 0]) ∧ Below w.heap.size w w' := by
  have HS := Lib.hid hS
  have HP := Lib.hid hP
  have HT2 := Lib.hid hT2
  have HO := Lib.hid hO
  have HPL := Lib.hid hPl
  clear hS hP hT2 hO hPl
  go_enter Try.func71, Try.ntmps71
  go_wp2_with (first
    | ((with_reducible refine at_store 89 8 ?_); refine wpList_store_blk (blk3_2 (Below.refl _ _)) 89 _ _ rfl rfl rfl rfl rfl (by kernel_rfl) (by simp [Value.oneCell']) ?_; intro w3 B8 g3; have B4 := Blk.grown (blk3_1 (Below.refl _ _)) g3 (by simp); have hB : Below w.heap.size w w3 := Below.grown (by go_grown) g3 (by simp; omega) (fun k hk => by cases hk; omega); clear g3; obtain ⟨c4, f4⟩ := B4.rules; obtain ⟨c8, f8⟩ := B8.rules))
  have LS := B8.meets
  refine region_flow 7 10 [true, true, true, true, true, true, true] [true, true, true] (by kernel_rfl) (by kernel_rfl) (fun d _ _ _ _ h => by cases d <;> exact h) ?_
  simp only [List.take_succ_cons, List.take_zero, List.drop_succ_cons, List.drop_zero]
  repeat (refine wpQuietR_step (fun K hK => ?_); go_simp; first | (refine hK _ ?_; clear hK K) | (apply Exists.intro; refine ⟨fun s => ?_, hK _ ?_⟩; (first | exact (HP.out _) | (refine (HS.out _).mono ?_; rintro e w2 ⟨rfl, rfl⟩; exact ⟨rfl, Below.refl _ _⟩)); clear hK K))
  clear LS
  refine wpQuietR_nil ?_
  intro w5 hb
  have q4 := B4.lt
  refine wpListR_var (z := #[.int .i64 0, .int .u64 0]) (t := 89) (cs := #[.int .i64 QH, .int .u64 QL]) (s := 9) ⟨hb.os, hb.tape, hb.output, hb.size, hb.block⟩ (.tmp 26) rfl rfl (fun _ => by go_simp) rfl rfl rfl (by simp) (fun _ => by simp [go_sem]) rfl (by kernel_rfl) (by simp [Value.oneCell']) ?_
  intro g w6 hg B9 hS6
  refine wpListR_assign (fun _ => hS6) rfl rfl ?_
  intro w7 hw7
  refine wpListR_nil ?_
  intro w8 hw8
  have hT := Below.undrew (hS6.trans ((hw7.trans (hw8.mono hw7.size)).mono hS6.size))
  have B9 := (B9.below hw7 B9.lt)
  have B9 := (B9.below hw8 B9.lt)
  have B4 := B4.below hT q4
  have hB := hB.trans (hT.mono hB.size)
  have q9 : w.heap.size + 1 < g := Nat.lt_of_lt_of_le q4 hg
  clear hb hS6 hw7 hw8 hT q4 hg c4 f4 c8 f8
  obtain ⟨c4, f4⟩ := B4.rules
  obtain ⟨c9, f9⟩ := B9.rules
  have q8 : w.heap.size ≤ g := by omega
  have q7 : w.heap.size + 1 ≠ g := by omega
  have q6 : g ≠ w.heap.size + 1 := by omega
  go_wp2_with (first
    | ((with_reducible refine at_store 89 9 ?_); refine wpList_store_blk B9 89 _ _ rfl rfl rfl rfl rfl (by kernel_rfl) (by simp [Value.oneCell']) ?_; intro w6 B9 g6; have B4 := B4.grown g6 (by simpa using q7); have hB : Below w.heap.size w w6 := hB.grown g6 hB.size (fun k hk => by cases hk; exact q8); clear g6 c9 f9; obtain ⟨c4, f4⟩ := B4.rules; obtain ⟨c9, f9⟩ := B9.rules)
    | (go_at_call 79; refine (HT2.out _).mono ?_; rintro e w7 ⟨rfl, hb⟩; have hB := hB.trans (hb.mono hB.size); have B4 := B4.below hb B4.lt; have B9 := B9.below hb B9.lt; clear hb; obtain ⟨c4, f4⟩ := B4.rules; obtain ⟨c9, f9⟩ := B9.rules)
    | ((with_reducible refine at_store 89 4 ?_); refine wpList_store_blk B4 89 _ _ rfl rfl rfl rfl rfl (by kernel_rfl) (by simp [Value.oneCell']) ?_; intro w9 B4 g9; have hB : Below w.heap.size w w9 := hB.grown g9 hB.size (fun k hk => by cases hk; omega)))
  have LS := B9.meets
  refine region_flow 7 7 [true, true, true, false, true, false, false] [false, false] (by kernel_rfl) (by kernel_rfl) (fun d _ _ _ _ h => by cases d <;> exact h) ?_
  simp only [List.take_succ_cons, List.take_zero, List.drop_succ_cons, List.drop_zero]
  repeat (refine wpQuietR_step (fun K hK => ?_); go_simp; first | (refine hK _ ?_; clear hK K) | (apply Exists.intro; refine ⟨fun s => ?_, hK _ ?_⟩; (first | exact (HO.out _) | exact (HPL.out _) | (refine (HS.out _).mono ?_; rintro e w2 ⟨rfl, rfl⟩; exact ⟨rfl, Below.refl _ _⟩)); clear hK K))
  clear LS
  refine wpQuietR_nil ?_
  intro w5 hb
  have q4 := B4.lt
  have B9 := B9.below hb B9.lt
  refine wpListR_store_old B9 89 _ _ rfl rfl rfl rfl rfl (by kernel_rfl) (by simp [Value.oneCell']) ?_
  intro w7 B9 g7
  refine wpListR_assign (fun h => by cases h) rfl rfl ?_
  intro w8 hw8
  refine wpListR_nil ?_
  intro w9 hw9
  have hT := hw8.trans (hw9.mono hw8.size)
  have B4 := ((B4.below hb q4).grown g7 (by simpa using q7)).below hT (Blk.lt ((B4.below hb q4).grown g7 (by simpa using q7)))
  have hB := hB.trans (hb.mono hB.size)
  have hB := hB.grown g7 hB.size (fun k hk => by cases hk; exact q8)
  have hB := hB.trans (hT.mono hB.size)
  have B9 := B9.below hT B9.lt
  clear hb g7 hT hw8 hw9 q4 c4 f4 c9 f9
  obtain ⟨c4, f4⟩ := B4.rules
  obtain ⟨c9, f9⟩ := B9.rules
  go_wp2_with (first
    | ((with_reducible refine at_store 89 9 ?_); refine wpList_store_blk B9 89 _ _ rfl rfl rfl rfl rfl (by kernel_rfl) (by simp [Value.oneCell']) ?_; intro w6 B9 g6; have B4 := B4.grown g6 (by simpa using q7); have hB : Below w.heap.size w w6 := hB.grown g6 hB.size (fun k hk => by cases hk; exact q8); clear g6 c9 f9; obtain ⟨c4, f4⟩ := B4.rules; obtain ⟨c9, f9⟩ := B9.rules)
    | (go_at_call 79; refine (HT2.out _).mono ?_; rintro e w7 ⟨rfl, hb⟩; have hB := hB.trans (hb.mono hB.size); have B4 := B4.below hb B4.lt; have B9 := B9.below hb B9.lt; clear hb; obtain ⟨c4, f4⟩ := B4.rules; obtain ⟨c9, f9⟩ := B9.rules)
    | ((with_reducible refine at_store 89 4 ?_); refine wpList_store_blk B4 89 _ _ rfl rfl rfl rfl rfl (by kernel_rfl) (by simp [Value.oneCell']) ?_; intro w9 B4 g9; have hB : Below w.heap.size w w9 := hB.grown g9 hB.size (fun k hk => by cases hk; omega)))
  exact bodyPost_ret (results_cell_tmp2 B4 rfl rfl Try.underlying89 rfl (by kernel_rfl)) rfl ⟨rfl, hB⟩

set_option maxHeartbeats 8000000 in
theorem div_mp0 (hi lo c ah al C QH QL R NH NL OH OL MH ML D NR E : Int) (w : World)
    (hT1 : ∀ W, Calls Try.prog 79 #[.agg #[.int .i64 hi, .int .u64 lo]] W fun e w' => e = .returned (.agg #[.int .i64 ah, .int .u64 al]) ∧ Below W.heap.size W w')
    (hS : ∀ W, Calls Try.prog 81 #[.int .i64 c] W fun e w' => e = .returned (.int .u64 C) ∧ w' = W)
    (hP : ∀ W, Calls Try.prog 80 #[.agg #[.int .i64 ah, .int .u64 al], .int .u64 C] W fun e w' => e = .returned (.tuple #[.agg #[.int .i64 QH, .int .u64 QL], .int .u64 R]) ∧ Below W.heap.size W w')
    (hT2 : ∀ W, Calls Try.prog 79 #[.agg #[.int .i64 QH, .int .u64 QL]] W fun e w' => e = .returned (.agg #[.int .i64 NH, .int .u64 NL]) ∧ Below W.heap.size W w')
    (hr : decide (0 < R) = false)
    (ha : decide (hi < 0) = true)
    (hc : decide (c < 0) = false)
    (hz : (c == 0) = false)
    (hE : IntKind.i64.wrap R = E) :
    Calls Try.prog 71 #[.agg #[.int .i64 hi, .int .u64 lo], .int .i64 c] w fun e w' => e = .returned (.tuple #[.agg #[.int .i64 NH, .int .u64 NL], .int .i64 E, .int .i64 0]) ∧ Below w.heap.size w w' := by
  have HT1 := Lib.hid hT1
  have HS := Lib.hid hS
  have HP := Lib.hid hP
  have HT2 := Lib.hid hT2
  clear hT1 hS hP hT2
  go_enter Try.func71, Try.ntmps71
  go_wp2_with (first
    | (go_at_call 79; refine (HT1.out _).mono ?_; rintro e w2 ⟨rfl, hb⟩; have hB := hB.trans (hb.mono hB.size); have B2 := B2.below hb B2.lt; have B4 := B4.below hb B4.lt; have B8 := B8.below hb B8.lt; clear hb; obtain ⟨c4, f4⟩ := B4.rules; obtain ⟨c8, f8⟩ := B8.rules)
    | ((with_reducible refine at_store 89 8 ?_); first | (refine wpList_store_blk (blk3_2 (Below.refl _ _)) 89 _ _ rfl rfl rfl rfl rfl (by kernel_rfl) (by simp [Value.oneCell']) ?_; intro w3 B8 g3; have B2 := Blk.grown (blk3_0 (Below.refl _ _)) g3 (by simp; omega); have B4 := Blk.grown (blk3_1 (Below.refl _ _)) g3 (by simp); have hB : Below w.heap.size w w3 := Below.grown (by go_grown) g3 (by simp; omega) (fun k hk => by cases hk; omega); clear g3; obtain ⟨c2, f2⟩ := B2.rules; obtain ⟨c8, f8⟩ := B8.rules) | (refine wpList_store_blk B8 89 _ _ rfl rfl rfl rfl rfl (by kernel_rfl) (by simp [Value.oneCell']) ?_; intro w3 B8 g3; have B4 := B4.grown g3 (by simp); have hB : Below w.heap.size w w3 := hB.grown g3 hB.size (fun k hk => by cases hk; omega); clear g3 c8 f8; obtain ⟨c4, f4⟩ := B4.rules; obtain ⟨c8, f8⟩ := B8.rules)))
  have LS := B8.meets
  refine region_flow 7 10 [true, true, true, true, true, true, true] [true, true, true] (by kernel_rfl) (by kernel_rfl) (fun d _ _ _ _ h => by cases d <;> exact h) ?_
  simp only [List.take_succ_cons, List.take_zero, List.drop_succ_cons, List.drop_zero]
  repeat (refine wpQuietR_step (fun K hK => ?_); go_simp; first | (refine hK _ ?_; clear hK K) | (apply Exists.intro; refine ⟨fun s => ?_, hK _ ?_⟩; (first | exact (HP.out _) | (refine (HS.out _).mono ?_; rintro e w2 ⟨rfl, rfl⟩; exact ⟨rfl, Below.refl _ _⟩)); clear hK K))
  clear LS
  refine wpQuietR_nil ?_
  intro w5 hb
  have q4 := B4.lt
  refine wpListR_var (z := #[.int .i64 0, .int .u64 0]) (t := 89) (cs := #[.int .i64 QH, .int .u64 QL]) (s := 9) ⟨hb.os, hb.tape, hb.output, hb.size, hb.block⟩ (.tmp 26) rfl rfl (fun _ => by go_simp) rfl rfl rfl (by simp) (fun _ => by simp [go_sem]) rfl (by kernel_rfl) (by simp [Value.oneCell']) ?_
  intro g w6 hg B9 hS6
  refine wpListR_assign (fun _ => hS6) rfl rfl ?_
  intro w7 hw7
  refine wpListR_nil ?_
  intro w8 hw8
  have hT := Below.undrew (hS6.trans ((hw7.trans (hw8.mono hw7.size)).mono hS6.size))
  have B9 := (B9.below hw7 B9.lt)
  have B9 := (B9.below hw8 B9.lt)
  have B4 := B4.below hT q4
  have hB := hB.trans (hT.mono hB.size)
  have q9 : w.heap.size + 1 < g := Nat.lt_of_lt_of_le q4 hg
  clear hb hS6 hw7 hw8 hT q4 hg c4 f4 c8 f8
  obtain ⟨c4, f4⟩ := B4.rules
  obtain ⟨c9, f9⟩ := B9.rules
  have q8 : w.heap.size ≤ g := by omega
  have q7 : w.heap.size + 1 ≠ g := by omega
  have q6 : g ≠ w.heap.size + 1 := by omega
  go_wp2_with (first
    | ((with_reducible refine at_store 89 9 ?_); refine wpList_store_blk B9 89 _ _ rfl rfl rfl rfl rfl (by kernel_rfl) (by simp [Value.oneCell']) ?_; intro w6 B9 g6; have B4 := B4.grown g6 (by simpa using q7); have hB : Below w.heap.size w w6 := hB.grown g6 hB.size (fun k hk => by cases hk; exact q8); clear g6 c9 f9; obtain ⟨c4, f4⟩ := B4.rules; obtain ⟨c9, f9⟩ := B9.rules)
    | (go_at_call 79; refine (HT2.out _).mono ?_; rintro e w7 ⟨rfl, hb⟩; have hB := hB.trans (hb.mono hB.size); have B4 := B4.below hb B4.lt; have B9 := B9.below hb B9.lt; clear hb; obtain ⟨c4, f4⟩ := B4.rules; obtain ⟨c9, f9⟩ := B9.rules)
    | ((with_reducible refine at_store 89 4 ?_); refine wpList_store_blk B4 89 _ _ rfl rfl rfl rfl rfl (by kernel_rfl) (by simp [Value.oneCell']) ?_; intro w9 B4 g9; have hB : Below w.heap.size w w9 := hB.grown g9 hB.size (fun k hk => by cases hk; omega)))
  exact bodyPost_ret (results_cell_tmp2 B4 rfl rfl Try.underlying89 rfl (by kernel_rfl)) rfl ⟨rfl, hB⟩

set_option maxHeartbeats 8000000 in
theorem div_mp1 (hi lo c ah al C QH QL R NH NL OH OL MH ML D NR E : Int) (w : World)
    (hT1 : ∀ W, Calls Try.prog 79 #[.agg #[.int .i64 hi, .int .u64 lo]] W fun e w' => e = .returned (.agg #[.int .i64 ah, .int .u64 al]) ∧ Below W.heap.size W w')
    (hS : ∀ W, Calls Try.prog 81 #[.int .i64 c] W fun e w' => e = .returned (.int .u64 C) ∧ w' = W)
    (hP : ∀ W, Calls Try.prog 80 #[.agg #[.int .i64 ah, .int .u64 al], .int .u64 C] W fun e w' => e = .returned (.tuple #[.agg #[.int .i64 QH, .int .u64 QL], .int .u64 R]) ∧ Below W.heap.size W w')
    (hT2 : ∀ W, Calls Try.prog 79 #[.agg #[.int .i64 QH, .int .u64 QL]] W fun e w' => e = .returned (.agg #[.int .i64 NH, .int .u64 NL]) ∧ Below W.heap.size W w')
    (hO : ∀ W, Calls Try.prog 83 #[.int .i64 (-1)] W fun e w' => e = .returned (.agg #[.int .i64 OH, .int .u64 OL]) ∧ Below W.heap.size W w')
    (hPl : ∀ W, Calls Try.prog 82 #[.agg #[.int .i64 NH, .int .u64 NL], .agg #[.int .i64 OH, .int .u64 OL]] W fun e w' => e = .returned (.agg #[.int .i64 MH, .int .u64 ML]) ∧ Below W.heap.size W w')
    (hD : IntKind.u64.wrap (C - R) = D)
    (hr : decide (0 < R) = true)
    (ha : decide (hi < 0) = true)
    (hc : decide (c < 0) = false)
    (hz : (c == 0) = false)
    (hE : IntKind.i64.wrap D = E) :
    Calls Try.prog 71 #[.agg #[.int .i64 hi, .int .u64 lo], .int .i64 c] w fun e w' => e = .returned (.tuple #[.agg #[.int .i64 MH, .int .u64 ML], .int .i64 E, .int .i64 0]) ∧ Below w.heap.size w w' := by
  have HT1 := Lib.hid hT1
  have HS := Lib.hid hS
  have HP := Lib.hid hP
  have HT2 := Lib.hid hT2
  have HO := Lib.hid hO
  have HPL := Lib.hid hPl
  clear hT1 hS hP hT2 hO hPl
  go_enter Try.func71, Try.ntmps71
  go_wp2_with (first
    | (go_at_call 79; refine (HT1.out _).mono ?_; rintro e w2 ⟨rfl, hb⟩; have hB := hB.trans (hb.mono hB.size); have B2 := B2.below hb B2.lt; have B4 := B4.below hb B4.lt; have B8 := B8.below hb B8.lt; clear hb; obtain ⟨c4, f4⟩ := B4.rules; obtain ⟨c8, f8⟩ := B8.rules)
    | ((with_reducible refine at_store 89 8 ?_); first | (refine wpList_store_blk (blk3_2 (Below.refl _ _)) 89 _ _ rfl rfl rfl rfl rfl (by kernel_rfl) (by simp [Value.oneCell']) ?_; intro w3 B8 g3; have B2 := Blk.grown (blk3_0 (Below.refl _ _)) g3 (by simp; omega); have B4 := Blk.grown (blk3_1 (Below.refl _ _)) g3 (by simp); have hB : Below w.heap.size w w3 := Below.grown (by go_grown) g3 (by simp; omega) (fun k hk => by cases hk; omega); clear g3; obtain ⟨c2, f2⟩ := B2.rules; obtain ⟨c8, f8⟩ := B8.rules) | (refine wpList_store_blk B8 89 _ _ rfl rfl rfl rfl rfl (by kernel_rfl) (by simp [Value.oneCell']) ?_; intro w3 B8 g3; have B4 := B4.grown g3 (by simp); have hB : Below w.heap.size w w3 := hB.grown g3 hB.size (fun k hk => by cases hk; omega); clear g3 c8 f8; obtain ⟨c4, f4⟩ := B4.rules; obtain ⟨c8, f8⟩ := B8.rules)))
  have LS := B8.meets
  refine region_flow 7 10 [true, true, true, true, true, true, true] [true, true, true] (by kernel_rfl) (by kernel_rfl) (fun d _ _ _ _ h => by cases d <;> exact h) ?_
  simp only [List.take_succ_cons, List.take_zero, List.drop_succ_cons, List.drop_zero]
  repeat (refine wpQuietR_step (fun K hK => ?_); go_simp; first | (refine hK _ ?_; clear hK K) | (apply Exists.intro; refine ⟨fun s => ?_, hK _ ?_⟩; (first | exact (HP.out _) | (refine (HS.out _).mono ?_; rintro e w2 ⟨rfl, rfl⟩; exact ⟨rfl, Below.refl _ _⟩)); clear hK K))
  clear LS
  refine wpQuietR_nil ?_
  intro w5 hb
  have q4 := B4.lt
  refine wpListR_var (z := #[.int .i64 0, .int .u64 0]) (t := 89) (cs := #[.int .i64 QH, .int .u64 QL]) (s := 9) ⟨hb.os, hb.tape, hb.output, hb.size, hb.block⟩ (.tmp 26) rfl rfl (fun _ => by go_simp) rfl rfl rfl (by simp) (fun _ => by simp [go_sem]) rfl (by kernel_rfl) (by simp [Value.oneCell']) ?_
  intro g w6 hg B9 hS6
  refine wpListR_assign (fun _ => hS6) rfl rfl ?_
  intro w7 hw7
  refine wpListR_nil ?_
  intro w8 hw8
  have hT := Below.undrew (hS6.trans ((hw7.trans (hw8.mono hw7.size)).mono hS6.size))
  have B9 := (B9.below hw7 B9.lt)
  have B9 := (B9.below hw8 B9.lt)
  have B4 := B4.below hT q4
  have hB := hB.trans (hT.mono hB.size)
  have q9 : w.heap.size + 1 < g := Nat.lt_of_lt_of_le q4 hg
  clear hb hS6 hw7 hw8 hT q4 hg c4 f4 c8 f8
  obtain ⟨c4, f4⟩ := B4.rules
  obtain ⟨c9, f9⟩ := B9.rules
  have q8 : w.heap.size ≤ g := by omega
  have q7 : w.heap.size + 1 ≠ g := by omega
  have q6 : g ≠ w.heap.size + 1 := by omega
  go_wp2_with (first
    | ((with_reducible refine at_store 89 9 ?_); refine wpList_store_blk B9 89 _ _ rfl rfl rfl rfl rfl (by kernel_rfl) (by simp [Value.oneCell']) ?_; intro w6 B9 g6; have B4 := B4.grown g6 (by simpa using q7); have hB : Below w.heap.size w w6 := hB.grown g6 hB.size (fun k hk => by cases hk; exact q8); clear g6 c9 f9; obtain ⟨c4, f4⟩ := B4.rules; obtain ⟨c9, f9⟩ := B9.rules)
    | (go_at_call 79; refine (HT2.out _).mono ?_; rintro e w7 ⟨rfl, hb⟩; have hB := hB.trans (hb.mono hB.size); have B4 := B4.below hb B4.lt; have B9 := B9.below hb B9.lt; clear hb; obtain ⟨c4, f4⟩ := B4.rules; obtain ⟨c9, f9⟩ := B9.rules)
    | ((with_reducible refine at_store 89 4 ?_); refine wpList_store_blk B4 89 _ _ rfl rfl rfl rfl rfl (by kernel_rfl) (by simp [Value.oneCell']) ?_; intro w9 B4 g9; have hB : Below w.heap.size w w9 := hB.grown g9 hB.size (fun k hk => by cases hk; omega)))
  have LS := B9.meets
  refine region_flow 7 7 [true, true, true, false, true, false, false] [false, false] (by kernel_rfl) (by kernel_rfl) (fun d _ _ _ _ h => by cases d <;> exact h) ?_
  simp only [List.take_succ_cons, List.take_zero, List.drop_succ_cons, List.drop_zero]
  repeat (refine wpQuietR_step (fun K hK => ?_); go_simp; first | (refine hK _ ?_; clear hK K) | (apply Exists.intro; refine ⟨fun s => ?_, hK _ ?_⟩; (first | exact (HO.out _) | exact (HPL.out _) | (refine (HS.out _).mono ?_; rintro e w2 ⟨rfl, rfl⟩; exact ⟨rfl, Below.refl _ _⟩)); clear hK K))
  clear LS
  refine wpQuietR_nil ?_
  intro w5 hb
  have q4 := B4.lt
  have B9 := B9.below hb B9.lt
  refine wpListR_store_old B9 89 _ _ rfl rfl rfl rfl rfl (by kernel_rfl) (by simp [Value.oneCell']) ?_
  intro w7 B9 g7
  refine wpListR_assign (fun h => by cases h) rfl rfl ?_
  intro w8 hw8
  refine wpListR_nil ?_
  intro w9 hw9
  have hT := hw8.trans (hw9.mono hw8.size)
  have B4 := ((B4.below hb q4).grown g7 (by simpa using q7)).below hT (Blk.lt ((B4.below hb q4).grown g7 (by simpa using q7)))
  have hB := hB.trans (hb.mono hB.size)
  have hB := hB.grown g7 hB.size (fun k hk => by cases hk; exact q8)
  have hB := hB.trans (hT.mono hB.size)
  have B9 := B9.below hT B9.lt
  clear hb g7 hT hw8 hw9 q4 c4 f4 c9 f9
  obtain ⟨c4, f4⟩ := B4.rules
  obtain ⟨c9, f9⟩ := B9.rules
  go_wp2_with (first
    | ((with_reducible refine at_store 89 9 ?_); refine wpList_store_blk B9 89 _ _ rfl rfl rfl rfl rfl (by kernel_rfl) (by simp [Value.oneCell']) ?_; intro w6 B9 g6; have B4 := B4.grown g6 (by simpa using q7); have hB : Below w.heap.size w w6 := hB.grown g6 hB.size (fun k hk => by cases hk; exact q8); clear g6 c9 f9; obtain ⟨c4, f4⟩ := B4.rules; obtain ⟨c9, f9⟩ := B9.rules)
    | (go_at_call 79; refine (HT2.out _).mono ?_; rintro e w7 ⟨rfl, hb⟩; have hB := hB.trans (hb.mono hB.size); have B4 := B4.below hb B4.lt; have B9 := B9.below hb B9.lt; clear hb; obtain ⟨c4, f4⟩ := B4.rules; obtain ⟨c9, f9⟩ := B9.rules)
    | ((with_reducible refine at_store 89 4 ?_); refine wpList_store_blk B4 89 _ _ rfl rfl rfl rfl rfl (by kernel_rfl) (by simp [Value.oneCell']) ?_; intro w9 B4 g9; have hB : Below w.heap.size w w9 := hB.grown g9 hB.size (fun k hk => by cases hk; omega)))
  exact bodyPost_ret (results_cell_tmp2 B4 rfl rfl Try.underlying89 rfl (by kernel_rfl)) rfl ⟨rfl, hB⟩

set_option maxHeartbeats 8000000 in
theorem div_mm0 (hi lo c ah al C QH QL R NH NL OH OL MH ML D NR E : Int) (w : World)
    (hT1 : ∀ W, Calls Try.prog 79 #[.agg #[.int .i64 hi, .int .u64 lo]] W fun e w' => e = .returned (.agg #[.int .i64 ah, .int .u64 al]) ∧ Below W.heap.size W w')
    (hS : ∀ W, Calls Try.prog 81 #[.int .i64 c] W fun e w' => e = .returned (.int .u64 C) ∧ w' = W)
    (hP : ∀ W, Calls Try.prog 80 #[.agg #[.int .i64 ah, .int .u64 al], .int .u64 C] W fun e w' => e = .returned (.tuple #[.agg #[.int .i64 QH, .int .u64 QL], .int .u64 R]) ∧ Below W.heap.size W w')
    (hq : decide (QH < 0) = false)
    (ha : decide (hi < 0) = true)
    (hc : decide (c < 0) = true)
    (hz : (c == 0) = false)
    (hN : IntKind.u64.wrap (-R) = NR)
    (hE : IntKind.i64.wrap NR = E) :
    Calls Try.prog 71 #[.agg #[.int .i64 hi, .int .u64 lo], .int .i64 c] w fun e w' => e = .returned (.tuple #[.agg #[.int .i64 QH, .int .u64 QL], .int .i64 E, .int .i64 0]) ∧ Below w.heap.size w w' := by
  have HT1 := Lib.hid hT1
  have HS := Lib.hid hS
  have HP := Lib.hid hP
  clear hT1 hS hP
  go_enter Try.func71, Try.ntmps71
  go_wp2_with (first
    | (go_at_call 79; refine (HT1.out _).mono ?_; rintro e w2 ⟨rfl, hb⟩; have hB := hB.trans (hb.mono hB.size); have B2 := B2.below hb B2.lt; have B4 := B4.below hb B4.lt; have B8 := B8.below hb B8.lt; clear hb; obtain ⟨c4, f4⟩ := B4.rules; obtain ⟨c8, f8⟩ := B8.rules)
    | ((with_reducible refine at_store 89 8 ?_); first | (refine wpList_store_blk (blk3_2 (Below.refl _ _)) 89 _ _ rfl rfl rfl rfl rfl (by kernel_rfl) (by simp [Value.oneCell']) ?_; intro w3 B8 g3; have B2 := Blk.grown (blk3_0 (Below.refl _ _)) g3 (by simp; omega); have B4 := Blk.grown (blk3_1 (Below.refl _ _)) g3 (by simp); have hB : Below w.heap.size w w3 := Below.grown (by go_grown) g3 (by simp; omega) (fun k hk => by cases hk; omega); clear g3; obtain ⟨c2, f2⟩ := B2.rules; obtain ⟨c8, f8⟩ := B8.rules) | (refine wpList_store_blk B8 89 _ _ rfl rfl rfl rfl rfl (by kernel_rfl) (by simp [Value.oneCell']) ?_; intro w3 B8 g3; have B4 := B4.grown g3 (by simp); have hB : Below w.heap.size w w3 := hB.grown g3 hB.size (fun k hk => by cases hk; omega); clear g3 c8 f8; obtain ⟨c4, f4⟩ := B4.rules; obtain ⟨c8, f8⟩ := B8.rules)))
  have LS := B8.meets
  refine region_flow 7 10 [true, true, true, true, true, true, true] [true, true, true] (by kernel_rfl) (by kernel_rfl) (fun d _ _ _ _ h => by cases d <;> exact h) ?_
  simp only [List.take_succ_cons, List.take_zero, List.drop_succ_cons, List.drop_zero]
  repeat (refine wpQuietR_step (fun K hK => ?_); go_simp; first | (refine hK _ ?_; clear hK K) | (apply Exists.intro; refine ⟨fun s => ?_, hK _ ?_⟩; (first | exact (HP.out _) | (refine (HS.out _).mono ?_; rintro e w2 ⟨rfl, rfl⟩; exact ⟨rfl, Below.refl _ _⟩)); clear hK K))
  clear LS
  refine wpQuietR_nil ?_
  intro w5 hb
  have q4 := B4.lt
  refine wpListR_var (z := #[.int .i64 0, .int .u64 0]) (t := 89) (cs := #[.int .i64 QH, .int .u64 QL]) (s := 9) ⟨hb.os, hb.tape, hb.output, hb.size, hb.block⟩ (.tmp 26) rfl rfl (fun _ => by go_simp) rfl rfl rfl (by simp) (fun _ => by simp [go_sem]) rfl (by kernel_rfl) (by simp [Value.oneCell']) ?_
  intro g w6 hg B9 hS6
  refine wpListR_assign (fun _ => hS6) rfl rfl ?_
  intro w7 hw7
  refine wpListR_nil ?_
  intro w8 hw8
  have hT := Below.undrew (hS6.trans ((hw7.trans (hw8.mono hw7.size)).mono hS6.size))
  have B9 := (B9.below hw7 B9.lt)
  have B9 := (B9.below hw8 B9.lt)
  have B4 := B4.below hT q4
  have hB := hB.trans (hT.mono hB.size)
  have q9 : w.heap.size + 1 < g := Nat.lt_of_lt_of_le q4 hg
  clear hb hS6 hw7 hw8 hT q4 hg c4 f4 c8 f8
  obtain ⟨c4, f4⟩ := B4.rules
  obtain ⟨c9, f9⟩ := B9.rules
  have q8 : w.heap.size ≤ g := by omega
  have q7 : w.heap.size + 1 ≠ g := by omega
  have q6 : g ≠ w.heap.size + 1 := by omega
  go_wp2_with (first
    | ((with_reducible refine at_store 89 9 ?_); refine wpList_store_blk B9 89 _ _ rfl rfl rfl rfl rfl (by kernel_rfl) (by simp [Value.oneCell']) ?_; intro w6 B9 g6; have B4 := B4.grown g6 (by simpa using q7); have hB : Below w.heap.size w w6 := hB.grown g6 hB.size (fun k hk => by cases hk; exact q8); clear g6 c9 f9; obtain ⟨c4, f4⟩ := B4.rules; obtain ⟨c9, f9⟩ := B9.rules)
    | ((with_reducible refine at_store 89 4 ?_); refine wpList_store_blk B4 89 _ _ rfl rfl rfl rfl rfl (by kernel_rfl) (by simp [Value.oneCell']) ?_; intro w9 B4 g9; have hB : Below w.heap.size w w9 := hB.grown g9 hB.size (fun k hk => by cases hk; omega)))
  exact bodyPost_ret (results_cell_tmp2 B4 rfl rfl Try.underlying89 rfl (by kernel_rfl)) rfl ⟨rfl, hB⟩

set_option maxHeartbeats 8000000 in
theorem div_mm1 (hi lo c ah al C QH QL R NH NL OH OL MH ML D NR E : Int) (w : World)
    (hT1 : ∀ W, Calls Try.prog 79 #[.agg #[.int .i64 hi, .int .u64 lo]] W fun e w' => e = .returned (.agg #[.int .i64 ah, .int .u64 al]) ∧ Below W.heap.size W w')
    (hS : ∀ W, Calls Try.prog 81 #[.int .i64 c] W fun e w' => e = .returned (.int .u64 C) ∧ w' = W)
    (hP : ∀ W, Calls Try.prog 80 #[.agg #[.int .i64 ah, .int .u64 al], .int .u64 C] W fun e w' => e = .returned (.tuple #[.agg #[.int .i64 QH, .int .u64 QL], .int .u64 R]) ∧ Below W.heap.size W w')
    (hq : decide (QH < 0) = true)
    (ha : decide (hi < 0) = true)
    (hc : decide (c < 0) = true)
    (hz : (c == 0) = false) :
    Calls Try.prog 71 #[.agg #[.int .i64 hi, .int .u64 lo], .int .i64 c] w fun e w' => e = .returned (.tuple #[.agg #[.int .i64 0, .int .u64 0], .int .i64 0, .int .i64 20]) ∧ Below w.heap.size w w' := by
  have HT1 := Lib.hid hT1
  have HS := Lib.hid hS
  have HP := Lib.hid hP
  clear hT1 hS hP
  go_enter Try.func71, Try.ntmps71
  go_wp2_with (first
    | (go_at_call 79; refine (HT1.out _).mono ?_; rintro e w2 ⟨rfl, hb⟩; have hB := hB.trans (hb.mono hB.size); have B2 := B2.below hb B2.lt; have B4 := B4.below hb B4.lt; have B8 := B8.below hb B8.lt; clear hb; obtain ⟨c4, f4⟩ := B4.rules; obtain ⟨c8, f8⟩ := B8.rules)
    | ((with_reducible refine at_store 89 8 ?_); first | (refine wpList_store_blk (blk3_2 (Below.refl _ _)) 89 _ _ rfl rfl rfl rfl rfl (by kernel_rfl) (by simp [Value.oneCell']) ?_; intro w3 B8 g3; have B2 := Blk.grown (blk3_0 (Below.refl _ _)) g3 (by simp; omega); have B4 := Blk.grown (blk3_1 (Below.refl _ _)) g3 (by simp); have hB : Below w.heap.size w w3 := Below.grown (by go_grown) g3 (by simp; omega) (fun k hk => by cases hk; omega); clear g3; obtain ⟨c2, f2⟩ := B2.rules; obtain ⟨c8, f8⟩ := B8.rules) | (refine wpList_store_blk B8 89 _ _ rfl rfl rfl rfl rfl (by kernel_rfl) (by simp [Value.oneCell']) ?_; intro w3 B8 g3; have B4 := B4.grown g3 (by simp); have hB : Below w.heap.size w w3 := hB.grown g3 hB.size (fun k hk => by cases hk; omega); clear g3 c8 f8; obtain ⟨c4, f4⟩ := B4.rules; obtain ⟨c8, f8⟩ := B8.rules)))
  have LS := B8.meets
  refine region_flow 7 10 [true, true, true, true, true, true, true] [true, true, true] (by kernel_rfl) (by kernel_rfl) (fun d _ _ _ _ h => by cases d <;> exact h) ?_
  simp only [List.take_succ_cons, List.take_zero, List.drop_succ_cons, List.drop_zero]
  repeat (refine wpQuietR_step (fun K hK => ?_); go_simp; first | (refine hK _ ?_; clear hK K) | (apply Exists.intro; refine ⟨fun s => ?_, hK _ ?_⟩; (first | exact (HP.out _) | (refine (HS.out _).mono ?_; rintro e w2 ⟨rfl, rfl⟩; exact ⟨rfl, Below.refl _ _⟩)); clear hK K))
  clear LS
  refine wpQuietR_nil ?_
  intro w5 hb
  have q4 := B4.lt
  refine wpListR_var (z := #[.int .i64 0, .int .u64 0]) (t := 89) (cs := #[.int .i64 QH, .int .u64 QL]) (s := 9) ⟨hb.os, hb.tape, hb.output, hb.size, hb.block⟩ (.tmp 26) rfl rfl (fun _ => by go_simp) rfl rfl rfl (by simp) (fun _ => by simp [go_sem]) rfl (by kernel_rfl) (by simp [Value.oneCell']) ?_
  intro g w6 hg B9 hS6
  refine wpListR_assign (fun _ => hS6) rfl rfl ?_
  intro w7 hw7
  refine wpListR_nil ?_
  intro w8 hw8
  have hT := Below.undrew (hS6.trans ((hw7.trans (hw8.mono hw7.size)).mono hS6.size))
  have B9 := (B9.below hw7 B9.lt)
  have B9 := (B9.below hw8 B9.lt)
  have B4 := B4.below hT q4
  have hB := hB.trans (hT.mono hB.size)
  have q9 : w.heap.size + 1 < g := Nat.lt_of_lt_of_le q4 hg
  clear hb hS6 hw7 hw8 hT q4 hg c4 f4 c8 f8
  obtain ⟨c4, f4⟩ := B4.rules
  obtain ⟨c9, f9⟩ := B9.rules
  have q8 : w.heap.size ≤ g := by omega
  have q7 : w.heap.size + 1 ≠ g := by omega
  have q6 : g ≠ w.heap.size + 1 := by omega
  go_wp2_with (first
    | ((with_reducible refine at_store 89 9 ?_); refine wpList_store_blk B9 89 _ _ rfl rfl rfl rfl rfl (by kernel_rfl) (by simp [Value.oneCell']) ?_; intro w6 B9 g6; have B4 := B4.grown g6 (by simpa using q7); have hB : Below w.heap.size w w6 := hB.grown g6 hB.size (fun k hk => by cases hk; exact q8); clear g6 c9 f9; obtain ⟨c4, f4⟩ := B4.rules; obtain ⟨c9, f9⟩ := B9.rules)
    | ((with_reducible refine at_store 89 4 ?_); refine wpList_store_blk B4 89 _ _ rfl rfl rfl rfl rfl (by kernel_rfl) (by simp [Value.oneCell']) ?_; intro w9 B4 g9; have hB : Below w.heap.size w w9 := hB.grown g9 hB.size (fun k hk => by cases hk; omega)))
  exact bodyPost_ret (results_cell_tmp2 B4 rfl rfl Try.underlying89 rfl (by kernel_rfl)) rfl ⟨rfl, hB⟩

end Go.Proofs.Ythclhmdgfekaeaa
