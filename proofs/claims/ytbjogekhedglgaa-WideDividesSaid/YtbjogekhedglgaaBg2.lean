/- The document's numbers: of 64 bits, sums, differences, which is less. -/
import Derived.Test.YtbjogekhedglgaaBg1
import Derived.Test.YtbjogekhedglgaaRows
namespace Go.Proofs.Ytbjogekhedglgaa
set_option linter.unusedSimpArgs false
set_option linter.unusedVariables false
open Go.RowKit EV
open SX (Wr Tv Qu Rm Sh Is conjP eqs_iff eqs_false)
open EW (PlL PlT PlV PlVs LfV Mm Bt Opn GV)
set_option maxRecDepth 20000
theorem rnone (b : Bool) (n : Nat) (w : World) (h : n < W20) : Calls Try.prog 34 #[Bg b n] w fun e w' => e = .returned (.bool (decide (n = 0))) ∧ Below w.heap.size w w' := by
  refine EW.eEnter Try.func34 rfl Try.ntmps34 ?_
  all_goals try (refine EW.nm ?_)
  all_goals try ((first | refine EW.eRegL (id := 0) ?_ | refine EW.eReg (id := 0) ?_); refine EW.eBox ?_; refine EW.eAssign ?_; refine EW.eEnd ?_; (try refine EW.nm ?_))
  all_goals try ((first | refine EW.eRegL (id := 1) ?_ | refine EW.eReg (id := 1) ?_); refine EW.eFieldAddr (k := 20) ?_; refine EW.eLoadA (k := 20) ?_; refine EW.eBuild (place := fun i => some (i * 1, 1)) ?_; refine EW.eEqlA ?_; refine EW.eAssign ?_; refine EW.eEnd ?_; (try refine EW.nm ?_))
  all_goals (refine EW.eLeaveP ?_; intro w' hW; refine ⟨?_, hW⟩)
  all_goals
    refine congrArg (fun b => Ending.returned (.bool b)) ?_
    exact dgs_eqs (m := 0) h (by decide)
def up (m i : Nat) : Nat := m / 65536 ^ i
theorem up_succ (m i : Nat) : up m (i + 1) = up m i / 65536 := by
  unfold up; rw [Nat.pow_succ, ← Nat.div_div_eq_div_mul]
theorem up_zero (m : Nat) : up m 0 = m := by unfold up; rw [Nat.pow_zero, Nat.div_one]
theorem of_q (m i : Nat) : ((up m i : Nat) : Int) / 65536 = ((up m (i + 1) : Nat) : Int) := by rw [up_succ]; omega
theorem of_z (b : Bool) (m i : Nat) : big b (setD (m % 65536 ^ i) i (((up m i : Nat) : Int) % 65536).toNat) = big b (m % 65536 ^ (i + 1)) := by
  rw [← grow]; congr 2
theorem up_le (m i : Nat) : up m i ≤ m := Nat.div_le_self _ _
theorem rof (n : Int) (w : World) (h0 : -9223372036854775808 ≤ n) (h1 : n ≤ 9223372036854775807) : Calls Try.prog 12 #[.int .i64 n] w fun e w' => e = .returned (Bg (decide (n < 0)) n.natAbs) ∧ Below w.heap.size w w' := by
  obtain ⟨m, hm⟩ : ∃ m, n.natAbs = m := ⟨_, rfl⟩
  rw [hm]
  refine EW.eEnter Try.func12 rfl Try.ntmps12 ?_
  all_goals try (refine EW.nm ?_)
  all_goals try ((first | refine EW.eRegL (id := 0) ?_ | refine EW.eReg (id := 0) ?_); refine EW.eAlloc ?_; refine EW.eEnd ?_; (try refine EW.nm ?_))
  all_goals try ((first | refine EW.eRegL (id := 1) ?_ | refine EW.eReg (id := 1) ?_); refine EW.eMove ?_; refine EW.eLss ?_; refine EW.eBuild (place := fun i => [(0, 1), (1, 20)][i]?) ?_; refine EW.eAlloc ?_; (first | refine EW.eStoreW (k := 21) ?_ | refine EW.eStore (k := 21) ?_); refine EW.eEnd ?_; (try refine EW.nm ?_))
  all_goals try ((first | refine EW.eRegL (id := 2) ?_ | refine EW.eReg (id := 2) ?_); refine EW.eMove ?_; refine EW.eConv ?_; refine EW.eAssign ?_; refine EW.eEnd ?_; (try refine EW.nm ?_))
  all_goals try ((first | refine EW.eRegL (id := 3) ?_ | refine EW.eReg (id := 3) ?_); refine EW.eMove ?_; refine EW.eLss ?_; refine EW.eEnd ?_; (try refine EW.nm ?_))
  all_goals try (first | refine EW.eYes (x := Operand.tmp 12) ?_ | refine EW.eNo (x := Operand.tmp 12) ?_ | (refine EW.eCond (x := Operand.tmp 12) ?_ ?_ <;> (intro hb hb'; (try dsimp only at hb'); (try (exfalso; first | omega | with_reducible exact absurd rfl hb')))))
  all_goals try (refine EW.nm ?_)
  all_goals try ((first | refine EW.eRegL (id := 4) ?_ | refine EW.eReg (id := 4) ?_); refine EW.eMove ?_; refine EW.eSub ?_; refine EW.eAdd ?_; refine EW.eAssign ?_; refine EW.eEnd ?_; (try refine EW.nm ?_))
  all_goals try ((first | refine EW.eRegL (id := 5) ?_ | refine EW.eReg (id := 5) ?_); refine EW.eAssign ?_; refine EW.eEnd ?_; (try refine EW.nm ?_))
  all_goals (refine EW.eToW 20 true (big (decide (n < 0)) 0) ?_)
  all_goals first | (fail_if_success (refine EW.eUnroll 1 ?_)) | (refine EW.eLoopD [4, 5, 16, 17, 18, 19, 20, 21, 22, 23, 24, 25, 26] 1000000 (fun j : {i : Nat // i ≤ 4} => [(.t 5, .v (.c (.v (.int .i64 (j.1 : Int))))), (.t 4, .v (.c (.v (.int .u64 ((up m j.1 : Nat) : Int))))), (.b 20, .b (.w true (big (decide (n < 0)) (m % 65536 ^ j.1))))]) (fun j => 4 - j.1) (⟨0, by omega⟩) (by ((repeat (first | exact EW.subW.nil | refine EW.subW.cons rfl ?_ | refine EW.subW.conv rfl ?_ (by first | exact EW.kvI (of_q _ _) | exact EW.kvW (of_z _ _ _) | exact EW.kvI (by rw [up_zero]; omega) | exact EW.kvW (by rw [Nat.pow_zero, Nat.mod_one])) | refine EW.subW.conv rfl ?_)); (first | done | fail))) ?_; rintro hcl6 ⟨i, hi⟩; (try dsimp only))
  all_goals try (refine EW.nm ?_)
  all_goals try ((first | refine EW.eRegL (id := 6) ?_ | refine EW.eReg (id := 6) ?_); refine EW.eMove ?_; refine EW.eLss ?_; refine EW.eEnd ?_; (try refine EW.nm ?_))
  all_goals try (first | refine EW.eYes (x := Operand.tmp 17) ?_ | refine EW.eNo (x := Operand.tmp 17) ?_ | (refine EW.eCond (x := Operand.tmp 17) ?_ ?_ <;> (intro hb hb'; (try dsimp only at hb'); (try (exfalso; first | omega | with_reducible exact absurd rfl hb')))))
  all_goals try (refine EW.nm ?_)
  all_goals (try (have hup := up_le m i))
  all_goals try ((first | refine EW.eRegL (id := 8) ?_ | refine EW.eReg (id := 8) ?_); refine EW.eMove ?_; refine EW.eMove ?_; refine EW.eRem ?_; refine EW.eFieldAddr (k := 20) ?_; refine EW.eIndexAddr (z := 1) ?_; (first | refine EW.eStoreW (k := 1) ?_ | refine EW.eStore (k := 1) ?_); refine EW.eEnd ?_; (try refine EW.nm ?_))
  all_goals try ((first | refine EW.eRegL (id := 9) ?_ | refine EW.eReg (id := 9) ?_); refine EW.eMove ?_; refine EW.eQuo ?_; refine EW.eAssign ?_; refine EW.eEnd ?_; (try refine EW.nm ?_))
  all_goals try ((first | refine EW.eRegL (id := 7) ?_ | refine EW.eReg (id := 7) ?_); refine EW.eMove ?_; refine EW.eAdd ?_; refine EW.eAssign ?_; refine EW.eEnd ?_; (try refine EW.nm ?_))
  all_goals first | (fail_if_success (with_reducible refine EW.isLater ?_)) | (refine EW.eLaterD (⟨i + 1, by omega⟩) (by dsimp only; omega) (by ((repeat (first | exact EW.subW.nil | refine EW.subW.cons rfl ?_ | refine EW.subW.conv rfl ?_ (by first | exact EW.kvI (of_q _ _) | exact EW.kvW (of_z _ _ _) | exact EW.kvI (by rw [up_zero]; omega) | exact EW.kvW (by rw [Nat.pow_zero, Nat.mod_one])) | refine EW.subW.conv rfl ?_)); (first | done | fail))) hcl6)
  all_goals try (refine EW.nm ?_)
  all_goals try ((first | refine EW.eRegL (id := 10) ?_ | refine EW.eReg (id := 10) ?_); refine EW.eLoadA (k := 21) ?_; (first | refine EW.eStoreW (k := 21) ?_ | refine EW.eStore (k := 21) ?_); refine EW.eEnd ?_; (try refine EW.nm ?_))
  all_goals (refine EW.eLeaveP ?_; intro w' hW; refine ⟨?_, hW⟩)
  all_goals (obtain rfl : i = 4 := by omega)
  all_goals (rw [Nat.mod_eq_of_lt (by omega)])
theorem more_c (x y i : Nat) : (((dg x i : Nat) : Int) + ((dg y i : Nat) : Int) + ((carry x y i : Nat) : Int)) / 65536 = ((carry x y (i + 1) : Nat) : Int) := by rw [carry_succ]; omega
theorem more_z (x y i : Nat) : big false (setD (suml x y i) i ((((dg x i : Nat) : Int) + ((dg y i : Nat) : Int) + ((carry x y i : Nat) : Int)) % 65536).toNat) = big false (suml x y (i + 1)) := by
  rw [suml_succ]; congr 2
theorem more_c0 (x y : Nat) : (0 : Int) = ((carry x y 0 : Nat) : Int) := by simp [carry, Nat.mod_one]
theorem more_z0 (x y : Nat) : big false 0 = big false (suml x y 0) := by simp [suml, Nat.mod_one]
theorem rmore (b b' : Bool) (x y : Nat) (w : World) : Calls Try.prog 36 #[Bg b x, Bg b' y] w fun e w' => e = .returned (Bg false (suml x y 20)) ∧ Below w.heap.size w w' := by
  refine EW.eEnter Try.func36 rfl Try.ntmps36 ?_
  all_goals try (refine EW.nm ?_)
  all_goals try ((first | refine EW.eRegL (id := 0) ?_ | refine EW.eReg (id := 0) ?_); refine EW.eBox ?_; refine EW.eBox ?_; refine EW.eAlloc ?_; refine EW.eEnd ?_; (try refine EW.nm ?_))
  all_goals try ((first | refine EW.eRegL (id := 1) ?_ | refine EW.eReg (id := 1) ?_); refine EW.eAlloc ?_; refine EW.eEnd ?_; (try refine EW.nm ?_))
  all_goals (refine EW.eToW 40 true (big false 0) ?_)
  all_goals try ((first | refine EW.eRegL (id := 2) ?_ | refine EW.eReg (id := 2) ?_); refine EW.eAssign ?_; refine EW.eEnd ?_; (try refine EW.nm ?_))
  all_goals try ((first | refine EW.eRegL (id := 3) ?_ | refine EW.eReg (id := 3) ?_); refine EW.eAssign ?_; refine EW.eEnd ?_; (try refine EW.nm ?_))
  all_goals first | (fail_if_success (refine EW.eUnroll 1 ?_)) | (refine EW.eLoopD [6, 7, 8, 9, 10, 11, 12, 13, 14, 15, 16, 17, 18, 19, 20, 21, 22, 23, 24, 25, 26, 27, 28, 29, 30] 1000000 (fun j : {i : Nat // i ≤ 20} => [(.t 7, .v (.c (.v (.int .i64 (j.1 : Int))))), (.t 6, .v (.c (.v (.int .u64 ((carry x y j.1 : Nat) : Int))))), (.b 40, .b (.w true (big false (suml x y j.1))))]) (fun j => 20 - j.1) (⟨0, by omega⟩) (by ((repeat (first | exact EW.subW.nil | refine EW.subW.cons rfl ?_ | refine EW.subW.conv rfl ?_ (by first | exact EW.kvI (more_c _ _ _) | exact EW.kvW (more_z _ _ _) | exact EW.kvI (more_c0 _ _) | exact EW.kvW (more_z0 _ _)) | refine EW.subW.conv rfl ?_)); (first | done | fail))) ?_; rintro hcl4 ⟨i, hi⟩; (try dsimp only))
  all_goals try (refine EW.nm ?_)
  all_goals try ((first | refine EW.eRegL (id := 4) ?_ | refine EW.eReg (id := 4) ?_); refine EW.eMove ?_; refine EW.eLss ?_; refine EW.eEnd ?_; (try refine EW.nm ?_))
  all_goals try (first | refine EW.eYes (x := Operand.tmp 10) ?_ | refine EW.eNo (x := Operand.tmp 10) ?_ | (refine EW.eCond (x := Operand.tmp 10) ?_ ?_ <;> (intro hb hb'; (try dsimp only at hb'); (try (exfalso; first | omega | with_reducible exact absurd rfl hb')))))
  all_goals try (refine EW.nm ?_)
  all_goals (try (have hdx := dg_lt x i; have hdy := dg_lt y i; have hdc := carry_le x y i))
  all_goals try ((first | refine EW.eRegL (id := 6) ?_ | refine EW.eReg (id := 6) ?_); refine EW.eMove ?_; refine EW.eFieldAddr (k := 20) ?_; refine EW.eIndexAddr (z := 1) ?_; refine EW.eLoad1 ?_; refine EW.eMove ?_; refine EW.eFieldAddr (k := 20) ?_; refine EW.eIndexAddr (z := 1) ?_; refine EW.eLoad1 ?_; refine EW.eAdd ?_; refine EW.eMove ?_; refine EW.eAdd ?_; refine EW.eAssign ?_; refine EW.eDraw ?_; (try refine EW.nm ?_))
  all_goals try ((first | refine EW.eRegL (id := 7) ?_ | refine EW.eReg (id := 7) ?_); refine EW.eMove ?_; refine EW.eMove ?_; refine EW.eRem ?_; refine EW.eFieldAddr (k := 20) ?_; refine EW.eIndexAddr (z := 1) ?_; (first | refine EW.eStoreW (k := 1) ?_ | refine EW.eStore (k := 1) ?_); refine EW.eEnd ?_; (try refine EW.nm ?_))
  all_goals try ((first | refine EW.eRegL (id := 8) ?_ | refine EW.eReg (id := 8) ?_); refine EW.eMove ?_; refine EW.eQuo ?_; refine EW.eAssign ?_; refine EW.eEnd ?_; (try refine EW.nm ?_))
  all_goals try ((first | refine EW.eRegL (id := 5) ?_ | refine EW.eReg (id := 5) ?_); refine EW.eMove ?_; refine EW.eAdd ?_; refine EW.eAssign ?_; refine EW.eEnd ?_; (try refine EW.nm ?_))
  all_goals first | (fail_if_success (with_reducible refine EW.isLater ?_)) | (refine EW.eLaterD (⟨i + 1, by omega⟩) (by dsimp only; omega) (by ((repeat (first | exact EW.subW.nil | refine EW.subW.cons rfl ?_ | refine EW.subW.conv rfl ?_ (by first | exact EW.kvI (more_c _ _ _) | exact EW.kvW (more_z _ _ _) | exact EW.kvI (more_c0 _ _) | exact EW.kvW (more_z0 _ _)) | refine EW.subW.conv rfl ?_)); (first | done | fail))) hcl4)
  all_goals try (refine EW.nm ?_)
  all_goals try ((first | refine EW.eRegL (id := 9) ?_ | refine EW.eReg (id := 9) ?_); refine EW.eLoadA (k := 21) ?_; (first | refine EW.eStoreW (k := 21) ?_ | refine EW.eStore (k := 21) ?_); refine EW.eEnd ?_; (try refine EW.nm ?_))
  all_goals (refine EW.eLeaveP ?_; intro w' hW; refine ⟨?_, hW⟩)
  all_goals (obtain rfl : i = 20 := by omega)
  all_goals rfl
theorem away_c (x y i : Nat) : 1 - (((dg x i : Nat) : Int) + 65536 - ((dg y i : Nat) : Int) - ((borrow x y i : Nat) : Int)) / 65536 = ((borrow x y (i + 1) : Nat) : Int) := by
  have h1 := dg_lt x i; have h2 := dg_lt y i; have h3 := borrow_le x y i
  rw [(dif_step x y i).1]; omega
theorem away_z (x y i : Nat) : big false (setD (difl x y i) i ((((dg x i : Nat) : Int) + 65536 - ((dg y i : Nat) : Int) - ((borrow x y i : Nat) : Int)) % 65536).toNat) = big false (difl x y (i + 1)) := by
  have h1 := dg_lt x i; have h2 := dg_lt y i; have h3 := borrow_le x y i
  rw [(dif_step x y i).2]; congr 2; omega
theorem away_c0 (x y : Nat) : (0 : Int) = ((borrow x y 0 : Nat) : Int) := by simp [borrow, Nat.mod_one]
theorem away_z0 (x y : Nat) : big false 0 = big false (difl x y 0) := by simp [difl, borrow, Nat.mod_one]
theorem raway (b b' : Bool) (x y : Nat) (w : World) : Calls Try.prog 38 #[Bg b x, Bg b' y] w fun e w' => e = .returned (Bg false (difl x y 20)) ∧ Below w.heap.size w w' := by
  refine EW.eEnter Try.func38 rfl Try.ntmps38 ?_
  all_goals try (refine EW.nm ?_)
  all_goals try ((first | refine EW.eRegL (id := 0) ?_ | refine EW.eReg (id := 0) ?_); refine EW.eBox ?_; refine EW.eBox ?_; refine EW.eAlloc ?_; refine EW.eEnd ?_; (try refine EW.nm ?_))
  all_goals try ((first | refine EW.eRegL (id := 1) ?_ | refine EW.eReg (id := 1) ?_); refine EW.eAlloc ?_; refine EW.eEnd ?_; (try refine EW.nm ?_))
  all_goals (refine EW.eToW 40 true (big false 0) ?_)
  all_goals try ((first | refine EW.eRegL (id := 2) ?_ | refine EW.eReg (id := 2) ?_); refine EW.eAssign ?_; refine EW.eEnd ?_; (try refine EW.nm ?_))
  all_goals try ((first | refine EW.eRegL (id := 3) ?_ | refine EW.eReg (id := 3) ?_); refine EW.eAssign ?_; refine EW.eEnd ?_; (try refine EW.nm ?_))
  all_goals first | (fail_if_success (refine EW.eUnroll 1 ?_)) | (refine EW.eLoopD [6, 7, 8, 9, 10, 11, 12, 13, 14, 15, 16, 17, 18, 19, 20, 21, 22, 23, 24, 25, 26, 27, 28, 29, 30, 31, 32] 1000000 (fun j : {i : Nat // i ≤ 20} => [(.t 7, .v (.c (.v (.int .i64 (j.1 : Int))))), (.t 6, .v (.c (.v (.int .u64 ((borrow x y j.1 : Nat) : Int))))), (.b 40, .b (.w true (big false (difl x y j.1))))]) (fun j => 20 - j.1) (⟨0, by omega⟩) (by ((repeat (first | exact EW.subW.nil | refine EW.subW.cons rfl ?_ | refine EW.subW.conv rfl ?_ (by first | exact EW.kvI (away_c _ _ _) | exact EW.kvW (away_z _ _ _) | exact EW.kvI (away_c0 _ _) | exact EW.kvW (away_z0 _ _)) | refine EW.subW.conv rfl ?_)); (first | done | fail))) ?_; rintro hcl4 ⟨i, hi⟩; (try dsimp only))
  all_goals try (refine EW.nm ?_)
  all_goals try ((first | refine EW.eRegL (id := 4) ?_ | refine EW.eReg (id := 4) ?_); refine EW.eMove ?_; refine EW.eLss ?_; refine EW.eEnd ?_; (try refine EW.nm ?_))
  all_goals try (first | refine EW.eYes (x := Operand.tmp 10) ?_ | refine EW.eNo (x := Operand.tmp 10) ?_ | (refine EW.eCond (x := Operand.tmp 10) ?_ ?_ <;> (intro hb hb'; (try dsimp only at hb'); (try (exfalso; first | omega | with_reducible exact absurd rfl hb')))))
  all_goals try (refine EW.nm ?_)
  all_goals (try (have hdx := dg_lt x i; have hdy := dg_lt y i; have hdc := borrow_le x y i))
  all_goals try ((first | refine EW.eRegL (id := 6) ?_ | refine EW.eReg (id := 6) ?_); refine EW.eMove ?_; refine EW.eFieldAddr (k := 20) ?_; refine EW.eIndexAddr (z := 1) ?_; refine EW.eLoad1 ?_; refine EW.eAdd ?_; refine EW.eMove ?_; refine EW.eFieldAddr (k := 20) ?_; refine EW.eIndexAddr (z := 1) ?_; refine EW.eLoad1 ?_; refine EW.eSub ?_; refine EW.eMove ?_; refine EW.eSub ?_; refine EW.eAssign ?_; refine EW.eDraw ?_; (try refine EW.nm ?_))
  all_goals try ((first | refine EW.eRegL (id := 7) ?_ | refine EW.eReg (id := 7) ?_); refine EW.eMove ?_; refine EW.eMove ?_; refine EW.eRem ?_; refine EW.eFieldAddr (k := 20) ?_; refine EW.eIndexAddr (z := 1) ?_; (first | refine EW.eStoreW (k := 1) ?_ | refine EW.eStore (k := 1) ?_); refine EW.eEnd ?_; (try refine EW.nm ?_))
  all_goals try ((first | refine EW.eRegL (id := 8) ?_ | refine EW.eReg (id := 8) ?_); refine EW.eMove ?_; refine EW.eQuo ?_; refine EW.eSub ?_; refine EW.eAssign ?_; refine EW.eEnd ?_; (try refine EW.nm ?_))
  all_goals try ((first | refine EW.eRegL (id := 5) ?_ | refine EW.eReg (id := 5) ?_); refine EW.eMove ?_; refine EW.eAdd ?_; refine EW.eAssign ?_; refine EW.eEnd ?_; (try refine EW.nm ?_))
  all_goals first | (fail_if_success (with_reducible refine EW.isLater ?_)) | (refine EW.eLaterD (⟨i + 1, by omega⟩) (by dsimp only; omega) (by ((repeat (first | exact EW.subW.nil | refine EW.subW.cons rfl ?_ | refine EW.subW.conv rfl ?_ (by first | exact EW.kvI (away_c _ _ _) | exact EW.kvW (away_z _ _ _) | exact EW.kvI (away_c0 _ _) | exact EW.kvW (away_z0 _ _)) | refine EW.subW.conv rfl ?_)); (first | done | fail))) hcl4)
  all_goals try (refine EW.nm ?_)
  all_goals try ((first | refine EW.eRegL (id := 9) ?_ | refine EW.eReg (id := 9) ?_); refine EW.eLoadA (k := 21) ?_; (first | refine EW.eStoreW (k := 21) ?_ | refine EW.eStore (k := 21) ?_); refine EW.eEnd ?_; (try refine EW.nm ?_))
  all_goals (refine EW.eLeaveP ?_; intro w' hW; refine ⟨?_, hW⟩)
  all_goals (obtain rfl : i = 20 := by omega)
  all_goals rfl
theorem less_next {x y i : Nat} (h : x / 65536 ^ i = y / 65536 ^ i) (h0 : 0 < i) (hd : ((dg x (i - 1) : Nat) : Int) = ((dg y (i - 1) : Nat) : Int)) : x / 65536 ^ (i - 1) = y / 65536 ^ (i - 1) := by
  obtain ⟨k, rfl⟩ : ∃ k, i = k + 1 := ⟨i - 1, by omega⟩
  simp only [Nat.add_sub_cancel] at *
  rw [less_step x y k, less_step y y k, h]; omega
theorem less_end {x y i : Nat} (h : x / 65536 ^ i = y / 65536 ^ i) (h0 : 0 < i) (hd : ¬ ((dg x (i - 1) : Nat) : Int) = ((dg y (i - 1) : Nat) : Int)) : decide (((dg x (i - 1) : Nat) : Int) < ((dg y (i - 1) : Nat) : Int)) = decide (x < y) := by
  obtain ⟨k, rfl⟩ : ∃ k, i = k + 1 := ⟨i - 1, by omega⟩
  simp only [Nat.add_sub_cancel] at *
  rw [decide_eq_decide]
  constructor
  · intro h1; exact less_here h (by omega)
  · intro h1
    rcases Nat.lt_or_ge (dg y k) (dg x k) with h2 | h2
    · have := less_here h.symm h2; omega
    · omega
theorem less_first {x y : Nat} (hx : x < W20) (hy : y < W20) : x / 65536 ^ 20 = y / 65536 ^ 20 := by
  unfold W20 at hx hy; rw [Nat.div_eq_of_lt hx, Nat.div_eq_of_lt hy]
theorem rless (b b' : Bool) (x y : Nat) (w : World) (hx : x < W20) (hy : y < W20) : Calls Try.prog 37 #[Bg b x, Bg b' y] w fun e w' => e = .returned (.bool (decide (x < y))) ∧ Below w.heap.size w w' := by
  refine EW.eEnter Try.func37 rfl Try.ntmps37 ?_
  all_goals try (refine EW.nm ?_)
  all_goals try ((first | refine EW.eRegL (id := 0) ?_ | refine EW.eReg (id := 0) ?_); refine EW.eBox ?_; refine EW.eBox ?_; refine EW.eAssign ?_; refine EW.eEnd ?_; (try refine EW.nm ?_))
  all_goals try ((first | refine EW.eRegL (id := 1) ?_ | refine EW.eReg (id := 1) ?_); refine EW.eAssign ?_; refine EW.eEnd ?_; (try refine EW.nm ?_))
  all_goals first | (fail_if_success (refine EW.eUnroll 1 ?_)) | (refine EW.eLoopD [4, 5, 6, 7, 8, 9, 10, 11, 12, 13, 14, 15, 16, 17, 18, 19, 20, 21, 22, 23, 24, 25, 26, 27] 1000000 (fun j : {i : Nat // i ≤ 20 ∧ x / 65536 ^ i = y / 65536 ^ i} => [(.t 5, .v (.c (.v (.int .i64 ((j.1 : Int) - 1)))))]) (fun j => j.1) (⟨20, by omega, less_first hx hy⟩) (by ((repeat (first | exact EW.subW.nil | refine EW.subW.cons rfl ?_ | refine EW.subW.conv rfl ?_)); (first | done | fail))) ?_; rintro hcl2 ⟨i, hi, hq⟩; (try dsimp only))
  all_goals try (refine EW.nm ?_)
  all_goals try ((first | refine EW.eRegL (id := 2) ?_ | refine EW.eReg (id := 2) ?_); refine EW.eMove ?_; refine EW.eGeq ?_; refine EW.eEnd ?_; (try refine EW.nm ?_))
  all_goals try (first | refine EW.eYes (x := Operand.tmp 7) ?_ | refine EW.eNo (x := Operand.tmp 7) ?_ | (refine EW.eCond (x := Operand.tmp 7) ?_ ?_ <;> (intro hb hb'; (try dsimp only at hb'); (try (exfalso; first | omega | with_reducible exact absurd rfl hb')))))
  all_goals try (refine EW.nm ?_)
  all_goals try ((first | refine EW.eRegL (id := 4) ?_ | refine EW.eReg (id := 4) ?_); refine EW.eMove ?_; refine EW.eFieldAddr (k := 20) ?_; refine EW.eIndexAddr (z := 1) ?_; refine EW.eLoad1 ?_; refine EW.eMove ?_; refine EW.eFieldAddr (k := 20) ?_; refine EW.eIndexAddr (z := 1) ?_; refine EW.eLoad1 ?_; refine EW.eNeq ?_; refine EW.eDraw ?_; (try refine EW.nm ?_))
  all_goals try (first | refine EW.eYes (x := Operand.tmp 18) ?_ | refine EW.eNo (x := Operand.tmp 18) ?_ | (refine EW.eCond (x := Operand.tmp 18) ?_ ?_ <;> (intro hb hb'; (try dsimp only at hb'); (try (exfalso; first | omega | with_reducible exact absurd rfl hb')))))
  all_goals try (refine EW.nm ?_)
  all_goals try ((first | refine EW.eRegL (id := 5) ?_ | refine EW.eReg (id := 5) ?_); refine EW.eMove ?_; refine EW.eFieldAddr (k := 20) ?_; refine EW.eIndexAddr (z := 1) ?_; refine EW.eLoad1 ?_; refine EW.eMove ?_; refine EW.eFieldAddr (k := 20) ?_; refine EW.eIndexAddr (z := 1) ?_; refine EW.eLoad1 ?_; refine EW.eLss ?_; refine EW.eAssign ?_; refine EW.eDraw ?_; (try refine EW.nm ?_))
  all_goals try ((first | refine EW.eRegL (id := 3) ?_ | refine EW.eReg (id := 3) ?_); refine EW.eMove ?_; refine EW.eSub ?_; refine EW.eAssign ?_; refine EW.eEnd ?_; (try refine EW.nm ?_))
  all_goals first | (fail_if_success (with_reducible refine EW.isLater ?_)) | (refine EW.eLaterD (⟨i - 1, by omega, less_next hq (by omega) (by assumption)⟩) (by dsimp only; omega) (by ((repeat (first | exact EW.subW.nil | refine EW.subW.cons rfl ?_ | refine EW.subW.conv rfl ?_)); (first | done | fail))) hcl2)
  all_goals try (refine EW.nm ?_)
  all_goals try ((first | refine EW.eRegL (id := 6) ?_ | refine EW.eReg (id := 6) ?_); refine EW.eAssign ?_; refine EW.eEnd ?_; (try refine EW.nm ?_))
  all_goals (refine EW.eLeaveP ?_; intro w' hW; refine ⟨?_, hW⟩)
  · exact congrArg (fun b => Ending.returned (.bool b)) (less_end hq (by omega) (by assumption))
  · obtain rfl : i = 0 := by omega
    simp only [Nat.pow_zero, Nat.div_one] at hq
    rw [decide_eq_false (by omega)]
end Go.Proofs.Ytbjogekhedglgaa
