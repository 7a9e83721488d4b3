/- The document's numbers: quotients. -/
import Derived.Test.YtbjogekhedglgaaBg4
namespace Go.Proofs.Ytbjogekhedglgaa
set_option linter.unusedSimpArgs false
set_option linter.unusedVariables false
open Go.RowKit EV
open SX (Wr Tv Qu Rm Sh Is conjP eqs_iff eqs_false)
open EW (PlL PlT PlV PlVs LfV Mm Bt Opn GV)
set_option maxRecDepth 20000
def shd (n k : Nat) : Nat := n / 2 ^ k
theorem shd_zero (n : Nat) : shd n 0 = n := by simp [shd]
theorem shd_succ (n k : Nat) : shd n (k + 1) = shd n k / 2 := by unfold shd; rw [Nat.pow_succ, Nat.div_div_eq_div_mul]
theorem shd_le (n k : Nat) : shd n k ≤ n := Nat.div_le_self _ _
theorem shd_next (n k : Nat) : ((shd n k : Nat) : Int) / 2 = ((shd n (k + 1) : Nat) : Int) := by rw [shd_succ]; omega
theorem div_i (i : Nat) : (((i : Int) - 1) / 16).toNat = (i - 1) / 16 := by omega
def divB (a d i : Nat) : Nat := divR a d i + divR a d i + a / 2 ^ (i - 1) % 2
theorem divB_le (a d i : Nat) : divB a d i ≤ divR a d i + divR a d i + 1 := by
  unfold divB; have := Nat.mod_lt (a / 2 ^ (i - 1)) (show 2 > 0 by decide); omega
theorem dg_even (r : Nat) : dg (r + r) 0 ≤ 65534 := by
  have h1 := dg_lt (r + r) 0
  have h2 : dg (r + r) 0 % 2 = 0 := by unfold dg; simp only [Nat.pow_zero, Nat.div_one]; omega
  omega
theorem set_lowE {r b : Nat} : setD (r + r) 0 (dg (r + r) 0 + b) = r + r + b := by
  have := set_add (r + r) 0 (dg (r + r) 0 + b)
  simp only [Nat.pow_zero, Nat.mul_one] at this; omega
theorem div_low {a d i k : Nat} (hi : 0 < i) (hk : k = (i - 1) % 16) : big false (setD (divR a d i + divR a d i) 0 (((dg (divR a d i + divR a d i) 0 : Nat) : Int) + ((shd (dg a (((i : Int) - 1) / 16).toNat) k : Nat) : Int) % 2).toNat) = big false (divB a d i) := by
  subst hk
  rw [div_i]
  have e := bit_is a (i - 1)
  have e2 : (((dg (divR a d i + divR a d i) 0 : Nat) : Int) + ((shd (dg a ((i - 1) / 16)) ((i - 1) % 16) : Nat) : Int) % 2).toNat = dg (divR a d i + divR a d i) 0 + shd (dg a ((i - 1) / 16)) ((i - 1) % 16) % 2 := by omega
  rw [e2, set_lowE]
  unfold shd divB
  rw [e]
theorem div_lt {a d i : Nat} (hd : 0 < d) (hi : 0 < i) (h : divB a d i < d) : divB a d i = divR a d (i - 1) ∧ divQ a d i + divQ a d i = divQ a d (i - 1) := by
  obtain ⟨k, rfl⟩ : ∃ k, i = k + 1 := ⟨i - 1, by omega⟩
  have := (div_round (a := a) (i := k) hd).1
  unfold divB at *
  simp only [Nat.add_sub_cancel] at *
  obtain ⟨h1, h2⟩ := this (by omega)
  rw [h1, h2]; omega
theorem div_ge {a d i : Nat} (hd : 0 < d) (hi : 0 < i) (h : ¬ divB a d i < d) : divB a d i - d = divR a d (i - 1) ∧ divQ a d i + divQ a d i + 1 = divQ a d (i - 1) := by
  obtain ⟨k, rfl⟩ : ∃ k, i = k + 1 := ⟨i - 1, by omega⟩
  have := (div_round (a := a) (i := k) hd).2
  unfold divB at *
  simp only [Nat.add_sub_cancel] at *
  obtain ⟨h1, h2⟩ := this (by omega)
  rw [h1, h2]; omega
theorem div_q1 (q : Nat) : big false (setD (q + q) 0 (((dg (q + q) 0 : Nat) : Int) + 1).toNat) = big false (q + q + 1) := by
  have e : (((dg (q + q) 0 : Nat) : Int) + 1).toNat = dg (q + q) 0 + 1 := by omega
  rw [e, set_lowE]
theorem divR_lt {a d i : Nat} (hd : 0 < d) : divR a d i < d := Nat.mod_lt _ hd
theorem divQ_le (a d i : Nat) : divQ a d i ≤ a := Nat.le_trans (Nat.div_le_self _ _) (Nat.div_le_self _ _)
theorem div_begin {a d : Nat} (h : a < 65536 ^ 9) : divR a d 144 = 0 ∧ divQ a d 144 = 0 := by
  unfold divR divQ; rw [Nat.div_eq_of_lt (by simpa using h)]; simp
theorem div_done (a d : Nat) : divR a d 0 = a % d ∧ divQ a d 0 = a / d := by simp [divR, divQ]
theorem W20_nine : 65536 ^ 9 * 65536 ^ 9 * 4 < W20 := by decide
theorem rof1 (w : World) : Calls Try.prog 12 #[.int .i64 1] w fun e w' => e = .returned (Bg false 1) ∧ Below w.heap.size w w' := rof 1 w (by omega) (by omega)
theorem radd1 (n : Nat) (w : World) (h : n + 1 < W20) : Calls Try.prog 15 #[Bg false n, Bg false 1] w fun e w' => e = .returned (Bg false (n + 1)) ∧ Below w.heap.size w w' := by
  have := raddB false false n 1 w h
  rwa [if_pos rfl, Bool.false_and] at this
theorem big_z {B : Bool} {N : Nat} {z : Int} (h : N = z.natAbs) (h' : B = decide (z < 0)) : big B N = big (decide (z < 0)) z.natAbs := by rw [h, h']
theorem prod_z {z c : Int} (h : z.natAbs < 65536 ^ 9) (h' : c.natAbs < 65536 ^ 9) : (z * c).natAbs < 65536 ^ 9 * 65536 ^ 9 := by
  rw [Int.natAbs_mul]; exact Nat.mul_lt_mul'' h h'
set_option maxHeartbeats 4000000 in
theorem rdiv_walk (x c z : Int) (q r : Nat) (w : World) (hr : divR x.natAbs c.natAbs 0 = r) (hq : divQ x.natAbs c.natAbs 0 = q) (ha : x.natAbs < 65536 ^ 9) (hd : 0 < c.natAbs) (hd' : c.natAbs < 65536 ^ 9) (hz : z.natAbs < 65536 ^ 9) (hqa : q ≤ x.natAbs) (hrd : r < c.natAbs)
    (h1 : ¬ decide (x < 0) = decide (c < 0) → ¬ r = 0 → z = -((q : Int) + 1)) (h2 : ¬ decide (x < 0) = decide (c < 0) → r = 0 → z = -(q : Int)) (h3 : decide (x < 0) = decide (c < 0) → z = q) : Calls Try.prog 26 #[BZ x, BZ c] w fun e w' => e = .returned (.tuple #[BZ z, BZ (x + -(z * c)), .int .i64 0]) ∧ Below w.heap.size w w' := by
  have hW := W20_nine
  have hp := prod_z hz hd'
  refine EW.eEnter Try.func26 rfl Try.ntmps26 ?_
  all_goals try (refine EW.nm ?_)
  all_goals try ((first | refine EW.eRegL (id := 0) ?_ | refine EW.eReg (id := 0) ?_); refine EW.eBox ?_; refine EW.eBox ?_; refine EW.eAlloc ?_; refine EW.eAlloc ?_; refine EW.eAssign ?_; refine EW.eEnd ?_; (try refine EW.nm ?_))
  all_goals try ((first | refine EW.eRegL (id := 1) ?_ | refine EW.eReg (id := 1) ?_); refine EW.eLoadA (k := 21) ?_; (first | refine EW.eCall Try.call34 (fun w => rnone false r w (by omega)) ?_ | refine EW.eCall Try.call34 (fun w => rnone false q w (by omega)) ?_ | refine EW.eCall Try.call34 (fun w => rnone false (q + 1) w (by omega)) ?_ | refine EW.eCall Try.call34 (fun w => rnone (decide (c < 0)) c.natAbs w (by omega)) ?_); refine EW.eEnd ?_; (try refine EW.nm ?_))
  all_goals try (first | refine EW.eYes (x := Operand.tmp 14) ?_ | refine EW.eNo (x := Operand.tmp 14) ?_ | (refine EW.eCond (x := Operand.tmp 14) ?_ ?_ <;> (intro hb hb'; (try dsimp only at hb'); (try (exfalso; first | omega | with_reducible exact absurd rfl hb')))))
  all_goals try (refine EW.nm ?_)
  all_goals try ((first | refine EW.eRegL (id := 2) ?_ | refine EW.eReg (id := 2) ?_); refine EW.eBuild (place := fun i => [(0, 1), (1, 20)][i]?) ?_; refine EW.eBuild (place := fun i => [(0, 1), (1, 20)][i]?) ?_; (first | refine EW.eStoreW (k := 21) ?_ | refine EW.eStore (k := 21) ?_); (first | refine EW.eStoreW (k := 21) ?_ | refine EW.eStore (k := 21) ?_); refine EW.eAssign ?_; refine EW.eEnd ?_; (try refine EW.nm ?_))
  all_goals try ((first | refine EW.eRegL (id := 3) ?_ | refine EW.eReg (id := 3) ?_); refine EW.eAlloc ?_; refine EW.eEnd ?_; (try refine EW.nm ?_))
  all_goals try ((first | refine EW.eRegL (id := 4) ?_ | refine EW.eReg (id := 4) ?_); refine EW.eAlloc ?_; refine EW.eEnd ?_; (try refine EW.nm ?_))
  all_goals (try (refine EW.eToW 50 true (big false 0) ?_; refine EW.eToW 60 true (big false 0) ?_))
  all_goals try ((first | refine EW.eRegL (id := 5) ?_ | refine EW.eReg (id := 5) ?_); refine EW.eLoadA (k := 21) ?_; refine EW.eAlloc ?_; (first | refine EW.eStoreW (k := 21) ?_ | refine EW.eStore (k := 21) ?_); refine EW.eEnd ?_; (try refine EW.nm ?_))
  all_goals try ((first | refine EW.eRegL (id := 6) ?_ | refine EW.eReg (id := 6) ?_); refine EW.eFieldAddr (k := 1) ?_; (first | refine EW.eStoreW (k := 1) ?_ | refine EW.eStore (k := 1) ?_); refine EW.eEnd ?_; (try refine EW.nm ?_))
  all_goals try ((first | refine EW.eRegL (id := 7) ?_ | refine EW.eReg (id := 7) ?_); refine EW.eAssign ?_; refine EW.eEnd ?_; (try refine EW.nm ?_))
  all_goals first | (fail_if_success (refine EW.eUnroll 1 ?_)) | (refine EW.eLoopD [10, 11, 12, 19, 20, 21, 22, 23, 24, 25, 26, 27, 28, 29, 30, 31, 32, 33, 34, 35, 36, 37, 38, 39, 40, 41, 42, 43, 44, 45, 46, 47, 48, 49, 50, 51, 52, 53, 54, 55, 56, 57, 58, 59, 60, 61, 62] 1000000 (fun j : {i : Nat // i ≤ 144} => [(.t 10, .v (.c (.v (.int .i64 ((j.1 : Int) - 1))))), (.b 60, .b (.w true (big false (divR x.natAbs c.natAbs j.1)))), (.b 50, .b (.w true (big false (divQ x.natAbs c.natAbs j.1))))]) (fun j => j.1) (⟨144, by omega⟩) (by ((repeat (first | exact EW.subW.nil | refine EW.subW.cons rfl ?_ | refine EW.subW.conv rfl ?_ (by first | exact EW.kvW (by rw [(div_begin ha).1]) | exact EW.kvW (by rw [(div_begin ha).2]) | exact EW.kvW (by rw [(div_lt hd (by omega) (by assumption)).1]) | exact EW.kvW (by rw [(div_lt hd (by omega) (by assumption)).2]) | exact EW.kvW (by rw [(div_ge hd (by omega) (by omega)).1]) | exact EW.kvW (by rw [(div_ge hd (by omega) (by omega)).2])) | refine EW.subW.conv rfl ?_)); (first | done | fail))) ?_; rintro hcl8 ⟨i, hi⟩; (try dsimp only))
  all_goals try (refine EW.nm ?_)
  all_goals try ((first | refine EW.eRegL (id := 8) ?_ | refine EW.eReg (id := 8) ?_); refine EW.eMove ?_; refine EW.eGeq ?_; refine EW.eEnd ?_; (try refine EW.nm ?_))
  all_goals try (first | refine EW.eYes (x := Operand.tmp 20) ?_ | refine EW.eNo (x := Operand.tmp 20) ?_ | (refine EW.eCond (x := Operand.tmp 20) ?_ ?_ <;> (intro hb hb'; (try dsimp only at hb'); (try (exfalso; first | omega | with_reducible exact absurd rfl hb')))))
  all_goals try (refine EW.nm ?_)
  all_goals (try (have hr1 := divR_lt (a := x.natAbs) (i := i) hd; have hr2 := divQ_le x.natAbs c.natAbs i; have hr3 := dg_even (divR x.natAbs c.natAbs i); have hr4 := dg_even (divQ x.natAbs c.natAbs i); have hr5 := divB_le x.natAbs c.natAbs i))
  all_goals try ((first | refine EW.eRegL (id := 10) ?_ | refine EW.eReg (id := 10) ?_); refine EW.eLoadA (k := 21) ?_; refine EW.eLoadA (k := 21) ?_; (first | refine EW.eCall Try.call36 (fun w => rmore_in false false (divR x.natAbs c.natAbs i) (divR x.natAbs c.natAbs i) w (by omega)) ?_ | refine EW.eCall Try.call36 (fun w => rmore_in false false (divQ x.natAbs c.natAbs i) (divQ x.natAbs c.natAbs i) w (by omega)) ?_); (first | refine EW.eStoreW (k := 21) ?_ | refine EW.eStore (k := 21) ?_); refine EW.eEnd ?_; (try refine EW.nm ?_))
  all_goals try ((first | refine EW.eRegL (id := 11) ?_ | refine EW.eReg (id := 11) ?_); refine EW.eMove ?_; refine EW.eQuo ?_; refine EW.eFieldAddr (k := 20) ?_; refine EW.eIndexAddr (z := 1) ?_; refine EW.eLoad1 ?_; refine EW.eAssign ?_; refine EW.eEnd ?_; (try refine EW.nm ?_))
  all_goals try ((first | refine EW.eRegL (id := 12) ?_ | refine EW.eReg (id := 12) ?_); refine EW.eAssign ?_; refine EW.eEnd ?_; (try refine EW.nm ?_))
  all_goals first | (fail_if_success (refine EW.eUnroll 1 ?_)) | (refine EW.eLoopD [11, 12, 31, 32, 33, 34, 35, 36, 37, 38] 1000000 (fun j : {k : Nat // k ≤ (i - 1) % 16} => [(.t 12, .v (.c (.v (.int .i64 (j.1 : Int))))), (.t 11, .v (.c (.v (.int .u64 ((shd (dg x.natAbs (((i : Int) - 1) / 16).toNat) j.1 : Nat) : Int)))))]) (fun j => (i - 1) % 16 - j.1) (⟨0, by omega⟩) (by ((repeat (first | exact EW.subW.nil | refine EW.subW.cons rfl ?_ | refine EW.subW.conv rfl ?_ (by first | exact EW.kvI (shd_next _ _) | exact EW.kvI (by rw [shd_zero])) | refine EW.subW.conv rfl ?_)); (first | done | fail))) ?_; rintro hcl13 ⟨k, hk⟩; (try dsimp only))
  all_goals try (refine EW.nm ?_)
  all_goals try ((first | refine EW.eRegL (id := 13) ?_ | refine EW.eReg (id := 13) ?_); refine EW.eMove ?_; refine EW.eMove ?_; refine EW.eRem ?_; refine EW.eLss ?_; refine EW.eEnd ?_; (try refine EW.nm ?_))
  all_goals try (first | refine EW.eYes (x := Operand.tmp 34) ?_ | refine EW.eNo (x := Operand.tmp 34) ?_ | (refine EW.eCond (x := Operand.tmp 34) ?_ ?_ <;> (intro hb hb'; (try dsimp only at hb'); (try (exfalso; first | omega | with_reducible exact absurd rfl hb')))))
  all_goals try (refine EW.nm ?_)
  all_goals (try (have hs1 := shd_le (dg x.natAbs (((i : Int) - 1) / 16).toNat) k; have hs2 := dg_lt x.natAbs (((i : Int) - 1) / 16).toNat))
  all_goals try ((first | refine EW.eRegL (id := 15) ?_ | refine EW.eReg (id := 15) ?_); refine EW.eMove ?_; refine EW.eQuo ?_; refine EW.eAssign ?_; refine EW.eEnd ?_; (try refine EW.nm ?_))
  all_goals try ((first | refine EW.eRegL (id := 14) ?_ | refine EW.eReg (id := 14) ?_); refine EW.eMove ?_; refine EW.eAdd ?_; refine EW.eAssign ?_; refine EW.eEnd ?_; (try refine EW.nm ?_))
  all_goals first | (fail_if_success (with_reducible refine EW.isLater ?_)) | (refine EW.eLaterD (⟨k + 1, by omega⟩) (by dsimp only; omega) (by ((repeat (first | exact EW.subW.nil | refine EW.subW.cons rfl ?_ | refine EW.subW.conv rfl ?_ (by first | exact EW.kvI (shd_next _ _) | exact EW.kvI (by rw [shd_zero])) | refine EW.subW.conv rfl ?_)); (first | done | fail))) hcl13)
  all_goals try (refine EW.nm ?_)
  all_goals try ((first | refine EW.eRegL (id := 16) ?_ | refine EW.eReg (id := 16) ?_); refine EW.eFieldAddr (k := 20) ?_; refine EW.eIndexAddr (z := 1) ?_; refine EW.eLoad1 ?_; refine EW.eMove ?_; refine EW.eRem ?_; refine EW.eAdd ?_; refine EW.eFieldAddr (k := 20) ?_; refine EW.eIndexAddr (z := 1) ?_; (first | refine EW.eStoreW (k := 1) ?_ | refine EW.eStore (k := 1) ?_); refine EW.eEnd ?_; (try refine EW.nm ?_))
  all_goals (try rw [div_low (by omega) (by omega)])
  all_goals try ((first | refine EW.eRegL (id := 17) ?_ | refine EW.eReg (id := 17) ?_); refine EW.eLoadA (k := 21) ?_; refine EW.eLoadA (k := 21) ?_; (first | refine EW.eCall Try.call36 (fun w => rmore_in false false (divR x.natAbs c.natAbs i) (divR x.natAbs c.natAbs i) w (by omega)) ?_ | refine EW.eCall Try.call36 (fun w => rmore_in false false (divQ x.natAbs c.natAbs i) (divQ x.natAbs c.natAbs i) w (by omega)) ?_); (first | refine EW.eStoreW (k := 21) ?_ | refine EW.eStore (k := 21) ?_); refine EW.eEnd ?_; (try refine EW.nm ?_))
  all_goals try ((first | refine EW.eRegL (id := 18) ?_ | refine EW.eReg (id := 18) ?_); refine EW.eLoadA (k := 21) ?_; refine EW.eLoadA (k := 21) ?_; refine EW.eCall Try.call37 (fun w => rless false false (divB x.natAbs c.natAbs i) c.natAbs w (by omega) (by omega)) ?_; refine EW.eNot ?_; refine EW.eEnd ?_; (try refine EW.nm ?_))
  all_goals try (first | refine EW.eYes (x := Operand.tmp 53) ?_ | refine EW.eNo (x := Operand.tmp 53) ?_ | (refine EW.eCond (x := Operand.tmp 53) ?_ ?_ <;> (intro hb hb'; (try dsimp only at hb'); (try (exfalso; first | omega | with_reducible exact absurd rfl hb')))))
  all_goals try (refine EW.nm ?_)
  all_goals try ((first | refine EW.eRegL (id := 19) ?_ | refine EW.eReg (id := 19) ?_); refine EW.eLoadA (k := 21) ?_; refine EW.eLoadA (k := 21) ?_; refine EW.eCall Try.call38 (fun w => raway_in false false (divB x.natAbs c.natAbs i) c.natAbs w (by omega) (by omega)) ?_; (first | refine EW.eStoreW (k := 21) ?_ | refine EW.eStore (k := 21) ?_); refine EW.eEnd ?_; (try refine EW.nm ?_))
  all_goals try ((first | refine EW.eRegL (id := 20) ?_ | refine EW.eReg (id := 20) ?_); refine EW.eFieldAddr (k := 20) ?_; refine EW.eIndexAddr (z := 1) ?_; refine EW.eLoad1 ?_; refine EW.eAdd ?_; refine EW.eFieldAddr (k := 20) ?_; refine EW.eIndexAddr (z := 1) ?_; (first | refine EW.eStoreW (k := 1) ?_ | refine EW.eStore (k := 1) ?_); refine EW.eEnd ?_; (try refine EW.nm ?_))
  all_goals (try rw [div_q1])
  all_goals try ((first | refine EW.eRegL (id := 9) ?_ | refine EW.eReg (id := 9) ?_); refine EW.eMove ?_; refine EW.eSub ?_; refine EW.eAssign ?_; refine EW.eEnd ?_; (try refine EW.nm ?_))
  all_goals first | (fail_if_success (with_reducible refine EW.isLater ?_)) | (refine EW.eLaterD (⟨i - 1, by omega⟩) (by dsimp only; omega) (by ((repeat (first | exact EW.subW.nil | refine EW.subW.cons rfl ?_ | refine EW.subW.conv rfl ?_ (by first | exact EW.kvW (by rw [(div_begin ha).1]) | exact EW.kvW (by rw [(div_begin ha).2]) | exact EW.kvW (by rw [(div_lt hd (by omega) (by assumption)).1]) | exact EW.kvW (by rw [(div_lt hd (by omega) (by assumption)).2]) | exact EW.kvW (by rw [(div_ge hd (by omega) (by omega)).1]) | exact EW.kvW (by rw [(div_ge hd (by omega) (by omega)).2])) | refine EW.subW.conv rfl ?_)); (first | done | fail))) hcl8)
  all_goals try (refine EW.nm ?_)
  all_goals (try (obtain rfl : i = 0 := (by omega); rw [hr, hq]))
  all_goals try ((first | refine EW.eRegL (id := 21) ?_ | refine EW.eReg (id := 21) ?_); refine EW.eFieldAddr (k := 1) ?_; refine EW.eLoad1 ?_; refine EW.eFieldAddr (k := 1) ?_; refine EW.eLoad1 ?_; refine EW.eNeqB ?_; refine EW.eMove ?_)
  all_goals try (refine EW.eGuard (j := 5) (o := ⟨some 69, _, _, _, _, _⟩) ?_ ?_ <;> (intro hb hb'; (try dsimp only at hb'); (try (exfalso; first | omega | with_reducible exact absurd rfl hb'))))
  all_goals try ((first | refine EW.eSkipT (j := 5) ?_ | refine EW.eSkipU (j := 5) ?_ | refine EW.eLoadA (k := 21) ?_); (first | refine EW.eSkipT (j := 5) ?_ | refine EW.eSkipU (j := 5) ?_ | refine EW.eCall Try.call34 (fun w => rnone false r w (by omega)) ?_ | refine EW.eCall Try.call34 (fun w => rnone false q w (by omega)) ?_ | refine EW.eCall Try.call34 (fun w => rnone false (q + 1) w (by omega)) ?_ | refine EW.eCall Try.call34 (fun w => rnone (decide (c < 0)) c.natAbs w (by omega)) ?_); (first | refine EW.eSkipT (j := 5) ?_ | refine EW.eSkipU (j := 5) ?_ | refine EW.eNot ?_); (first | refine EW.ePickT ?_ | refine EW.ePickF ?_); refine EW.eEnd ?_; (try refine EW.nm ?_))
  all_goals try (first | refine EW.eYes (x := Operand.tmp 72) ?_ | refine EW.eNo (x := Operand.tmp 72) ?_ | (refine EW.eCond (x := Operand.tmp 72) ?_ ?_ <;> (intro hb hb'; (try dsimp only at hb'); (try (exfalso; first | omega | with_reducible exact absurd rfl hb')))))
  all_goals try (refine EW.nm ?_)
  all_goals try ((first | refine EW.eRegL (id := 22) ?_ | refine EW.eReg (id := 22) ?_); refine EW.eLoadA (k := 21) ?_; refine EW.eCall Try.call12 (fun w => rof1 w) ?_; (first | refine EW.eCall Try.call15 (fun w => radd1 q w (by omega)) ?_ | refine EW.eCall Try.call15 (fun w => radd x (-(z * c)) w (by omega)) ?_); (first | refine EW.eStoreW (k := 21) ?_ | refine EW.eStore (k := 21) ?_); refine EW.eDraw ?_; (try refine EW.nm ?_))
  all_goals try ((first | refine EW.eRegL (id := 23) ?_ | refine EW.eReg (id := 23) ?_); refine EW.eFieldAddr (k := 1) ?_; refine EW.eLoad1 ?_; refine EW.eFieldAddr (k := 1) ?_; refine EW.eLoad1 ?_; refine EW.eNeqB ?_; refine EW.eMove ?_)
  all_goals try (refine EW.eGuard (j := 5) (o := ⟨some 82, _, _, _, _, _⟩) ?_ ?_ <;> (intro hb hb'; (try dsimp only at hb'); (try (exfalso; first | omega | with_reducible exact absurd rfl hb'))))
  all_goals try ((first | refine EW.eSkipT (j := 5) ?_ | refine EW.eSkipU (j := 5) ?_ | refine EW.eLoadA (k := 21) ?_); (first | refine EW.eSkipT (j := 5) ?_ | refine EW.eSkipU (j := 5) ?_ | refine EW.eCall Try.call34 (fun w => rnone false r w (by omega)) ?_ | refine EW.eCall Try.call34 (fun w => rnone false q w (by omega)) ?_ | refine EW.eCall Try.call34 (fun w => rnone false (q + 1) w (by omega)) ?_ | refine EW.eCall Try.call34 (fun w => rnone (decide (c < 0)) c.natAbs w (by omega)) ?_); (first | refine EW.eSkipT (j := 5) ?_ | refine EW.eSkipU (j := 5) ?_ | refine EW.eNot ?_); (first | refine EW.ePickT ?_ | refine EW.ePickF ?_); refine EW.eFieldAddr (k := 1) ?_; (first | refine EW.eStoreW (k := 1) ?_ | refine EW.eStore (k := 1) ?_); refine EW.eEnd ?_; (try refine EW.nm ?_))
  all_goals (try (first | (have e := h1 (by assumption) (by assumption); rw [big_z (B := true) (N := q + 1) (z := z) (by omega) (by rw [Bool.eq_iff_iff]; simp; omega)]) | (have e := h2 (by assumption) (by assumption); rw [big_z (B := !decide (q = 0)) (N := q) (z := z) (by omega) (by rw [Bool.eq_iff_iff]; simp; omega)]) | (have e := h3 (by assumption); rw [big_z (B := false) (N := q) (z := z) (by omega) (by rw [Bool.eq_iff_iff]; simp; omega)])))
  all_goals try ((first | refine EW.eRegL (id := 24) ?_ | refine EW.eReg (id := 24) ?_); refine EW.eLoadA (k := 21) ?_; refine EW.eLoadA (k := 21) ?_; refine EW.eLoadA (k := 21) ?_; refine EW.eLoadA (k := 21) ?_; refine EW.eCall Try.call11 (fun w => rmulZ z c w (by omega) hd') ?_; refine EW.eCall Try.call17 (fun w => rneg (z * c) w (by omega)) ?_; (first | refine EW.eCall Try.call15 (fun w => radd1 q w (by omega)) ?_ | refine EW.eCall Try.call15 (fun w => radd x (-(z * c)) w (by omega)) ?_); (first | refine EW.eStoreW (k := 21) ?_ | refine EW.eStore (k := 21) ?_); (first | refine EW.eStoreW (k := 21) ?_ | refine EW.eStore (k := 21) ?_); refine EW.eAssign ?_; refine EW.eDraw ?_; (try refine EW.nm ?_))
  all_goals (refine EW.eLeaveP ?_; intro w' hW; refine ⟨?_, hW⟩)
  all_goals rfl
theorem fdiv_cases {x c z : Int} (hc : c ≠ 0) (hz : x.fdiv c = z) : (¬ decide (x < 0) = decide (c < 0) → ¬ x.natAbs % c.natAbs = 0 → z = -(((x.natAbs / c.natAbs : Nat) : Int) + 1)) ∧ (¬ decide (x < 0) = decide (c < 0) → x.natAbs % c.natAbs = 0 → z = -((x.natAbs / c.natAbs : Nat) : Int)) ∧ (decide (x < 0) = decide (c < 0) → z = ((x.natAbs / c.natAbs : Nat) : Int)) := by
  subst hz
  have hd : 0 < c.natAbs := by omega
  have key : ∀ z : Int, (0 ≤ x - z * c ∧ x - z * c < c) ∨ (c < x - z * c ∧ x - z * c ≤ 0) → x.fdiv c = z := fun z h => by
    have e1 := Int.fdiv_mul_add_fmod x c
    have h2 : x.fmod c = x - x.fdiv c * c := by omega
    have : (0 ≤ x.fmod c ∧ x.fmod c < c) ∨ (c < x.fmod c ∧ x.fmod c ≤ 0) := by
      rcases Int.lt_or_gt_of_ne hc with h0 | h0
      · right
        have h3 := Int.fmod_nonneg_of_pos (-x) (show 0 < -c by omega)
        have h4 := Int.fmod_lt_of_pos (-x) (show 0 < -c by omega)
        rw [Int.neg_fmod_neg] at h3 h4; omega
      · left; exact ⟨Int.fmod_nonneg_of_pos x h0, Int.fmod_lt_of_pos x h0⟩
    rw [h2] at this
    generalize x.fdiv c = y at *
    -- (z - y) * c is between -|c| and |c|
    have e : (z - y) * c = (x - y * c) - (x - z * c) := by rw [Int.sub_mul]; omega
    generalize x - y * c = u at *
    generalize x - z * c = v at *
    rcases Int.lt_trichotomy (z - y) 0 with h5 | h5 | h5
    · rcases Int.lt_or_gt_of_ne hc with h0 | h0
      · have := Int.mul_le_mul_of_nonpos_right (show z - y ≤ -1 by omega) (show c ≤ 0 by omega); omega
      · have := Int.mul_le_mul_of_nonneg_right (show z - y ≤ -1 by omega) (show 0 ≤ c by omega); omega
    · omega
    · rcases Int.lt_or_gt_of_ne hc with h0 | h0
      · have := Int.mul_le_mul_of_nonpos_right (show 1 ≤ z - y by omega) (show c ≤ 0 by omega); omega
      · have := Int.mul_le_mul_of_nonneg_right (show 1 ≤ z - y by omega) (show 0 ≤ c by omega); omega
  have hm := Nat.mod_add_div x.natAbs c.natAbs
  have hl := Nat.mod_lt x.natAbs hd
  have hm2 : ((x.natAbs % c.natAbs : Nat) : Int) + (c.natAbs : Int) * ((x.natAbs / c.natAbs : Nat) : Int) = (x.natAbs : Int) := by rw [← Int.natCast_mul, ← Int.natCast_add, hm]
  generalize x.natAbs / c.natAbs = q at *
  generalize x.natAbs % c.natAbs = r at *
  rw [Int.mul_comm] at hm2
  refine ⟨fun h hr => key _ ?_, fun h hr => key _ ?_, fun h => key _ ?_⟩ <;> rw [decide_eq_decide] at h <;> rcases Int.lt_or_gt_of_ne hc with h0 | h0
  all_goals first | rw [show (c.natAbs : Int) = -c from by omega, Int.mul_neg] at hm2 | rw [show (c.natAbs : Int) = c from by omega] at hm2
  all_goals (try simp only [Int.neg_mul, Int.add_mul, Int.one_mul])
  all_goals generalize (q : Int) * c = p at *
  all_goals omega
theorem rdiv (x c : Int) (w : World) (ha : x.natAbs < 1606938044258990275541962092341162602522202) (hc : c ≠ 0) (hd' : c.natAbs < 1606938044258990275541962092341162602522202) : Calls Try.prog 26 #[BZ x, BZ c] w fun e w' => e = .returned (.tuple #[BZ (x.fdiv c), BZ (x + -(x.fdiv c * c)), .int .i64 0]) ∧ Below w.heap.size w w' := by
  obtain ⟨h1, h2, h3⟩ := fdiv_cases (x := x) hc rfl
  have hd : 0 < c.natAbs := by omega
  have hqa := Nat.div_le_self x.natAbs c.natAbs
  refine rdiv_walk x c (x.fdiv c) (x.natAbs / c.natAbs) (x.natAbs % c.natAbs) w (div_done _ _).1 (div_done _ _).2 (by omega) hd (by omega) ?_ hqa (Nat.mod_lt _ hd) h1 h2 h3
  generalize x.natAbs / c.natAbs = q at *
  generalize x.natAbs % c.natAbs = r at *
  generalize x.fdiv c = z at *
  by_cases hs : decide (x < 0) = decide (c < 0)
  · have := h3 hs; omega
  · by_cases hr : r = 0
    · have := h2 hs hr; omega
    · have := h1 hs hr; omega
theorem rdiv0 (x : Int) (w : World) : Calls Try.prog 26 #[BZ x, BZ 0] w fun e w' => e = .returned (.tuple #[BZ 0, BZ 0, .int .i64 21]) ∧ Below w.heap.size w w' := by
  refine EW.eEnter Try.func26 rfl Try.ntmps26 ?_
  all_goals try (refine EW.nm ?_)
  all_goals try ((first | refine EW.eRegL (id := 0) ?_ | refine EW.eReg (id := 0) ?_); refine EW.eBox ?_; refine EW.eBox ?_; refine EW.eAlloc ?_; refine EW.eAlloc ?_; refine EW.eAssign ?_; refine EW.eEnd ?_; (try refine EW.nm ?_))
  all_goals try ((first | refine EW.eRegL (id := 1) ?_ | refine EW.eReg (id := 1) ?_); refine EW.eLoadA (k := 21) ?_; refine EW.eCall Try.call34 (fun w => rnone _ 0 w (by decide)) ?_; refine EW.eEnd ?_; (try refine EW.nm ?_))
  all_goals try (first | refine EW.eYes (x := Operand.tmp 14) ?_ | refine EW.eNo (x := Operand.tmp 14) ?_ | (refine EW.eCond (x := Operand.tmp 14) ?_ ?_ <;> (intro hb hb'; (try dsimp only at hb'); (try (exfalso; first | omega | with_reducible exact absurd rfl hb')))))
  all_goals try (refine EW.nm ?_)
  all_goals try ((first | refine EW.eRegL (id := 2) ?_ | refine EW.eReg (id := 2) ?_); refine EW.eBuild (place := fun i => [(0, 1), (1, 20)][i]?) ?_; refine EW.eBuild (place := fun i => [(0, 1), (1, 20)][i]?) ?_; (first | refine EW.eStoreW (k := 21) ?_ | refine EW.eStore (k := 21) ?_); (first | refine EW.eStoreW (k := 21) ?_ | refine EW.eStore (k := 21) ?_); refine EW.eAssign ?_; refine EW.eEnd ?_; (try refine EW.nm ?_))
  all_goals try ((first | refine EW.eRegL (id := 3) ?_ | refine EW.eReg (id := 3) ?_); refine EW.eAlloc ?_; refine EW.eEnd ?_; (try refine EW.nm ?_))
  all_goals try ((first | refine EW.eRegL (id := 4) ?_ | refine EW.eReg (id := 4) ?_); refine EW.eAlloc ?_; refine EW.eEnd ?_; (try refine EW.nm ?_))
  all_goals try ((first | refine EW.eRegL (id := 5) ?_ | refine EW.eReg (id := 5) ?_); refine EW.eLoadA (k := 21) ?_; refine EW.eAlloc ?_; (first | refine EW.eStoreW (k := 21) ?_ | refine EW.eStore (k := 21) ?_); refine EW.eEnd ?_; (try refine EW.nm ?_))
  all_goals try ((first | refine EW.eRegL (id := 6) ?_ | refine EW.eReg (id := 6) ?_); refine EW.eFieldAddr (k := 1) ?_; (first | refine EW.eStoreW (k := 1) ?_ | refine EW.eStore (k := 1) ?_); refine EW.eEnd ?_; (try refine EW.nm ?_))
  all_goals try ((first | refine EW.eRegL (id := 7) ?_ | refine EW.eReg (id := 7) ?_); refine EW.eAssign ?_; refine EW.eEnd ?_; (try refine EW.nm ?_))
  all_goals try (refine EW.eUnroll 6 ?_)
  all_goals try (refine EW.nm ?_)
  iterate 6 (
    all_goals try ((first | refine EW.eRegL (id := 8) ?_ | refine EW.eReg (id := 8) ?_); refine EW.eMove ?_; refine EW.eGeq ?_; refine EW.eEnd ?_; (try refine EW.nm ?_))
    all_goals try (first | refine EW.eYes (x := Operand.tmp 20) ?_ | refine EW.eNo (x := Operand.tmp 20) ?_ | (refine EW.eCond (x := Operand.tmp 20) ?_ ?_ <;> (intro hb hb'; (try dsimp only at hb'); (try (exfalso; first | omega | with_reducible exact absurd rfl hb')))))
    all_goals try (refine EW.nm ?_)
    all_goals try ((first | refine EW.eRegL (id := 10) ?_ | refine EW.eReg (id := 10) ?_); refine EW.eLoadA (k := 21) ?_; refine EW.eLoadA (k := 21) ?_; fail "no contract of mullion/mullionref02.more"; (first | refine EW.eStoreW (k := 21) ?_ | refine EW.eStore (k := 21) ?_); refine EW.eEnd ?_; (try refine EW.nm ?_))
    all_goals try ((first | refine EW.eRegL (id := 11) ?_ | refine EW.eReg (id := 11) ?_); refine EW.eMove ?_; refine EW.eQuo ?_; refine EW.eFieldAddr (k := 20) ?_; refine EW.eIndexAddr (z := 1) ?_; refine EW.eLoad1 ?_; refine EW.eAssign ?_; refine EW.eEnd ?_; (try refine EW.nm ?_))
    all_goals try ((first | refine EW.eRegL (id := 12) ?_ | refine EW.eReg (id := 12) ?_); refine EW.eAssign ?_; refine EW.eEnd ?_; (try refine EW.nm ?_))
    all_goals try (refine EW.eUnroll 6 ?_)
    all_goals try (refine EW.nm ?_)
    iterate 6 (
      all_goals try ((first | refine EW.eRegL (id := 13) ?_ | refine EW.eReg (id := 13) ?_); refine EW.eMove ?_; refine EW.eMove ?_; refine EW.eRem ?_; refine EW.eLss ?_; refine EW.eEnd ?_; (try refine EW.nm ?_))
      all_goals try (first | refine EW.eYes (x := Operand.tmp 34) ?_ | refine EW.eNo (x := Operand.tmp 34) ?_ | (refine EW.eCond (x := Operand.tmp 34) ?_ ?_ <;> (intro hb hb'; (try dsimp only at hb'); (try (exfalso; first | omega | with_reducible exact absurd rfl hb')))))
      all_goals try (refine EW.nm ?_)
      all_goals try ((first | refine EW.eRegL (id := 15) ?_ | refine EW.eReg (id := 15) ?_); refine EW.eMove ?_; refine EW.eQuo ?_; refine EW.eAssign ?_; refine EW.eEnd ?_; (try refine EW.nm ?_))
      all_goals try ((first | refine EW.eRegL (id := 14) ?_ | refine EW.eReg (id := 14) ?_); refine EW.eMove ?_; refine EW.eAdd ?_; refine EW.eAssign ?_; refine EW.eEnd ?_; (try refine EW.nm ?_)))
    all_goals try ((first | refine EW.eRegL (id := 16) ?_ | refine EW.eReg (id := 16) ?_); refine EW.eFieldAddr (k := 20) ?_; refine EW.eIndexAddr (z := 1) ?_; refine EW.eLoad1 ?_; refine EW.eMove ?_; refine EW.eRem ?_; refine EW.eAdd ?_; refine EW.eFieldAddr (k := 20) ?_; refine EW.eIndexAddr (z := 1) ?_; (first | refine EW.eStoreW (k := 1) ?_ | refine EW.eStore (k := 1) ?_); refine EW.eEnd ?_; (try refine EW.nm ?_))
    all_goals try ((first | refine EW.eRegL (id := 17) ?_ | refine EW.eReg (id := 17) ?_); refine EW.eLoadA (k := 21) ?_; refine EW.eLoadA (k := 21) ?_; fail "no contract of mullion/mullionref02.more"; (first | refine EW.eStoreW (k := 21) ?_ | refine EW.eStore (k := 21) ?_); refine EW.eEnd ?_; (try refine EW.nm ?_))
    all_goals try ((first | refine EW.eRegL (id := 18) ?_ | refine EW.eReg (id := 18) ?_); refine EW.eLoadA (k := 21) ?_; refine EW.eLoadA (k := 21) ?_; fail "no contract of mullion/mullionref02.less"; refine EW.eNot ?_; refine EW.eEnd ?_; (try refine EW.nm ?_))
    all_goals try (first | refine EW.eYes (x := Operand.tmp 53) ?_ | refine EW.eNo (x := Operand.tmp 53) ?_ | (refine EW.eCond (x := Operand.tmp 53) ?_ ?_ <;> (intro hb hb'; (try dsimp only at hb'); (try (exfalso; first | omega | with_reducible exact absurd rfl hb')))))
    all_goals try (refine EW.nm ?_)
    all_goals try ((first | refine EW.eRegL (id := 19) ?_ | refine EW.eReg (id := 19) ?_); refine EW.eLoadA (k := 21) ?_; refine EW.eLoadA (k := 21) ?_; fail "no contract of mullion/mullionref02.away"; (first | refine EW.eStoreW (k := 21) ?_ | refine EW.eStore (k := 21) ?_); refine EW.eEnd ?_; (try refine EW.nm ?_))
    all_goals try ((first | refine EW.eRegL (id := 20) ?_ | refine EW.eReg (id := 20) ?_); refine EW.eFieldAddr (k := 20) ?_; refine EW.eIndexAddr (z := 1) ?_; refine EW.eLoad1 ?_; refine EW.eAdd ?_; refine EW.eFieldAddr (k := 20) ?_; refine EW.eIndexAddr (z := 1) ?_; (first | refine EW.eStoreW (k := 1) ?_ | refine EW.eStore (k := 1) ?_); refine EW.eEnd ?_; (try refine EW.nm ?_))
    all_goals try ((first | refine EW.eRegL (id := 9) ?_ | refine EW.eReg (id := 9) ?_); refine EW.eMove ?_; refine EW.eSub ?_; refine EW.eAssign ?_; refine EW.eEnd ?_; (try refine EW.nm ?_)))
  all_goals try ((first | refine EW.eRegL (id := 21) ?_ | refine EW.eReg (id := 21) ?_); refine EW.eFieldAddr (k := 1) ?_; refine EW.eLoad1 ?_; refine EW.eFieldAddr (k := 1) ?_; refine EW.eLoad1 ?_; refine EW.eNeqB ?_; refine EW.eMove ?_)
  all_goals try (refine EW.eGuard (j := 5) (o := ⟨some 69, _, _, _, _, _⟩) ?_ ?_ <;> (intro hb hb'; (try dsimp only at hb'); (try (exfalso; first | omega | with_reducible exact absurd rfl hb'))))
  all_goals try ((first | refine EW.eSkipT (j := 5) ?_ | refine EW.eSkipU (j := 5) ?_ | refine EW.eLoadA (k := 21) ?_); (first | refine EW.eSkipT (j := 5) ?_ | refine EW.eSkipU (j := 5) ?_ | refine EW.eCall Try.call34 (fun w => rnone _ 0 w (by decide)) ?_); (first | refine EW.eSkipT (j := 5) ?_ | refine EW.eSkipU (j := 5) ?_ | refine EW.eNot ?_); (first | refine EW.ePickT ?_ | refine EW.ePickF ?_); refine EW.eEnd ?_; (try refine EW.nm ?_))
  all_goals try (first | refine EW.eYes (x := Operand.tmp 72) ?_ | refine EW.eNo (x := Operand.tmp 72) ?_ | (refine EW.eCond (x := Operand.tmp 72) ?_ ?_ <;> (intro hb hb'; (try dsimp only at hb'); (try (exfalso; first | omega | with_reducible exact absurd rfl hb')))))
  all_goals try (refine EW.nm ?_)
  all_goals try ((first | refine EW.eRegL (id := 22) ?_ | refine EW.eReg (id := 22) ?_); refine EW.eLoadA (k := 21) ?_; fail "no contract of mullion/mullionref02.Of"; fail "no contract of mullion/mullionref02.Add"; (first | refine EW.eStoreW (k := 21) ?_ | refine EW.eStore (k := 21) ?_); refine EW.eDraw ?_; (try refine EW.nm ?_))
  all_goals try ((first | refine EW.eRegL (id := 23) ?_ | refine EW.eReg (id := 23) ?_); refine EW.eFieldAddr (k := 1) ?_; refine EW.eLoad1 ?_; refine EW.eFieldAddr (k := 1) ?_; refine EW.eLoad1 ?_; refine EW.eNeqB ?_; refine EW.eMove ?_)
  all_goals try (refine EW.eGuard (j := 5) (o := ⟨some 82, _, _, _, _, _⟩) ?_ ?_ <;> (intro hb hb'; (try dsimp only at hb'); (try (exfalso; first | omega | with_reducible exact absurd rfl hb'))))
  all_goals try ((first | refine EW.eSkipT (j := 5) ?_ | refine EW.eSkipU (j := 5) ?_ | refine EW.eLoadA (k := 21) ?_); (first | refine EW.eSkipT (j := 5) ?_ | refine EW.eSkipU (j := 5) ?_ | refine EW.eCall Try.call34 (fun w => rnone _ 0 w (by decide)) ?_); (first | refine EW.eSkipT (j := 5) ?_ | refine EW.eSkipU (j := 5) ?_ | refine EW.eNot ?_); (first | refine EW.ePickT ?_ | refine EW.ePickF ?_); refine EW.eFieldAddr (k := 1) ?_; (first | refine EW.eStoreW (k := 1) ?_ | refine EW.eStore (k := 1) ?_); refine EW.eEnd ?_; (try refine EW.nm ?_))
  all_goals try ((first | refine EW.eRegL (id := 24) ?_ | refine EW.eReg (id := 24) ?_); refine EW.eLoadA (k := 21) ?_; refine EW.eLoadA (k := 21) ?_; refine EW.eLoadA (k := 21) ?_; refine EW.eLoadA (k := 21) ?_; fail "no contract of mullion/mullionref02.Mul"; fail "no contract of mullion/mullionref02.Neg"; fail "no contract of mullion/mullionref02.Add"; (first | refine EW.eStoreW (k := 21) ?_ | refine EW.eStore (k := 21) ?_); (first | refine EW.eStoreW (k := 21) ?_ | refine EW.eStore (k := 21) ?_); refine EW.eAssign ?_; refine EW.eDraw ?_; (try refine EW.nm ?_))
  all_goals (refine EW.eLeaveP ?_; intro w' hW; refine ⟨?_, hW⟩)
  all_goals rfl
end Go.Proofs.Ytbjogekhedglgaa
