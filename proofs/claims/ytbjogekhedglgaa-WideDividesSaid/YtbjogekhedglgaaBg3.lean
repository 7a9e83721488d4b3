/- The document's numbers: sums, the other sign, products, powers of 2, which is less, quotients. -/
import Derived.Test.YtbjogekhedglgaaBg2
namespace Go.Proofs.Ytbjogekhedglgaa
set_option linter.unusedSimpArgs false
set_option linter.unusedVariables false
open Go.RowKit EV
open SX (Wr Tv Qu Rm Sh Is conjP eqs_iff eqs_false)
open EW (PlL PlT PlV PlVs LfV Mm Bt Opn GV)
set_option maxRecDepth 20000
abbrev BZ (z : Int) : Value := Bg (decide (z < 0)) z.natAbs
theorem bg_eq {b c : Bool} {n m : Nat} (h : b = c) (h' : n = m) : Ending.returned (Bg b n) = Ending.returned (Bg c m) := by rw [h, h']
theorem W20_eq : W20 = 65536 ^ 20 := rfl
theorem suml_in {x y : Nat} (h : x + y < W20) : suml x y 20 = x + y := suml_all x y 20 h
theorem difl_in {x y : Nat} (hx : x < W20) (h : y ≤ x) : difl x y 20 = x - y := difl_all x y 20 hx h
theorem rmore_in (b b' : Bool) (x y : Nat) (w : World) (h : x + y < W20) : Calls Try.prog 36 #[Bg b x, Bg b' y] w fun e w' => e = .returned (Bg false (x + y)) ∧ Below w.heap.size w w' := by
  have := rmore b b' x y w; rwa [suml_in h] at this
theorem raway_in (b b' : Bool) (x y : Nat) (w : World) (hx : x < W20) (h : y ≤ x) : Calls Try.prog 38 #[Bg b x, Bg b' y] w fun e w' => e = .returned (Bg false (x - y)) ∧ Below w.heap.size w w' := by
  have := raway b b' x y w; rwa [difl_in hx h] at this
theorem raddB (b b' : Bool) (n m : Nat) (w : World) (h : n + m < W20) : Calls Try.prog 15 #[Bg b n, Bg b' m] w fun e w' => e = .returned (if b = b' then Bg (b && !decide (n + m = 0)) (n + m) else if n < m then Bg (b' && !decide (m - n = 0)) (m - n) else Bg (b && !decide (n - m = 0)) (n - m)) ∧ Below w.heap.size w w' := by
  refine EW.eEnter Try.func15 rfl Try.ntmps15 ?_
  all_goals try (refine EW.nm ?_)
  all_goals try ((first | refine EW.eRegL (id := 0) ?_ | refine EW.eReg (id := 0) ?_); refine EW.eBox ?_; refine EW.eBox ?_; refine EW.eAlloc ?_; refine EW.eEnd ?_; (try refine EW.nm ?_))
  all_goals try ((first | refine EW.eRegL (id := 1) ?_ | refine EW.eReg (id := 1) ?_); refine EW.eAlloc ?_; refine EW.eEnd ?_; (try refine EW.nm ?_))
  all_goals try ((first | refine EW.eRegL (id := 4) ?_ | refine EW.eReg (id := 4) ?_); refine EW.eFieldAddr (k := 1) ?_; refine EW.eLoad1 ?_; refine EW.eFieldAddr (k := 1) ?_; refine EW.eLoad1 ?_; refine EW.eEqlB ?_; refine EW.eAssign ?_; refine EW.eEnd ?_; (try refine EW.nm ?_))
  all_goals try (first | refine EW.eYes (x := Operand.tmp 12) ?_ | refine EW.eNo (x := Operand.tmp 12) ?_ | (refine EW.eCond (x := Operand.tmp 12) ?_ ?_ <;> (intro hb hb'; (try dsimp only at hb'); (try (exfalso; first | omega | with_reducible exact absurd rfl hb')))))
  all_goals try (refine EW.nm ?_)
  all_goals try ((first | refine EW.eRegL (id := 5) ?_ | refine EW.eReg (id := 5) ?_); refine EW.eLoadA (k := 21) ?_; refine EW.eLoadA (k := 21) ?_; refine EW.eCall Try.call36 (fun w => rmore_in _ _ n m w h) ?_; (first | refine EW.eStoreW (k := 21) ?_ | refine EW.eStore (k := 21) ?_); refine EW.eEnd ?_; (try refine EW.nm ?_))
  all_goals try ((first | refine EW.eRegL (id := 6) ?_ | refine EW.eReg (id := 6) ?_); refine EW.eFieldAddr (k := 1) ?_; refine EW.eLoad1 ?_; refine EW.eFieldAddr (k := 1) ?_; (first | refine EW.eStoreW (k := 1) ?_ | refine EW.eStore (k := 1) ?_); refine EW.eEnd ?_; (try refine EW.nm ?_))
  all_goals try ((first | refine EW.eRegL (id := 7) ?_ | refine EW.eReg (id := 7) ?_); refine EW.eLoadA (k := 21) ?_; refine EW.eLoadA (k := 21) ?_; refine EW.eCall Try.call37 (fun w => rless _ _ n m w (by omega) (by omega)) ?_; refine EW.eAssign ?_; refine EW.eEnd ?_; (try refine EW.nm ?_))
  all_goals try (first | refine EW.eYes (x := Operand.tmp 24) ?_ | refine EW.eNo (x := Operand.tmp 24) ?_ | (refine EW.eCond (x := Operand.tmp 24) ?_ ?_ <;> (intro hb hb'; (try dsimp only at hb'); (try (exfalso; first | omega | with_reducible exact absurd rfl hb')))))
  all_goals try (refine EW.nm ?_)
  all_goals try ((first | refine EW.eRegL (id := 8) ?_ | refine EW.eReg (id := 8) ?_); refine EW.eLoadA (k := 21) ?_; refine EW.eLoadA (k := 21) ?_; (first | refine EW.eCall Try.call38 (fun w => raway_in _ _ n m w (by omega) (by omega)) ?_ | refine EW.eCall Try.call38 (fun w => raway_in _ _ m n w (by omega) (by omega)) ?_); (first | refine EW.eStoreW (k := 21) ?_ | refine EW.eStore (k := 21) ?_); refine EW.eEnd ?_; (try refine EW.nm ?_))
  all_goals try ((first | refine EW.eRegL (id := 9) ?_ | refine EW.eReg (id := 9) ?_); refine EW.eFieldAddr (k := 1) ?_; refine EW.eLoad1 ?_; refine EW.eFieldAddr (k := 1) ?_; (first | refine EW.eStoreW (k := 1) ?_ | refine EW.eStore (k := 1) ?_); refine EW.eEnd ?_; (try refine EW.nm ?_))
  all_goals try ((first | refine EW.eRegL (id := 2) ?_ | refine EW.eReg (id := 2) ?_); refine EW.eLoadA (k := 21) ?_; refine EW.eLoadA (k := 21) ?_; (first | refine EW.eCall Try.call38 (fun w => raway_in _ _ n m w (by omega) (by omega)) ?_ | refine EW.eCall Try.call38 (fun w => raway_in _ _ m n w (by omega) (by omega)) ?_); (first | refine EW.eStoreW (k := 21) ?_ | refine EW.eStore (k := 21) ?_); refine EW.eEnd ?_; (try refine EW.nm ?_))
  all_goals try ((first | refine EW.eRegL (id := 3) ?_ | refine EW.eReg (id := 3) ?_); refine EW.eFieldAddr (k := 1) ?_; refine EW.eLoad1 ?_; refine EW.eFieldAddr (k := 1) ?_; (first | refine EW.eStoreW (k := 1) ?_ | refine EW.eStore (k := 1) ?_); refine EW.eEnd ?_; (try refine EW.nm ?_))
  all_goals try ((first | refine EW.eRegL (id := 10) ?_ | refine EW.eReg (id := 10) ?_); refine EW.eLoadA (k := 21) ?_; (first | refine EW.eCall Try.call34 (fun w => rnone _ (n + m) w (by omega)) ?_ | refine EW.eCall Try.call34 (fun w => rnone _ (n - m) w (by omega)) ?_ | refine EW.eCall Try.call34 (fun w => rnone _ (m - n) w (by omega)) ?_); refine EW.eEnd ?_; (try refine EW.nm ?_))
  all_goals try (first | refine EW.eYes (x := Operand.tmp 35) ?_ | refine EW.eNo (x := Operand.tmp 35) ?_ | (refine EW.eCond (x := Operand.tmp 35) ?_ ?_ <;> (intro hb hb'; (try dsimp only at hb'); (try (exfalso; first | omega | with_reducible exact absurd rfl hb')))))
  all_goals try (refine EW.nm ?_)
  all_goals try ((first | refine EW.eRegL (id := 11) ?_ | refine EW.eReg (id := 11) ?_); refine EW.eFieldAddr (k := 1) ?_; (first | refine EW.eStoreW (k := 1) ?_ | refine EW.eStore (k := 1) ?_); refine EW.eEnd ?_; (try refine EW.nm ?_))
  all_goals try ((first | refine EW.eRegL (id := 12) ?_ | refine EW.eReg (id := 12) ?_); refine EW.eLoadA (k := 21) ?_; (first | refine EW.eStoreW (k := 21) ?_ | refine EW.eStore (k := 21) ?_); refine EW.eEnd ?_; (try refine EW.nm ?_))
  all_goals (refine EW.eLeaveP ?_; intro w' hW; refine ⟨?_, hW⟩)
  all_goals (first | rw [if_pos (by assumption)] | (rw [if_neg (by assumption)]; first | rw [if_pos (by omega)] | rw [if_neg (by omega)]))
  all_goals (first | rw [decide_eq_true (by omega)] | rw [decide_eq_false (by omega)])
  all_goals simp
theorem radd (x y : Int) (w : World) (h : x.natAbs + y.natAbs < W20) : Calls Try.prog 15 #[BZ x, BZ y] w fun e w' => e = .returned (BZ (x + y)) ∧ Below w.heap.size w w' := by
  refine (raddB _ _ _ _ w h).mono ?_
  rintro e w' ⟨rfl, hb⟩
  refine ⟨?_, hb⟩
  have key : ∀ {b c : Bool} {n m : Nat}, b = c → n = m → Ending.returned (Bg b n) = Ending.returned (Bg c m) := by rintro b c n m rfl rfl; rfl
  split
  · rename_i h1
    rw [decide_eq_decide] at h1
    refine key ?_ (by omega)
    rw [Bool.eq_iff_iff]; simp; omega
  · rename_i h1
    rw [decide_eq_decide] at h1
    split
    · refine key ?_ (by omega)
      rw [Bool.eq_iff_iff]; simp; omega
    · refine key ?_ (by omega)
      rw [Bool.eq_iff_iff]; simp; omega
theorem rnegB (b : Bool) (n : Nat) (w : World) (h : n < W20) : Calls Try.prog 17 #[Bg b n] w fun e w' => e = .returned (Bg (!b && !decide (n = 0)) n) ∧ Below w.heap.size w w' := by
  refine EW.eEnter Try.func17 rfl Try.ntmps17 ?_
  all_goals try (refine EW.nm ?_)
  all_goals try ((first | refine EW.eRegL (id := 0) ?_ | refine EW.eReg (id := 0) ?_); refine EW.eBox ?_; refine EW.eAlloc ?_; refine EW.eEnd ?_; (try refine EW.nm ?_))
  all_goals try ((first | refine EW.eRegL (id := 1) ?_ | refine EW.eReg (id := 1) ?_); refine EW.eFieldAddr (k := 1) ?_; refine EW.eLoad1 ?_; refine EW.eNot ?_; refine EW.eMove ?_)
  all_goals try (refine EW.eGuard (j := 3) (o := ⟨some 7, _, _, _, _, _⟩) ?_ ?_ <;> (intro hb hb'; (try dsimp only at hb'); (try (exfalso; first | omega | with_reducible exact absurd rfl hb'))))
  all_goals try ((first | refine EW.eSkipT (j := 3) ?_ | refine EW.eSkipU (j := 3) ?_ | refine EW.eLoadA (k := 21) ?_); (first | refine EW.eSkipT (j := 3) ?_ | refine EW.eSkipU (j := 3) ?_ | refine EW.eCall Try.call34 (fun w => rnone _ n w h) ?_); (first | refine EW.eSkipT (j := 3) ?_ | refine EW.eSkipU (j := 3) ?_ | refine EW.eNot ?_); (first | refine EW.ePickT ?_ | refine EW.ePickF ?_); refine EW.eFieldAddr (k := 1) ?_; (first | refine EW.eStoreW (k := 1) ?_ | refine EW.eStore (k := 1) ?_); refine EW.eEnd ?_; (try refine EW.nm ?_))
  all_goals try ((first | refine EW.eRegL (id := 2) ?_ | refine EW.eReg (id := 2) ?_); refine EW.eLoadA (k := 21) ?_; (first | refine EW.eStoreW (k := 21) ?_ | refine EW.eStore (k := 21) ?_); refine EW.eEnd ?_; (try refine EW.nm ?_))
  all_goals (refine EW.eLeaveP ?_; intro w' hW; refine ⟨?_, hW⟩)
  all_goals simp [*]
theorem rneg (x : Int) (w : World) (h : x.natAbs < W20) : Calls Try.prog 17 #[BZ x] w fun e w' => e = .returned (BZ (-x)) ∧ Below w.heap.size w w' := by
  have := rnegB (decide (x < 0)) x.natAbs w h
  have e : (!decide (x < 0) && !decide (x.natAbs = 0)) = decide (-x < 0) := by rw [Bool.eq_iff_iff]; simp; omega
  rw [e] at this
  show Calls _ _ _ _ fun e w' => e = .returned (Bg (decide (-x < 0)) (-x).natAbs) ∧ _
  rw [Int.natAbs_neg]; exact this

structure MS (x y i : Nat) where
  j : Nat
  Z : Nat
  c : Nat
  hj : j ≤ 9
  h : MulI x y i j Z c
theorem mul_z (Z k a p q c : Nat) : big false (setD Z k ((((a : Nat) : Int) + ((p : Nat) : Int) * ((q : Nat) : Int) + ((c : Nat) : Int)) % 65536).toNat) = big false (setD Z k ((a + p * q + c) % 65536)) := by
  congr 2
theorem mul_c (a p q c : Nat) : (((a : Nat) : Int) + ((p : Nat) : Int) * ((q : Nat) : Int) + ((c : Nat) : Int)) / 65536 = (((a + p * q + c) / 65536 : Nat) : Int) := by
  rw [← Int.natCast_mul]; omega
theorem mul_row {x y i Z c : Nat} (h : MulI x y i 9 Z c) (hy : y < 65536 ^ 9) : big false (setD Z (i + 9) ((c : Nat) : Int).toNat) = big false (x % 65536 ^ (i + 1) * y) := by
  rw [Int.toNat_natCast, mulI_row h hy]
theorem dg_prod (x i y j : Nat) : 0 ≤ ((dg x i : Nat) : Int) * ((dg y j : Nat) : Int) ∧ ((dg x i : Nat) : Int) * ((dg y j : Nat) : Int) ≤ 4294836225 := by
  have h2 := dg_lt x i
  have h3 := dg_lt y j
  have h4 : dg x i * dg y j ≤ 65535 * 65535 := Nat.mul_le_mul (by omega) (by omega)
  rw [← Int.natCast_mul]; omega
theorem prod_in {x y : Nat} (hx : x < 65536 ^ 9) (hy : y < 65536 ^ 9) : x * y < W20 :=
  Nat.lt_trans (Nat.mul_lt_mul'' hx hy) (by decide)
set_option maxHeartbeats 1000000 in
theorem rmul (b b' : Bool) (x y : Nat) (w : World) (hx : x < 65536 ^ 9) (hy : y < 65536 ^ 9) : Calls Try.prog 11 #[Bg b x, Bg b' y] w fun e w' => e = .returned (Bg (b != b' && !decide (x * y = 0)) (x * y)) ∧ Below w.heap.size w w' := by
  have hxy := prod_in hx hy
  refine EW.eEnter Try.func11 rfl Try.ntmps11 ?_
  all_goals try (refine EW.nm ?_)
  all_goals try ((first | refine EW.eRegL (id := 0) ?_ | refine EW.eReg (id := 0) ?_); refine EW.eBox ?_; refine EW.eBox ?_; refine EW.eAlloc ?_; refine EW.eEnd ?_; (try refine EW.nm ?_))
  all_goals try ((first | refine EW.eRegL (id := 1) ?_ | refine EW.eReg (id := 1) ?_); refine EW.eAlloc ?_; refine EW.eEnd ?_; (try refine EW.nm ?_))
  all_goals (refine EW.eToW 40 true (big false 0) ?_)
  all_goals try ((first | refine EW.eRegL (id := 2) ?_ | refine EW.eReg (id := 2) ?_); refine EW.eAssign ?_; refine EW.eEnd ?_; (try refine EW.nm ?_))
  all_goals first | (fail_if_success (refine EW.eUnroll 1 ?_)) | (refine EW.eLoopD [6, 7, 8, 9, 10, 11, 12, 13, 14, 15, 16, 17, 18, 19, 20, 21, 22, 23, 24, 25, 26, 27, 28, 29, 30, 31, 32, 33, 34, 35, 36, 37, 38, 39, 40, 41, 42, 43, 44, 45, 46, 47, 48, 49] 1000000 (fun j : {i : Nat // i ≤ 9} => [(.t 6, .v (.c (.v (.int .i64 (j.1 : Int))))), (.b 40, .b (.w true (big false (x % 65536 ^ j.1 * y))))]) (fun j => 9 - j.1) (⟨0, by omega⟩) (by ((repeat (first | exact EW.subW.nil | refine EW.subW.cons rfl ?_ | refine EW.subW.conv rfl ?_ (by first | exact EW.kvW (mul_row hM hy) | exact EW.kvW (by simp [Nat.mod_one])) | refine EW.subW.conv rfl ?_)); (first | done | fail))) ?_; rintro hcl3 ⟨i, hi⟩; (try dsimp only))
  all_goals try (refine EW.nm ?_)
  all_goals try ((first | refine EW.eRegL (id := 3) ?_ | refine EW.eReg (id := 3) ?_); refine EW.eMove ?_; refine EW.eLss ?_; refine EW.eEnd ?_; (try refine EW.nm ?_))
  all_goals try (first | refine EW.eYes (x := Operand.tmp 11) ?_ | refine EW.eNo (x := Operand.tmp 11) ?_ | (refine EW.eCond (x := Operand.tmp 11) ?_ ?_ <;> (intro hb hb'; (try dsimp only at hb'); (try (exfalso; first | omega | with_reducible exact absurd rfl hb')))))
  all_goals try (refine EW.nm ?_)
  all_goals try ((first | refine EW.eRegL (id := 5) ?_ | refine EW.eReg (id := 5) ?_); refine EW.eAssign ?_; refine EW.eEnd ?_; (try refine EW.nm ?_))
  all_goals try ((first | refine EW.eRegL (id := 6) ?_ | refine EW.eReg (id := 6) ?_); refine EW.eAssign ?_; refine EW.eEnd ?_; (try refine EW.nm ?_))
  all_goals first | (fail_if_success (refine EW.eUnroll 1 ?_)) | (refine EW.eLoopD [7, 8, 9, 14, 15, 16, 17, 18, 19, 20, 21, 22, 23, 24, 25, 26, 27, 28, 29, 30, 31, 32, 33, 34, 35, 36, 37, 38, 39, 40, 41, 42, 43, 44] 1000000 (fun s : MS x y i => [(.t 8, .v (.c (.v (.int .i64 (s.j : Int))))), (.t 7, .v (.c (.v (.int .u64 (s.c : Int))))), (.b 40, .b (.w true (big false s.Z)))]) (fun s => 9 - s.j) (⟨0, x % 65536 ^ i * y, 0, by omega, mulI_first x y i hy⟩) (by ((repeat (first | exact EW.subW.nil | refine EW.subW.cons rfl ?_ | refine EW.subW.conv rfl ?_ (by first | exact EW.kvW (mul_z _ _ _ _ _ _) | exact EW.kvI (mul_c _ _ _ _)) | refine EW.subW.conv rfl ?_)); (first | done | fail))) ?_; rintro hcl7 ⟨j, Z, c, hj, hM⟩; (try dsimp only))
  all_goals try (refine EW.nm ?_)
  all_goals try ((first | refine EW.eRegL (id := 7) ?_ | refine EW.eReg (id := 7) ?_); refine EW.eMove ?_; refine EW.eLss ?_; refine EW.eEnd ?_; (try refine EW.nm ?_))
  all_goals try (first | refine EW.eYes (x := Operand.tmp 15) ?_ | refine EW.eNo (x := Operand.tmp 15) ?_ | (refine EW.eCond (x := Operand.tmp 15) ?_ ?_ <;> (intro hb hb'; (try dsimp only at hb'); (try (exfalso; first | omega | with_reducible exact absurd rfl hb')))))
  all_goals try (refine EW.nm ?_)
  all_goals (try (have hd1 := dg_lt Z (i + j); have hd2 := dg_prod x i y j; have hd3 := hM.c))
  all_goals try ((first | refine EW.eRegL (id := 9) ?_ | refine EW.eReg (id := 9) ?_); refine EW.eMove ?_; refine EW.eMove ?_; refine EW.eAdd ?_; refine EW.eFieldAddr (k := 20) ?_; refine EW.eIndexAddr (z := 1) ?_; refine EW.eLoad1 ?_; refine EW.eMove ?_; refine EW.eFieldAddr (k := 20) ?_; refine EW.eIndexAddr (z := 1) ?_; refine EW.eLoad1 ?_; refine EW.eMove ?_; refine EW.eFieldAddr (k := 20) ?_; refine EW.eIndexAddr (z := 1) ?_; refine EW.eLoad1 ?_; refine EW.eMul ?_; refine EW.eAdd ?_; refine EW.eMove ?_; refine EW.eAdd ?_; refine EW.eAssign ?_; refine EW.eDraw ?_; (try refine EW.nm ?_))
  all_goals try ((first | refine EW.eRegL (id := 10) ?_ | refine EW.eReg (id := 10) ?_); refine EW.eMove ?_; refine EW.eMove ?_; refine EW.eAdd ?_; refine EW.eMove ?_; refine EW.eRem ?_; refine EW.eFieldAddr (k := 20) ?_; refine EW.eIndexAddr (z := 1) ?_; (first | refine EW.eStoreW (k := 1) ?_ | refine EW.eStore (k := 1) ?_); refine EW.eEnd ?_; (try refine EW.nm ?_))
  all_goals try ((first | refine EW.eRegL (id := 11) ?_ | refine EW.eReg (id := 11) ?_); refine EW.eMove ?_; refine EW.eQuo ?_; refine EW.eAssign ?_; refine EW.eEnd ?_; (try refine EW.nm ?_))
  all_goals try ((first | refine EW.eRegL (id := 8) ?_ | refine EW.eReg (id := 8) ?_); refine EW.eMove ?_; refine EW.eAdd ?_; refine EW.eAssign ?_; refine EW.eEnd ?_; (try refine EW.nm ?_))
  all_goals first | (fail_if_success (with_reducible refine EW.isLater ?_)) | (refine EW.eLaterD (⟨j + 1, setD Z (i + j) ((dg Z (i + j) + dg x i * dg y j + c) % 65536), (dg Z (i + j) + dg x i * dg y j + c) / 65536, by omega, mulI_next hM (by omega)⟩) (by dsimp only; omega) (by ((repeat (first | exact EW.subW.nil | refine EW.subW.cons rfl ?_ | refine EW.subW.conv rfl ?_ (by first | exact EW.kvW (mul_z _ _ _ _ _ _) | exact EW.kvI (mul_c _ _ _ _)) | refine EW.subW.conv rfl ?_)); (first | done | fail))) hcl7)
  all_goals try (refine EW.nm ?_)
  all_goals (try (obtain rfl : j = 9 := (by omega); have hcc := hM.c))
  all_goals try ((first | refine EW.eRegL (id := 12) ?_ | refine EW.eReg (id := 12) ?_); refine EW.eMove ?_; refine EW.eAdd ?_; refine EW.eMove ?_; refine EW.eFieldAddr (k := 20) ?_; refine EW.eIndexAddr (z := 1) ?_; (first | refine EW.eStoreW (k := 1) ?_ | refine EW.eStore (k := 1) ?_); refine EW.eEnd ?_; (try refine EW.nm ?_))
  all_goals try ((first | refine EW.eRegL (id := 4) ?_ | refine EW.eReg (id := 4) ?_); refine EW.eMove ?_; refine EW.eAdd ?_; refine EW.eAssign ?_; refine EW.eEnd ?_; (try refine EW.nm ?_))
  all_goals first | (fail_if_success (with_reducible refine EW.isLater ?_)) | (refine EW.eLaterD (⟨i + 1, by omega⟩) (by dsimp only; omega) (by ((repeat (first | exact EW.subW.nil | refine EW.subW.cons rfl ?_ | refine EW.subW.conv rfl ?_ (by first | exact EW.kvW (mul_row hM hy) | exact EW.kvW (by simp [Nat.mod_one])) | refine EW.subW.conv rfl ?_)); (first | done | fail))) hcl3)
  all_goals try (refine EW.nm ?_)
  all_goals (try (obtain rfl : i = 9 := (by omega); rw [Nat.mod_eq_of_lt hx]))
  all_goals try ((first | refine EW.eRegL (id := 13) ?_ | refine EW.eReg (id := 13) ?_); refine EW.eFieldAddr (k := 1) ?_; refine EW.eLoad1 ?_; refine EW.eFieldAddr (k := 1) ?_; refine EW.eLoad1 ?_; refine EW.eNeqB ?_; refine EW.eMove ?_)
  all_goals try (refine EW.eGuard (j := 5) (o := ⟨some 56, _, _, _, _, _⟩) ?_ ?_ <;> (intro hb hb'; (try dsimp only at hb'); (try (exfalso; first | omega | with_reducible exact absurd rfl hb'))))
  all_goals try ((first | refine EW.eSkipT (j := 5) ?_ | refine EW.eSkipU (j := 5) ?_ | refine EW.eLoadA (k := 21) ?_); (first | refine EW.eSkipT (j := 5) ?_ | refine EW.eSkipU (j := 5) ?_ | refine EW.eCall Try.call34 (fun w => rnone false (x * y) w hxy) ?_); (first | refine EW.eSkipT (j := 5) ?_ | refine EW.eSkipU (j := 5) ?_ | refine EW.eNot ?_); (first | refine EW.ePickT ?_ | refine EW.ePickF ?_); refine EW.eFieldAddr (k := 1) ?_; (first | refine EW.eStoreW (k := 1) ?_ | refine EW.eStore (k := 1) ?_); refine EW.eEnd ?_; (try refine EW.nm ?_))
  all_goals try ((first | refine EW.eRegL (id := 14) ?_ | refine EW.eReg (id := 14) ?_); refine EW.eLoadA (k := 21) ?_; (first | refine EW.eStoreW (k := 21) ?_ | refine EW.eStore (k := 21) ?_); refine EW.eEnd ?_; (try refine EW.nm ?_))
  all_goals (refine EW.eLeaveP ?_; intro w' hW; refine ⟨?_, hW⟩)
  all_goals simp [*]
theorem rmulZ (x y : Int) (w : World) (hx : x.natAbs < 65536 ^ 9) (hy : y.natAbs < 65536 ^ 9) : Calls Try.prog 11 #[BZ x, BZ y] w fun e w' => e = .returned (BZ (x * y)) ∧ Below w.heap.size w w' := by
  have := rmul (decide (x < 0)) (decide (y < 0)) x.natAbs y.natAbs w hx hy
  rw [← Int.natAbs_mul] at this
  rwa [show (decide (x < 0) != decide (y < 0) && !decide ((x * y).natAbs = 0)) = decide (x * y < 0) from ?_] at this
  rw [Bool.eq_iff_iff]
  rcases Int.lt_trichotomy x 0 with h1 | h1 | h1
  · rcases Int.lt_trichotomy y 0 with h2 | h2 | h2
    · have := Int.mul_pos_of_neg_of_neg h1 h2; simp; omega
    · subst h2; simp
    · have := Int.mul_neg_of_neg_of_pos h1 h2; simp; omega
  · subst h1; simp
  · rcases Int.lt_trichotomy y 0 with h2 | h2 | h2
    · have := Int.mul_neg_of_pos_of_neg h1 h2; simp; omega
    · subst h2; simp
    · have := Int.mul_pos h1 h2; simp; omega
theorem two_r (n : Nat) : ((n : Int) / 16).toNat = n / 16 := by omega
theorem two_s {n i : Nat} (h : i < n % 16) : big false (setD (setD 0 (n / 16) (2 ^ i)) (n / 16) (((2 ^ i : Nat) : Int) * 2).toNat) = big false (setD 0 (n / 16) (2 ^ (i + 1))) := by
  have h2 : 2 ^ (i + 1) ≤ 2 ^ 15 := Nat.pow_le_pow_right (by decide) (by omega)
  have h3 : 2 ^ i < 65536 := Nat.lt_of_le_of_lt (Nat.pow_le_pow_right (by decide) (show i ≤ 15 by omega)) (by decide)
  congr 1
  rw [Nat.pow_succ] at *
  generalize 2 ^ i = p at *
  have e : ((p : Int) * 2).toNat = p * 2 := by omega
  rw [e]
  unfold setD
  rw [show dg (0 - dg 0 (n / 16) * 65536 ^ (n / 16) + p * 65536 ^ (n / 16)) (n / 16) = p from by
    have := dg_set (n := 0) (k := n / 16) h3 (n / 16)
    rw [if_pos rfl] at this; exact this]
  rw [dg_zero (n := 0) (by exact pB _)]
  simp
theorem two_pow (n : Nat) : setD 0 (n / 16) (2 ^ (n % 16)) = 2 ^ n := by
  unfold setD
  rw [dg_zero (n := 0) (by exact pB _), show (65536 : Nat) = 2 ^ 16 from by decide, ← Nat.pow_mul, Nat.zero_mul, Nat.zero_sub, Nat.zero_add, ← Nat.pow_add]
  congr 1; omega
theorem two_b {i n : Nat} (h : i < n % 16) : 0 ≤ ((2 ^ i : Nat) : Int) ∧ ((2 ^ i : Nat) : Int) * 2 < 65536 := by
  have : 2 ^ i ≤ 2 ^ 14 := Nat.pow_le_pow_right (by decide) (by omega)
  generalize 2 ^ i = p at *
  omega
theorem two_d {i n : Nat} (h : i < n % 16) : dg (setD 0 (n / 16) (2 ^ i)) (n / 16) = 2 ^ i := by
  have h3 : 2 ^ i < 65536 := Nat.lt_of_le_of_lt (Nat.pow_le_pow_right (by decide) (show i ≤ 15 by omega)) (by decide)
  rw [dg_set h3, if_pos rfl]
def twoI (k i : Nat) : Nat := setD 0 k (2 ^ i)
def pw (i : Nat) : Nat := 2 ^ i
theorem two_dg {i n k : Nat} (hk : k = n / 16) (h : i < n % 16) : dg (twoI k i) (n / 16) = pw i := by subst hk; exact two_d h
theorem two_dg' {i n k : Nat} (hk : k = n / 16) (h : i < n % 16) : dg (twoI k i) ((n : Int) / 16).toNat = pw i := by rw [two_r]; exact two_dg hk h
theorem two_bp {i n : Nat} (h : i < n % 16) : 0 ≤ ((pw i : Nat) : Int) ∧ ((pw i : Nat) : Int) * 2 < 65536 := two_b h
theorem two_step {n i k : Nat} (hk : k = n / 16) (h : i < n % 16) : big false (setD (twoI k i) (n / 16) (((pw i : Nat) : Int) * 2).toNat) = big false (twoI k (i + 1)) := by subst hk; exact two_s h
theorem two_step' {n i k : Nat} (hk : k = n / 16) (h : i < n % 16) : big false (setD (twoI k i) ((n : Int) / 16).toNat (((dg (twoI k i) ((n : Int) / 16).toNat : Nat) : Int) * 2).toNat) = big false (twoI k (i + 1)) := by
  rw [two_dg' hk h, two_r]; exact two_step hk h
theorem two_end {n k i : Nat} (hk : k = n / 16) (hi : i = n % 16) : twoI k i = 2 ^ n := by subst hk; subst hi; exact two_pow n
theorem rtwo (n : Nat) (w : World) (hn : n < 300) : Calls Try.prog 20 #[.int .i64 (n : Int)] w fun e w' => e = .returned (Bg false (2 ^ n)) ∧ Below w.heap.size w w' := by
  obtain ⟨k, hk⟩ : ∃ k, k = n / 16 := ⟨_, rfl⟩
  refine EW.eEnter Try.func20 rfl Try.ntmps20 ?_
  all_goals try (refine EW.nm ?_)
  all_goals try ((first | refine EW.eRegL (id := 0) ?_ | refine EW.eReg (id := 0) ?_); refine EW.eAlloc ?_; refine EW.eEnd ?_; (try refine EW.nm ?_))
  all_goals try ((first | refine EW.eRegL (id := 1) ?_ | refine EW.eReg (id := 1) ?_); refine EW.eAlloc ?_; refine EW.eEnd ?_; (try refine EW.nm ?_))
  all_goals (refine EW.eToW 20 true (big false 0) ?_)
  all_goals try ((first | refine EW.eRegL (id := 2) ?_ | refine EW.eReg (id := 2) ?_); refine EW.eMove ?_; refine EW.eQuo ?_; refine EW.eFieldAddr (k := 20) ?_; refine EW.eIndexAddr (z := 1) ?_; (first | refine EW.eStoreW (k := 1) ?_ | refine EW.eStore (k := 1) ?_); refine EW.eEnd ?_; (try refine EW.nm ?_))
  all_goals try ((first | refine EW.eRegL (id := 3) ?_ | refine EW.eReg (id := 3) ?_); refine EW.eAssign ?_; refine EW.eEnd ?_; (try refine EW.nm ?_))
  all_goals first | (fail_if_success (refine EW.eUnroll 1 ?_)) | (refine EW.eLoopD [4, 9, 10, 11, 12, 13, 14, 15, 16, 17, 18, 19, 20, 21, 22, 23, 24] 1000000 (fun j : {i : Nat // i ≤ n % 16} => [(.t 4, .v (.c (.v (.int .i64 (j.1 : Int))))), (.b 20, .b (.w true (big false (twoI k j.1))))]) (fun j => n % 16 - j.1) (⟨0, by omega⟩) (by ((repeat (first | exact EW.subW.nil | refine EW.subW.cons rfl ?_ | refine EW.subW.conv rfl ?_ (by first | exact EW.kvW (two_step' hk (by omega)) | exact EW.kvW (by rw [two_r, ← hk]; rfl)) | refine EW.subW.conv rfl ?_)); (first | done | fail))) ?_; rintro hcl4 ⟨i, hi⟩; (try dsimp only))
  all_goals try (refine EW.nm ?_)
  all_goals try ((first | refine EW.eRegL (id := 4) ?_ | refine EW.eReg (id := 4) ?_); refine EW.eMove ?_; refine EW.eMove ?_; refine EW.eRem ?_; refine EW.eLss ?_; refine EW.eEnd ?_; (try refine EW.nm ?_))
  all_goals try (first | refine EW.eYes (x := Operand.tmp 12) ?_ | refine EW.eNo (x := Operand.tmp 12) ?_ | (refine EW.eCond (x := Operand.tmp 12) ?_ ?_ <;> (intro hb hb'; (try dsimp only at hb'); (try (exfalso; first | omega | with_reducible exact absurd rfl hb')))))
  all_goals try (refine EW.nm ?_)
  all_goals (try (have hb1 : i < n % 16 := (by omega); have hb2 := two_bp hb1; have hb3 := two_dg' hk hb1))
  all_goals try ((first | refine EW.eRegL (id := 6) ?_ | refine EW.eReg (id := 6) ?_); refine EW.eMove ?_; refine EW.eQuo ?_; refine EW.eMove ?_; refine EW.eQuo ?_; refine EW.eFieldAddr (k := 20) ?_; refine EW.eIndexAddr (z := 1) ?_; refine EW.eLoad1 ?_; refine EW.eMul ?_; refine EW.eFieldAddr (k := 20) ?_; refine EW.eIndexAddr (z := 1) ?_; (first | refine EW.eStoreW (k := 1) ?_ | refine EW.eStore (k := 1) ?_); refine EW.eEnd ?_; (try refine EW.nm ?_))
  all_goals try ((first | refine EW.eRegL (id := 5) ?_ | refine EW.eReg (id := 5) ?_); refine EW.eMove ?_; refine EW.eAdd ?_; refine EW.eAssign ?_; refine EW.eEnd ?_; (try refine EW.nm ?_))
  all_goals first | (fail_if_success (with_reducible refine EW.isLater ?_)) | (refine EW.eLaterD (⟨i + 1, by omega⟩) (by dsimp only; omega) (by ((repeat (first | exact EW.subW.nil | refine EW.subW.cons rfl ?_ | refine EW.subW.conv rfl ?_ (by first | exact EW.kvW (two_step' hk (by omega)) | exact EW.kvW (by rw [two_r, ← hk]; rfl)) | refine EW.subW.conv rfl ?_)); (first | done | fail))) hcl4)
  all_goals try (refine EW.nm ?_)
  all_goals try ((first | refine EW.eRegL (id := 7) ?_ | refine EW.eReg (id := 7) ?_); refine EW.eLoadA (k := 21) ?_; (first | refine EW.eStoreW (k := 21) ?_ | refine EW.eStore (k := 21) ?_); refine EW.eEnd ?_; (try refine EW.nm ?_))
  all_goals (refine EW.eLeaveP ?_; intro w' hW; refine ⟨?_, hW⟩)
  all_goals rw [two_end hk (by omega)]
end Go.Proofs.Ytbjogekhedglgaa
