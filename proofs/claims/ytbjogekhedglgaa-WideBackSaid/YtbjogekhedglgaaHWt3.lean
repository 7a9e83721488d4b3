/- Package wide: Parse. -/
import Derived.Test.YtbjogekhedglgaaHWt2
namespace Go.Proofs.Ytbjogekhedglgaa
set_option linter.unusedSimpArgs false
set_option linter.unusedVariables false
open Go.RowKit EV
open SX (Wr Tv Qu Rm Sh Is conjP eqs_iff eqs_false)
open EW (PlL PlT PlV PlVs LfV Mm Bt Opn GV nums)
set_option maxRecDepth 20000
abbrev tS (l : List UInt8) : Value := .string ⟨l.toArray⟩
theorem U_neg (l : List Int) : U (45 :: l) = 45 :: U l := rfl
theorem wtext (z : Int) (w : World) (hz : In128 z) : Calls Try.prog 32 #[W2 z] w fun e w' => e = .returned (tS (U (tz z))) ∧ Below w.heap.size w w' := by
  have hb : XB z.natAbs (if z < 0 then w128 (-z) else z) := by
    by_cases h : z < 0
    · rw [if_pos h]; exact w128_bits hz h
    · rw [if_neg h]; exact pos_bits hz (by omega)
  have := wtext_any z z.natAbs w hz hb (nd_39 hz)
  by_cases h : z < 0
  · rw [if_pos h] at this; rw [tz_neg h, U_neg]; exact this
  · rw [if_neg h] at this; rw [tz_pos h]; exact this
theorem hasp_yes (l : List UInt8) (w : World) (hl : l.length ≤ 1000) : Calls Try.prog 56 #[tS (45 :: l), tS [45]] w fun e w' => e = .returned (.bool true) ∧ Below w.heap.size w w' := by
  refine EW.eEnter Try.func56 rfl Try.ntmps56 ?_
  all_goals try (refine EW.nm ?_)
  all_goals try ((first | refine EW.eRegL (id := 0) ?_ | refine EW.eReg (id := 0) ?_); refine EW.eAssign ?_; refine EW.eEnd ?_; (try refine EW.nm ?_))
  all_goals try ((first | refine EW.eRegL (id := 1) ?_ | refine EW.eReg (id := 1) ?_); refine EW.eMove ?_; refine EW.eLenT (m := l.length + 1) (hm := ⟨by simp⟩) ?_; refine EW.eMove ?_; refine EW.eLenT (m := 1) (hm := ⟨by simp⟩) ?_; refine EW.eGeq ?_; refine EW.eMove ?_)
  all_goals try (refine EW.eGuard (j := 5) (o := ⟨some 11, _, _, _, _, _⟩) ?_ ?_ <;> (intro hb hb'; (try dsimp only at hb'); (try (exfalso; first | omega | with_reducible exact absurd rfl hb'))))
  all_goals try ((first | refine EW.eSkipT (j := 5) ?_ | refine EW.eSkipU (j := 5) ?_ | refine EW.eMove ?_); (first | refine EW.eSkipT (j := 5) ?_ | refine EW.eSkipU (j := 5) ?_ | refine EW.eMove ?_); (first | refine EW.eSkipT (j := 5) ?_ | refine EW.eSkipU (j := 5) ?_ | refine EW.eLenT (m := 1) (hm := ⟨by simp⟩) ?_); (first | refine EW.eSkipT (j := 5) ?_ | refine EW.eSkipU (j := 5) ?_ | refine EW.eSubT (a := 45 :: l) (l := 0) (h := 1) (hb := by refine ⟨rfl, ⟨?_, ?_, rfl⟩, rfl⟩ <;> (try simp) <;> omega) ?_); (first | refine EW.eSkipT (j := 5) ?_ | refine EW.eSkipU (j := 5) ?_ | refine EW.eMove ?_); (first | refine EW.eSkipT (j := 5) ?_ | refine EW.eSkipU (j := 5) ?_ | refine EW.eStrEq (r := true) (hr' := ⟨by simp⟩) ?_); (first | refine EW.ePickT ?_ | refine EW.ePickF ?_); refine EW.eAssign ?_; refine EW.eEnd ?_; (try refine EW.nm ?_))
  all_goals (refine EW.eLeaveP ?_; intro w' hW; refine ⟨?_, hW⟩)
  all_goals rfl
theorem hasp_no (c : UInt8) (l : List UInt8) (w : World) (hl : l.length ≤ 1000) (hc : c ≠ 45) : Calls Try.prog 56 #[tS (c :: l), tS [45]] w fun e w' => e = .returned (.bool false) ∧ Below w.heap.size w w' := by
  refine EW.eEnter Try.func56 rfl Try.ntmps56 ?_
  all_goals try (refine EW.nm ?_)
  all_goals try ((first | refine EW.eRegL (id := 0) ?_ | refine EW.eReg (id := 0) ?_); refine EW.eAssign ?_; refine EW.eEnd ?_; (try refine EW.nm ?_))
  all_goals try ((first | refine EW.eRegL (id := 1) ?_ | refine EW.eReg (id := 1) ?_); refine EW.eMove ?_; refine EW.eLenT (m := l.length + 1) (hm := ⟨by simp⟩) ?_; refine EW.eMove ?_; refine EW.eLenT (m := 1) (hm := ⟨by simp⟩) ?_; refine EW.eGeq ?_; refine EW.eMove ?_)
  all_goals try (refine EW.eGuard (j := 5) (o := ⟨some 11, _, _, _, _, _⟩) ?_ ?_ <;> (intro hb hb'; (try dsimp only at hb'); (try (exfalso; first | omega | with_reducible exact absurd rfl hb'))))
  all_goals try ((first | refine EW.eSkipT (j := 5) ?_ | refine EW.eSkipU (j := 5) ?_ | refine EW.eMove ?_); (first | refine EW.eSkipT (j := 5) ?_ | refine EW.eSkipU (j := 5) ?_ | refine EW.eMove ?_); (first | refine EW.eSkipT (j := 5) ?_ | refine EW.eSkipU (j := 5) ?_ | refine EW.eLenT (m := 1) (hm := ⟨by simp⟩) ?_); (first | refine EW.eSkipT (j := 5) ?_ | refine EW.eSkipU (j := 5) ?_ | refine EW.eSubT (a := c :: l) (l := 0) (h := 1) (hb := by refine ⟨rfl, ⟨?_, ?_, rfl⟩, rfl⟩ <;> (try simp) <;> omega) ?_); (first | refine EW.eSkipT (j := 5) ?_ | refine EW.eSkipU (j := 5) ?_ | refine EW.eMove ?_); (first | refine EW.eSkipT (j := 5) ?_ | refine EW.eSkipU (j := 5) ?_ | refine EW.eStrEq (r := false) (hr' := ⟨by simpa using hc⟩) ?_); (first | refine EW.ePickT ?_ | refine EW.ePickF ?_); refine EW.eAssign ?_; refine EW.eEnd ?_; (try refine EW.nm ?_))
  all_goals (refine EW.eLeaveP ?_; intro w' hW; refine ⟨?_, hW⟩)
  all_goals rfl
theorem hasp_nil (w : World) : Calls Try.prog 56 #[tS [], tS [45]] w fun e w' => e = .returned (.bool false) ∧ Below w.heap.size w w' := by
  refine EW.eEnter Try.func56 rfl Try.ntmps56 ?_
  all_goals try (refine EW.nm ?_)
  all_goals try ((first | refine EW.eRegL (id := 0) ?_ | refine EW.eReg (id := 0) ?_); refine EW.eAssign ?_; refine EW.eEnd ?_; (try refine EW.nm ?_))
  all_goals try ((first | refine EW.eRegL (id := 1) ?_ | refine EW.eReg (id := 1) ?_); refine EW.eMove ?_; refine EW.eLenT (m := 0) (hm := ⟨by simp⟩) ?_; refine EW.eMove ?_; refine EW.eLenT (m := 1) (hm := ⟨by simp⟩) ?_; refine EW.eGeq ?_; refine EW.eMove ?_)
  all_goals try (refine EW.eGuard (j := 5) (o := ⟨some 11, _, _, _, _, _⟩) ?_ ?_ <;> (intro hb hb'; (try dsimp only at hb'); (try (exfalso; first | omega | with_reducible exact absurd rfl hb'))))
  all_goals try ((first | refine EW.eSkipT (j := 5) ?_ | refine EW.eSkipU (j := 5) ?_ | refine EW.eMove ?_); (first | refine EW.eSkipT (j := 5) ?_ | refine EW.eSkipU (j := 5) ?_ | refine EW.eMove ?_); (first | refine EW.eSkipT (j := 5) ?_ | refine EW.eSkipU (j := 5) ?_ | refine EW.eLenT ?_); (first | refine EW.eSkipT (j := 5) ?_ | refine EW.eSkipU (j := 5) ?_ | refine EW.eSliceT ?_); (first | refine EW.eSkipT (j := 5) ?_ | refine EW.eSkipU (j := 5) ?_ | refine EW.eMove ?_); (first | refine EW.eSkipT (j := 5) ?_ | refine EW.eSkipU (j := 5) ?_ | refine EW.eStrEq ?_); (first | refine EW.ePickT ?_ | refine EW.ePickF ?_); refine EW.eAssign ?_; refine EW.eEnd ?_; (try refine EW.nm ?_))
  all_goals (refine EW.eLeaveP ?_; intro w' hW; refine ⟨?_, hW⟩)
  all_goals rfl
theorem trim_yes (l : List UInt8) (w : World) (hl : l.length ≤ 1000) : Calls Try.prog 46 #[tS (45 :: l), tS [45]] w fun e w' => e = .returned (tS l) ∧ Below w.heap.size w w' := by
  have hP := fun w => hasp_yes l w hl
  have hI : ∀ w, Calls Try.prog 53 #[tS (45 :: l), tS [45]] w fun e w' => e = .returned (tS l) ∧ Below w.heap.size w w' := by
    intro w
    refine EW.eEnter Try.func53 rfl Try.ntmps53 ?_
    all_goals try (refine EW.nm ?_)
    all_goals try ((first | refine EW.eRegL (id := 0) ?_ | refine EW.eReg (id := 0) ?_); refine EW.eAssign ?_; refine EW.eEnd ?_; (try refine EW.nm ?_))
    all_goals try ((first | refine EW.eRegL (id := 1) ?_ | refine EW.eReg (id := 1) ?_); refine EW.eMove ?_; refine EW.eMove ?_; refine EW.eCall Try.call56 (fun w => hP w) ?_; refine EW.eEnd ?_; (try refine EW.nm ?_))
    all_goals try (first | refine EW.eYes (x := Operand.tmp 7) ?_ | refine EW.eNo (x := Operand.tmp 7) ?_ | (refine EW.eCond (x := Operand.tmp 7) ?_ ?_ <;> (intro hb hb'; (try dsimp only at hb'); (try (exfalso; first | omega | with_reducible exact absurd rfl hb')))))
    all_goals try (refine EW.nm ?_)
    all_goals try ((first | refine EW.eRegL (id := 2) ?_ | refine EW.eReg (id := 2) ?_); refine EW.eMove ?_; refine EW.eMove ?_; refine EW.eLenT (m := 1) (hm := ⟨by simp⟩) ?_; (refine EW.eSubT (a := 45 :: l) (l := 1) (h := l.length + 1) (hb := by refine ⟨rfl, rfl, ⟨?_, ?_, rfl⟩⟩ <;> (try simp) <;> omega) ?_); refine EW.eAssign ?_; refine EW.eEnd ?_; (try refine EW.nm ?_))
    all_goals try ((first | refine EW.eRegL (id := 3) ?_ | refine EW.eReg (id := 3) ?_); refine EW.eMove ?_; refine EW.eAssign ?_; refine EW.eEnd ?_; (try refine EW.nm ?_))
    all_goals (refine EW.eLeaveP ?_; intro w' hW; refine ⟨?_, hW⟩)
    all_goals simp
  refine EW.eEnter Try.func46 rfl Try.ntmps46 ?_
  all_goals try (refine EW.nm ?_)
  all_goals try ((first | refine EW.eRegL (id := 0) ?_ | refine EW.eReg (id := 0) ?_); refine EW.eAssign ?_; refine EW.eEnd ?_; (try refine EW.nm ?_))
  all_goals try ((first | refine EW.eRegL (id := 1) ?_ | refine EW.eReg (id := 1) ?_); refine EW.eMove ?_; refine EW.eMove ?_; refine EW.eCall Try.call53 (fun w => hI w) ?_; refine EW.eAssign ?_; refine EW.eEnd ?_; (try refine EW.nm ?_))
  all_goals (refine EW.eLeaveP ?_; intro w' hW; refine ⟨?_, hW⟩)
  all_goals rfl
theorem trim_no (l : List UInt8) (w : World) (hP : ∀ w, Calls Try.prog 56 #[tS l, tS [45]] w fun e w' => e = .returned (.bool false) ∧ Below w.heap.size w w') : Calls Try.prog 46 #[tS l, tS [45]] w fun e w' => e = .returned (tS l) ∧ Below w.heap.size w w' := by
  have hI : ∀ w, Calls Try.prog 53 #[tS l, tS [45]] w fun e w' => e = .returned (tS l) ∧ Below w.heap.size w w' := by
    intro w
    refine EW.eEnter Try.func53 rfl Try.ntmps53 ?_
    all_goals try (refine EW.nm ?_)
    all_goals try ((first | refine EW.eRegL (id := 0) ?_ | refine EW.eReg (id := 0) ?_); refine EW.eAssign ?_; refine EW.eEnd ?_; (try refine EW.nm ?_))
    all_goals try ((first | refine EW.eRegL (id := 1) ?_ | refine EW.eReg (id := 1) ?_); refine EW.eMove ?_; refine EW.eMove ?_; refine EW.eCall Try.call56 (fun w => hP w) ?_; refine EW.eEnd ?_; (try refine EW.nm ?_))
    all_goals try (first | refine EW.eYes (x := Operand.tmp 7) ?_ | refine EW.eNo (x := Operand.tmp 7) ?_ | (refine EW.eCond (x := Operand.tmp 7) ?_ ?_ <;> (intro hb hb'; (try dsimp only at hb'); (try (exfalso; first | omega | with_reducible exact absurd rfl hb')))))
    all_goals try (refine EW.nm ?_)
    all_goals try ((first | refine EW.eRegL (id := 2) ?_ | refine EW.eReg (id := 2) ?_); refine EW.eMove ?_; refine EW.eMove ?_; refine EW.eLenT ?_; refine EW.eSliceT ?_; refine EW.eAssign ?_; refine EW.eEnd ?_; (try refine EW.nm ?_))
    all_goals try ((first | refine EW.eRegL (id := 3) ?_ | refine EW.eReg (id := 3) ?_); refine EW.eMove ?_; refine EW.eAssign ?_; refine EW.eEnd ?_; (try refine EW.nm ?_))
    all_goals (refine EW.eLeaveP ?_; intro w' hW; refine ⟨?_, hW⟩)
    all_goals rfl
  refine EW.eEnter Try.func46 rfl Try.ntmps46 ?_
  all_goals try (refine EW.nm ?_)
  all_goals try ((first | refine EW.eRegL (id := 0) ?_ | refine EW.eReg (id := 0) ?_); refine EW.eAssign ?_; refine EW.eEnd ?_; (try refine EW.nm ?_))
  all_goals try ((first | refine EW.eRegL (id := 1) ?_ | refine EW.eReg (id := 1) ?_); refine EW.eMove ?_; refine EW.eMove ?_; refine EW.eCall Try.call53 (fun w => hI w) ?_; refine EW.eAssign ?_; refine EW.eEnd ?_; (try refine EW.nm ?_))
  all_goals (refine EW.eLeaveP ?_; intro w' hW; refine ⟨?_, hW⟩)
  all_goals rfl
theorem wr_i64 {n r : Int} (h0 : -9223372036854775808 ≤ r) (h1 : r < 9223372036854775808) (h : (n - r) % 18446744073709551616 = 0) : Wr .i64 n r := by
  refine ⟨?_⟩
  show (if (true && decide (n % 18446744073709551616 ≥ 9223372036854775808)) = true then n % 18446744073709551616 - 18446744073709551616 else n % 18446744073709551616) = r
  rw [Bool.true_and]
  by_cases hd : n % 18446744073709551616 ≥ 9223372036854775808
  · rw [if_pos (decide_eq_true hd)]; omega
  · rw [if_neg (by simpa using hd)]; omega
theorem wrap_cong (n : Int) : (n - IntKind.i64.wrap n) % 18446744073709551616 = 0 := by
  show (n - (if (true && decide (n % 18446744073709551616 ≥ 9223372036854775808)) = true then n % 18446744073709551616 - 18446744073709551616 else n % 18446744073709551616)) % 18446744073709551616 = 0
  split <;> omega
theorem wr_10 {X A : Int} (hX : In128 X) (hA : (X / 18446744073709551616 * 10 - A) % 18446744073709551616 = 0) : Wr .i64 (A + X % 18446744073709551616 * 10 / 18446744073709551616) (w128 (X * 10) / 18446744073709551616) := by
  have h := w128_bounds (X * 10)
  unfold In128 at h
  refine wr_i64 (by omega) (by omega) ?_
  obtain ⟨q, hq⟩ : ∃ q, w128 (X * 10) = X * 10 - 340282366920938463463374607431768211456 * q := ⟨(X * 10 + 170141183460469231731687303715884105728) / 340282366920938463463374607431768211456, by unfold w128; omega⟩
  have e : w128 (X * 10) / 18446744073709551616 = X / 18446744073709551616 * 10 + X % 18446744073709551616 * 10 / 18446744073709551616 - 18446744073709551616 * q := by
    rw [hq]
    obtain ⟨H, L, rfl, hL0, hL1⟩ : ∃ H L : Int, X = 18446744073709551616 * H + L ∧ 0 ≤ L ∧ L < 18446744073709551616 := ⟨X / 18446744073709551616, X % 18446744073709551616, by omega, by omega, by omega⟩
    rw [show (18446744073709551616 * H + L) / 18446744073709551616 = H by omega, show (18446744073709551616 * H + L) % 18446744073709551616 = L by omega]
    omega
  rw [e]
  generalize X % 18446744073709551616 * 10 / 18446744073709551616 = t at *
  generalize X / 18446744073709551616 = H at *
  omega
theorem lo_10 (X : Int) : X % 18446744073709551616 * 10 % 18446744073709551616 = w128 (X * 10) % 18446744073709551616 := by
  obtain ⟨q, hq⟩ : ∃ q, w128 (X * 10) = X * 10 - 340282366920938463463374607431768211456 * q := ⟨(X * 10 + 170141183460469231731687303715884105728) / 340282366920938463463374607431768211456, by unfold w128; omega⟩
  rw [hq]
  omega
theorem mul10 (X : Int) (w : World) : Calls Try.prog 40 #[.int .u64 (X % 18446744073709551616), .int .u64 10] w fun e w' => e = .returned (.tuple #[.int .u64 (X % 18446744073709551616 * 10 / 18446744073709551616), .int .u64 (w128 (X * 10) % 18446744073709551616)]) ∧ Below w.heap.size w w' := by
  have := mul64_any (X % 18446744073709551616) 10 w (by omega) (by omega) (by omega) (by omega)
  rwa [lo_10] at this
theorem small_in {c : Int} (h0 : 0 ≤ c) (h1 : c < 256) : In128 (c - 48) := by unfold In128; omega
theorem by_get {l : List Int} (hb : By l) {i : Nat} (h : i < l.length) : 0 ≤ l.getD i 0 ∧ l.getD i 0 < 256 := by
  refine hb _ ?_
  rw [List.getD_eq_getElem?_getD, List.getElem?_eq_getElem h]; exact List.getElem_mem h
theorem pv_w {l : List Int} {i : Nat} (h : i < l.length) {X : Int} (hX : X = w128 (pv l i)) : w128 (w128 (X * 10) + (l.getD i 0 - 48)) = w128 (pv l (i + 1)) := by
  rw [pv_succ h, hX, w128_mul10, w128_add]
set_option maxHeartbeats 2000000 in
theorem wparse_walk (s t : List Int) (neg r : Bool) (Z V E : Int) (w : World) (hs : By s) (ht : By t) (hl : t.length ≤ 39) (hT : ∀ w, Calls Try.prog 46 #[tS (U s), tS [45]] w fun e w' => e = .returned (tS (U t)) ∧ Below w.heap.size w w') (hn : Tv (!(U t == U s)) neg) (hZ : Z = w128 (if neg then -pv t t.length else pv t t.length)) (hX : ∀ w, Calls Try.prog 32 #[W2 Z] w fun e w' => e = .returned (tS (U (tz Z))) ∧ Below w.heap.size w w') (hr : Tv (!(U (tz Z) == U s)) r) (hV : if r then V = 0 ∧ E = 20 else V = Z ∧ E = 0) : Calls Try.prog 29 #[tS (U s)] w fun e w' => e = .returned (.tuple #[W2 V, .int .i64 E]) ∧ Below w.heap.size w w' := by
  have hTn : ∀ w, Calls Try.prog 39 #[W2 (w128 (pv t t.length))] w fun e w' => e = .returned (W2 (w128 (-pv t t.length))) ∧ Below w.heap.size w w' := fun w => by
    have := wturned (w128 (pv t t.length)) w (w128_bounds _)
    rwa [w128_ng] at this
  cases neg
  all_goals
    simp only [Bool.false_eq_true, if_false, if_true] at hZ
    cases r
    all_goals
      simp only [Bool.false_eq_true, if_false, if_true] at hV
      obtain ⟨rfl, rfl⟩ := hV
      refine EW.eEnter Try.func29 rfl Try.ntmps29 ?_
      all_goals try (refine EW.nm ?_)
      all_goals try ((first | refine EW.eRegL (id := 0) ?_ | refine EW.eReg (id := 0) ?_); refine EW.eAlloc ?_; refine EW.eAssign ?_; refine EW.eEnd ?_; (try refine EW.nm ?_))
      all_goals try ((first | refine EW.eRegL (id := 1) ?_ | refine EW.eReg (id := 1) ?_); refine EW.eMove ?_; refine EW.eCall Try.call46 (fun w => hT w) ?_; refine EW.eAssign ?_; refine EW.eEnd ?_; (try refine EW.nm ?_))
      all_goals try ((first | refine EW.eRegL (id := 2) ?_ | refine EW.eReg (id := 2) ?_); refine EW.eMove ?_; refine EW.eLenT (m := t.length) (hm := ⟨by simp [U]⟩) ?_; refine EW.eGtr ?_; refine EW.eEnd ?_; (try refine EW.nm ?_))
      all_goals try (first | refine EW.eYes (x := Operand.tmp 14) ?_ | refine EW.eNo (x := Operand.tmp 14) ?_ | (refine EW.eCond (x := Operand.tmp 14) ?_ ?_ <;> (intro hb hb'; (try dsimp only at hb'); (try (exfalso; first | omega | with_reducible exact absurd rfl hb')))))
      all_goals try (refine EW.nm ?_)
      all_goals try ((first | refine EW.eRegL (id := 3) ?_ | refine EW.eReg (id := 3) ?_); refine EW.eBuild (place := fun i => [(0, 1), (1, 1)][i]?) ?_; (first | refine EW.eStoreW (k := 2) ?_ | refine EW.eStore (k := 2) ?_); refine EW.eAssign ?_; refine EW.eEnd ?_; (try refine EW.nm ?_))
      all_goals try ((first | refine EW.eRegL (id := 4) ?_ | refine EW.eReg (id := 4) ?_); refine EW.eAlloc ?_; refine EW.eEnd ?_; (try refine EW.nm ?_))
      all_goals try ((first | refine EW.eRegL (id := 5) ?_ | refine EW.eReg (id := 5) ?_); refine EW.eMove ?_; refine EW.eBytes (n := 30) (bs := U t) (k := t.length) (hbs := by simp) (hk := U_len t) ?_; (first | refine EW.eLenS ?_ | refine EW.eLenG ?_ | refine EW.eLenN ?_); refine EW.eMove ?_; refine EW.eEnd ?_; (try refine EW.nm ?_))
      all_goals (try (refine EW.eEqB 30 (.w true (nums .u8 t)) ?_ ?_; (focus (rw [text_nums ht]))))
      all_goals first | (fail_if_success (refine EW.eUnroll 1 ?_)) | (refine EW.eLoopD [7, 8, 9, 19, 20, 21, 22, 23, 24, 25, 26, 27, 28, 29, 30, 31, 32, 33, 34, 35, 36, 37, 38, 39, 40, 41, 42] 1000000 (fun j : {x : Nat × Int // x.1 ≤ t.length ∧ x.2 = w128 (pv t x.1)} => [(.t 19, .v (.c (.v (.int .i64 (j.1.1 : Int))))), (.b 20, .b (.m true [.v (.int .i64 (j.1.2 / 18446744073709551616)), .v (.int .u64 (j.1.2 % 18446744073709551616))]))]) (fun j => t.length - j.1.1) (⟨(0, 0), Nat.zero_le _, by rw [pv_zero]; rfl⟩) (by ((repeat (first | exact EW.subW.nil | refine EW.subW.cons rfl ?_ | refine EW.subW.conv rfl ?_)); (first | done | fail))) ?_; rintro hcl6 ⟨⟨i, X⟩, hi, hXe⟩; (try dsimp only))
      all_goals try (refine EW.nm ?_)
      all_goals try ((first | refine EW.eRegL (id := 6) ?_ | refine EW.eReg (id := 6) ?_); refine EW.eLss ?_; refine EW.eEnd ?_; (try refine EW.nm ?_))
      all_goals try (first | refine EW.eYes (x := Operand.tmp 20) ?_ | refine EW.eNo (x := Operand.tmp 20) ?_ | (refine EW.eCond (x := Operand.tmp 20) ?_ ?_ <;> (intro hb hb'; (try dsimp only at hb'); (try (exfalso; first | omega | with_reducible exact absurd rfl hb')))))
      all_goals try (refine EW.nm ?_)
      all_goals try ((first | refine EW.eRegL (id := 7) ?_ | refine EW.eReg (id := 7) ?_); (first | refine EW.eIndexAddrS (z := 1) ?_ | refine EW.eIndexAddrG (z := 1) ?_); refine EW.eLoad1 ?_; refine EW.eAssign ?_; refine EW.eEnd ?_; (try refine EW.nm ?_))
      all_goals (try ((try dsimp only at hi hXe); obtain ⟨c0, c1⟩ := by_get ht (i := i) (by omega); have hIn : In128 X := (by rw [hXe]; exact w128_bounds _); have hP := (fun w => wplus (w128 (X * 10)) (t.getD i 0 - 48) w (w128_bounds _) (small_in c0 c1)); rw [pv_w (by omega) hXe] at hP; have hA := wrap_cong (X / 18446744073709551616 * 10); have hB := wr_10 hIn hA))
      all_goals try ((first | refine EW.eRegL (id := 8) ?_ | refine EW.eReg (id := 8) ?_); refine EW.eFieldAddr (k := 1) ?_; refine EW.eLoad1 ?_; refine EW.eCall Try.call40 (fun w => mul10 X w) ?_; refine EW.eMove ?_; (first | refine EW.eExtC ?_ | refine EW.eExtA ?_); (first | refine EW.eExtC ?_ | refine EW.eExtA ?_); refine EW.eAssign ?_; refine EW.eAssign ?_; refine EW.eEnd ?_; (try refine EW.nm ?_))
      all_goals try ((first | refine EW.eRegL (id := 9) ?_ | refine EW.eReg (id := 9) ?_); refine EW.eFieldAddr (k := 1) ?_; refine EW.eLoad1 ?_; refine EW.eMul (hr' := Wr.raw) ?_; refine EW.eMove ?_; refine EW.eConv ?_; refine EW.eAdd (hr' := hB) ?_; refine EW.eMove ?_; refine EW.eBuild (place := fun i => [(0, 1), (1, 1)][i]?) ?_; refine EW.eMove ?_; refine EW.eConv ?_; refine EW.eSub ?_; refine EW.eCall Try.call22 (fun w => wof (t.getD i 0 - 48) w (by omega) (by omega)) ?_; refine EW.eCall Try.call35 (fun w => hP w) ?_; (first | refine EW.eStoreW (k := 2) ?_ | refine EW.eStore (k := 2) ?_); refine EW.eDraw ?_; (try refine EW.nm ?_))
      all_goals try ((first | refine EW.eRegL (id := 10) ?_ | refine EW.eReg (id := 10) ?_); refine EW.eAdd ?_; refine EW.eMove ?_; refine EW.eEnd ?_; (try refine EW.nm ?_))
      all_goals first | (fail_if_success (with_reducible refine EW.isLater ?_)) | (refine EW.eLaterD (⟨(i + 1, w128 (pv t (i + 1))), by omega, rfl⟩) (by dsimp only; omega) (by ((repeat (first | exact EW.subW.nil | refine EW.subW.cons rfl ?_ | refine EW.subW.conv rfl ?_)); (first | done | fail))) hcl6)
      all_goals try (refine EW.nm ?_)
      all_goals (try ((try dsimp only at hi hXe); obtain rfl : i = t.length := (by omega); subst hXe))
      all_goals try ((first | refine EW.eRegL (id := 11) ?_ | refine EW.eReg (id := 11) ?_); refine EW.eMove ?_; refine EW.eMove ?_; refine EW.eStrNe (hr' := hn) ?_; refine EW.eEnd ?_; (try refine EW.nm ?_))
      all_goals try (first | refine EW.eYes (x := Operand.tmp 45) ?_ | refine EW.eNo (x := Operand.tmp 45) ?_ | (refine EW.eCond (x := Operand.tmp 45) ?_ ?_ <;> (intro hb hb'; (try dsimp only at hb'); (try (exfalso; first | omega | with_reducible exact absurd rfl hb')))))
      all_goals try (refine EW.nm ?_)
      all_goals try ((first | refine EW.eRegL (id := 12) ?_ | refine EW.eReg (id := 12) ?_); refine EW.eLoadA (k := 2) ?_; refine EW.eCall Try.call39 (fun w => hTn w) ?_; (first | refine EW.eStoreW (k := 2) ?_ | refine EW.eStore (k := 2) ?_); refine EW.eEnd ?_; (try refine EW.nm ?_))
      all_goals (try rw [← hZ])
      all_goals try ((first | refine EW.eRegL (id := 13) ?_ | refine EW.eReg (id := 13) ?_); refine EW.eLoadA (k := 2) ?_; refine EW.eCall Try.call32 (fun w => hX w) ?_; refine EW.eMove ?_; refine EW.eStrNe (hr' := hr) ?_; refine EW.eEnd ?_; (try refine EW.nm ?_))
      all_goals try (first | refine EW.eYes (x := Operand.tmp 51) ?_ | refine EW.eNo (x := Operand.tmp 51) ?_ | (refine EW.eCond (x := Operand.tmp 51) ?_ ?_ <;> (intro hb hb'; (try dsimp only at hb'); (try (exfalso; first | omega | with_reducible exact absurd rfl hb')))))
      all_goals try (refine EW.nm ?_)
      all_goals try ((first | refine EW.eRegL (id := 14) ?_ | refine EW.eReg (id := 14) ?_); refine EW.eBuild (place := fun i => [(0, 1), (1, 1)][i]?) ?_; (first | refine EW.eStoreW (k := 2) ?_ | refine EW.eStore (k := 2) ?_); refine EW.eAssign ?_; refine EW.eEnd ?_; (try refine EW.nm ?_))
      all_goals try ((first | refine EW.eRegL (id := 15) ?_ | refine EW.eReg (id := 15) ?_); refine EW.eLoadA (k := 2) ?_; (first | refine EW.eStoreW (k := 2) ?_ | refine EW.eStore (k := 2) ?_); refine EW.eAssign ?_; refine EW.eEnd ?_; (try refine EW.nm ?_))
      all_goals (refine EW.eLeaveP ?_; intro w' hW; refine ⟨?_, hW⟩)
      all_goals rfl
theorem wparse_far (s t : List UInt8) (w : World) (hl : 39 < t.length) (hl' : t.length ≤ 1000) (hT : ∀ w, Calls Try.prog 46 #[tS s, tS [45]] w fun e w' => e = .returned (tS t) ∧ Below w.heap.size w w') : Calls Try.prog 29 #[tS s] w fun e w' => e = .returned (.tuple #[W2 0, .int .i64 20]) ∧ Below w.heap.size w w' := by
  refine EW.eEnter Try.func29 rfl Try.ntmps29 ?_
  all_goals try (refine EW.nm ?_)
  all_goals try ((first | refine EW.eRegL (id := 0) ?_ | refine EW.eReg (id := 0) ?_); refine EW.eAlloc ?_; refine EW.eAssign ?_; refine EW.eEnd ?_; (try refine EW.nm ?_))
  all_goals try ((first | refine EW.eRegL (id := 1) ?_ | refine EW.eReg (id := 1) ?_); refine EW.eMove ?_; refine EW.eCall Try.call46 (fun w => hT w) ?_; refine EW.eAssign ?_; refine EW.eEnd ?_; (try refine EW.nm ?_))
  all_goals try ((first | refine EW.eRegL (id := 2) ?_ | refine EW.eReg (id := 2) ?_); refine EW.eMove ?_; refine EW.eLenT (m := t.length) (hm := ⟨by simp⟩) ?_; refine EW.eGtr ?_; refine EW.eEnd ?_; (try refine EW.nm ?_))
  all_goals try (first | refine EW.eYes (x := Operand.tmp 14) ?_ | refine EW.eNo (x := Operand.tmp 14) ?_ | (refine EW.eCond (x := Operand.tmp 14) ?_ ?_ <;> (intro hb hb'; (try dsimp only at hb'); (try (exfalso; first | omega | with_reducible exact absurd rfl hb')))))
  all_goals try (refine EW.nm ?_)
  all_goals try ((first | refine EW.eRegL (id := 3) ?_ | refine EW.eReg (id := 3) ?_); refine EW.eBuild (place := fun i => [(0, 1), (1, 1)][i]?) ?_; (first | refine EW.eStoreW (k := 2) ?_ | refine EW.eStore (k := 2) ?_); refine EW.eAssign ?_; refine EW.eEnd ?_; (try refine EW.nm ?_))
  all_goals try ((first | refine EW.eRegL (id := 4) ?_ | refine EW.eReg (id := 4) ?_); refine EW.eAlloc ?_; refine EW.eEnd ?_; (try refine EW.nm ?_))
  all_goals try ((first | refine EW.eRegL (id := 5) ?_ | refine EW.eReg (id := 5) ?_); refine EW.eMove ?_; refine EW.eBytes ?_; (first | refine EW.eLenS ?_ | refine EW.eLenG ?_ | refine EW.eLenN ?_); refine EW.eMove ?_; refine EW.eEnd ?_; (try refine EW.nm ?_))
  all_goals try (refine EW.eUnroll 6 ?_)
  all_goals try (refine EW.nm ?_)
  iterate 6 (
    all_goals try ((first | refine EW.eRegL (id := 6) ?_ | refine EW.eReg (id := 6) ?_); refine EW.eLss ?_; refine EW.eEnd ?_; (try refine EW.nm ?_))
    all_goals try (first | refine EW.eYes (x := Operand.tmp 20) ?_ | refine EW.eNo (x := Operand.tmp 20) ?_ | (refine EW.eCond (x := Operand.tmp 20) ?_ ?_ <;> (intro hb hb'; (try dsimp only at hb'); (try (exfalso; first | omega | with_reducible exact absurd rfl hb')))))
    all_goals try (refine EW.nm ?_)
    all_goals try ((first | refine EW.eRegL (id := 7) ?_ | refine EW.eReg (id := 7) ?_); (first | refine EW.eIndexAddrS (z := 1) ?_ | refine EW.eIndexAddrG (z := 1) ?_); refine EW.eLoad1 ?_; refine EW.eAssign ?_; refine EW.eEnd ?_; (try refine EW.nm ?_))
    all_goals try ((first | refine EW.eRegL (id := 8) ?_ | refine EW.eReg (id := 8) ?_); refine EW.eFieldAddr (k := 1) ?_; refine EW.eLoad1 ?_; fail "no contract of math/bits.Mul64"; refine EW.eMove ?_; (first | refine EW.eExtC ?_ | refine EW.eExtA ?_); (first | refine EW.eExtC ?_ | refine EW.eExtA ?_); refine EW.eAssign ?_; refine EW.eAssign ?_; refine EW.eEnd ?_; (try refine EW.nm ?_))
    all_goals try ((first | refine EW.eRegL (id := 9) ?_ | refine EW.eReg (id := 9) ?_); refine EW.eFieldAddr (k := 1) ?_; refine EW.eLoad1 ?_; refine EW.eMul ?_; refine EW.eMove ?_; refine EW.eConv ?_; refine EW.eAdd ?_; refine EW.eMove ?_; refine EW.eBuild (place := fun i => [(0, 1), (1, 1)][i]?) ?_; refine EW.eMove ?_; refine EW.eConv ?_; refine EW.eSub ?_; fail "no contract of mullion/wide.Of"; fail "no contract of mullion/wide.plus"; (first | refine EW.eStoreW (k := 2) ?_ | refine EW.eStore (k := 2) ?_); refine EW.eDraw ?_; (try refine EW.nm ?_))
    all_goals try ((first | refine EW.eRegL (id := 10) ?_ | refine EW.eReg (id := 10) ?_); refine EW.eAdd ?_; refine EW.eMove ?_; refine EW.eEnd ?_; (try refine EW.nm ?_)))
  all_goals try ((first | refine EW.eRegL (id := 11) ?_ | refine EW.eReg (id := 11) ?_); refine EW.eMove ?_; refine EW.eMove ?_; refine EW.eStrNe ?_; refine EW.eEnd ?_; (try refine EW.nm ?_))
  all_goals try (first | refine EW.eYes (x := Operand.tmp 45) ?_ | refine EW.eNo (x := Operand.tmp 45) ?_ | (refine EW.eCond (x := Operand.tmp 45) ?_ ?_ <;> (intro hb hb'; (try dsimp only at hb'); (try (exfalso; first | omega | with_reducible exact absurd rfl hb')))))
  all_goals try (refine EW.nm ?_)
  all_goals try ((first | refine EW.eRegL (id := 12) ?_ | refine EW.eReg (id := 12) ?_); refine EW.eLoadA (k := 2) ?_; fail "no contract of mullion/wide.turned"; (first | refine EW.eStoreW (k := 2) ?_ | refine EW.eStore (k := 2) ?_); refine EW.eEnd ?_; (try refine EW.nm ?_))
  all_goals try ((first | refine EW.eRegL (id := 13) ?_ | refine EW.eReg (id := 13) ?_); refine EW.eLoadA (k := 2) ?_; fail "no contract of mullion/wide.Text"; refine EW.eMove ?_; refine EW.eStrNe ?_; refine EW.eEnd ?_; (try refine EW.nm ?_))
  all_goals try (first | refine EW.eYes (x := Operand.tmp 51) ?_ | refine EW.eNo (x := Operand.tmp 51) ?_ | (refine EW.eCond (x := Operand.tmp 51) ?_ ?_ <;> (intro hb hb'; (try dsimp only at hb'); (try (exfalso; first | omega | with_reducible exact absurd rfl hb')))))
  all_goals try (refine EW.nm ?_)
  all_goals try ((first | refine EW.eRegL (id := 14) ?_ | refine EW.eReg (id := 14) ?_); refine EW.eBuild (place := fun i => [(0, 1), (1, 1)][i]?) ?_; (first | refine EW.eStoreW (k := 2) ?_ | refine EW.eStore (k := 2) ?_); refine EW.eAssign ?_; refine EW.eEnd ?_; (try refine EW.nm ?_))
  all_goals try ((first | refine EW.eRegL (id := 15) ?_ | refine EW.eReg (id := 15) ?_); refine EW.eLoadA (k := 2) ?_; (first | refine EW.eStoreW (k := 2) ?_ | refine EW.eStore (k := 2) ?_); refine EW.eAssign ?_; refine EW.eEnd ?_; (try refine EW.nm ?_))
  all_goals (refine EW.eLeaveP ?_; intro w' hW; refine ⟨?_, hW⟩)
  all_goals rfl
theorem u8_ne {c : Int} (h0 : 0 ≤ c) (h1 : c < 256) (h : c ≠ 45) : UInt8.ofNat c.toNat ≠ 45 := fun he => by
  have := congrArg UInt8.toNat he
  rw [UInt8.toNat_ofNat'] at this
  have e : (45 : UInt8).toNat = 45 := rfl
  omega
/-- What a text is without its sign. -/
def bare : List Int → List Int
  | 45 :: t => t
  | s => s
theorem bare_or (s : List Int) : (∃ t, s = 45 :: t ∧ bare s = t) ∨ (bare s = s ∧ ∀ t, s ≠ 45 :: t) := by
  unfold bare
  split
  · exact .inl ⟨_, rfl, rfl⟩
  · next h => exact .inr ⟨rfl, fun t ht => h t ht⟩
theorem bare_len (s : List Int) : (bare s).length ≤ s.length := by
  rcases bare_or s with ⟨t, rfl, h⟩ | ⟨h, _⟩
  · rw [h]; simp
  · rw [h]; exact Nat.le_refl _
theorem trim_bare (s : List Int) (w : World) (hb : By s) (hl : s.length ≤ 1000) : Calls Try.prog 46 #[tS (U s), tS [45]] w fun e w' => e = .returned (tS (U (bare s))) ∧ Below w.heap.size w w' := by
  rcases bare_or s with ⟨t, rfl, h⟩ | ⟨h, hn⟩
  · rw [h, U_neg]; exact trim_yes (U t) w (by rw [U_len]; simp at hl; omega)
  · rw [h]
    refine trim_no (U s) w fun w => ?_
    match s, hb, hl, hn with
    | [], _, _, _ => exact hasp_nil w
    | c :: t, hb, hl, hn => exact hasp_no _ _ w (by simp [U] at hl ⊢; omega) (u8_ne (hb c (by simp)).1 (hb c (by simp)).2 (fun e => hn t (by rw [e])))
def isNeg (s : List Int) : Bool := s.head? == some 45
theorem bare_by {s : List Int} (h : By s) : By (bare s) := by
  rcases bare_or s with ⟨t, rfl, e⟩ | ⟨e, _⟩
  · rw [e]; exact fun x hx => h x (by simp [hx])
  · rw [e]; exact h
theorem neg_is {s : List Int} : Tv (!(U (bare s) == U s)) (isNeg s) := by
  refine ⟨?_⟩
  rcases bare_or s with ⟨t, rfl, e⟩ | ⟨e, hn⟩
  · rw [e]
    have : U t ≠ U (45 :: t) := fun h => by have := congrArg List.length h; simp [U] at this
    rw [show (U t == U (45 :: t)) = false by simpa using this]; rfl
  · rw [e, beq_self_eq_true]
    match s, hn with
    | [], _ => rfl
    | c :: t, hn =>
      show false = (some c == some 45)
      have : c ≠ 45 := fun h => hn t (by rw [h])
      simpa using this
/-- The number that a text would be. -/
def txN (s : List Int) : Int := w128 (if isNeg s then -pv (bare s) (bare s).length else pv (bare s) (bare s).length)
theorem txN_tz {z : Int} (hz : In128 z) : txN (tz z) = z := by
  by_cases h : z < 0
  · rw [tz_neg h]
    show w128 (-pv (dgt z.natAbs) (dgt z.natAbs).length) = z
    rw [pv_all, val_dgt, w128_nn (by unfold In128 at *; omega)]; omega
  · rw [tz_pos h]
    have hd : Dg (dgt z.natAbs) := ld_dg _ _
    have hb : bare (dgt z.natAbs) = dgt z.natAbs := by
      rcases bare_or (dgt z.natAbs) with ⟨t, e, _⟩ | ⟨e, _⟩
      · rw [e] at hd; have := hd 45 (by simp); omega
      · exact e
    have hn : isNeg (dgt z.natAbs) = false := by
      match hq : dgt z.natAbs with
      | [] => rfl
      | c :: t => rw [hq] at hd; have := hd c (by simp); show (some c == some 45) = false; simp; omega
    unfold txN
    rw [hb, hn, pv_all, val_dgt, if_neg (by simp), w128_nn (by unfold In128 at *; omega)]; omega
theorem txN_in (s : List Int) : In128 (txN s) := w128_bounds _
theorem bare_tz {z : Int} (hz : In128 z) : (bare (tz z)).length ≤ 39 := by
  have h39 := nd_39 hz
  by_cases h : z < 0
  · rw [tz_neg h]; show (ld _ _).length ≤ 39; rw [ld_len]; exact h39
  · rw [tz_pos h]
    have := bare_len (dgt z.natAbs)
    rw [dgt, ld_len] at this
    rw [dgt]; omega
theorem tz_len {z : Int} (hz : In128 z) : (tz z).length ≤ 40 := by
  have h39 := nd_39 hz
  by_cases h : z < 0
  · rw [tz_neg h, List.length_cons, dgt, ld_len]; omega
  · rw [tz_pos h, dgt, ld_len]; omega
/-- A number's text is read as the number. -/
theorem wparse_ok (z : Int) (w : World) (hz : In128 z) : Calls Try.prog 29 #[tS (U (tz z))] w fun e w' => e = .returned (.tuple #[W2 z, .int .i64 0]) ∧ Below w.heap.size w w' :=
  wparse_walk (tz z) (bare (tz z)) (isNeg (tz z)) false z z 0 w (tz_by z) (bare_by (tz_by z)) (bare_tz hz) (fun w => trim_bare _ w (tz_by z) (by have := tz_len hz; omega)) neg_is (txN_tz hz).symm (fun w => wtext z w hz) ⟨by simp⟩ (by simp)
/-- What is no number's text is refused. -/
theorem wparse_no (s : List Int) (w : World) (hb : By s) (hl : s.length ≤ 1000) (h : ∀ z, In128 z → tz z ≠ s) : Calls Try.prog 29 #[tS (U s)] w fun e w' => e = .returned (.tuple #[W2 0, .int .i64 20]) ∧ Below w.heap.size w w' := by
  have hbl := bare_len s
  rcases Nat.lt_or_ge 39 (bare s).length with h1 | h1
  · exact wparse_far (U s) (U (bare s)) w (by rw [U_len]; omega) (by rw [U_len]; omega) fun w => trim_bare s w hb hl
  · refine wparse_walk s (bare s) (isNeg s) true (txN s) 0 20 w hb (bare_by hb) h1 (fun w => trim_bare s w hb hl) neg_is rfl (fun w => wtext _ w (txN_in s)) ⟨?_⟩ (by simp)
    have hne : U (tz (txN s)) ≠ U s := fun e => h _ (txN_in s) (U_inj (tz_by _) hb e)
    rw [show (U (tz (txN s)) == U s) = false by simpa using hne]; rfl
end Go.Proofs.Ytbjogekhedglgaa
