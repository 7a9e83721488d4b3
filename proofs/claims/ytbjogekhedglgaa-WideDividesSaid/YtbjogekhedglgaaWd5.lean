/- WideCounts: the walk of the law. -/
import Derived.Test.YtbjogekhedglgaaWd4
namespace Go.Proofs.Ytbjogekhedglgaa
set_option linter.unusedSimpArgs false
set_option linter.unusedVariables false
open Go.RowKit EV
open SX (Wr Tv Qu Rm Sh Is conjP eqs_iff eqs_false)
open EW (PlL PlT PlV PlVs LfV Mm Bt Opn GV nums)
set_option maxRecDepth 20000
theorem rmul64 (a b : Int) (w : World) (ha0 : -9223372036854775808 ≤ a) (ha1 : a ≤ 9223372036854775807) (hb0 : -9223372036854775808 ≤ b) (hb1 : b ≤ 9223372036854775807) : Calls Try.prog 11 #[BZ a, BZ b] w fun e w' => e = .returned (BZ (a * b)) ∧ Below w.heap.size w w' := rmulZ a b w (by omega) (by omega)
theorem iV_yes {x : Int} (h : -9223372036854775808 ≤ x ∧ x ≤ 9223372036854775807) : iV x = x ∧ iE x = 0 := by unfold iV iE; rw [if_pos h, if_pos h]; exact ⟨rfl, rfl⟩
theorem iV_no {x : Int} (h : ¬ (-9223372036854775808 ≤ x ∧ x ≤ 9223372036854775807)) : iV x = 0 ∧ iE x = 20 := by unfold iV iE; rw [if_neg h, if_neg h]; exact ⟨rfl, rfl⟩
theorem cut_ok {x y : Int} (hx : In128 x) (hy : In128 y) : (x + y).natAbs < 1606938044258990275541962092341162602522202993782792835301376 ∧ (x + -y).natAbs < 1606938044258990275541962092341162602522202993782792835301376 ∧ x.natAbs + y.natAbs < W20 ∧ x.natAbs + (-y).natAbs < W20 ∧ y.natAbs < W20 ∧ y.natAbs + x.natAbs < W20 := by
  have := W20_lit
  unfold In128 at *; omega
theorem less_63 {x : Int} (hx : In128 x) : x.natAbs + (9223372036854775808 : Int).natAbs < W20 ∧ x.natAbs + (-9223372036854775808 : Int).natAbs < W20 ∧ (9223372036854775808 : Int).natAbs < W20 := by
  have := W20_lit
  unfold In128 at *; omega
set_option maxHeartbeats 4000000 in
theorem counts (a b x y k s t : Int) (w : World) (ha0 : -9223372036854775808 ≤ a) (ha1 : a ≤ 9223372036854775807) (hb0 : -9223372036854775808 ≤ b) (hb1 : b ≤ 9223372036854775807) (hx : In128 x) (hy : In128 y)
    (hk : (s = 0 ∧ k = x ∧ -9223372036854775808 ≤ x ∧ x ≤ 9223372036854775807) ∨ (s = 20 ∧ k = 0 ∧ (x < -9223372036854775808 ∨ 9223372036854775807 < x)))
    (hI : ∀ w, Calls Try.prog 19 #[W2 x] w fun e w' => e = .returned (.tuple #[.int .i64 k, .int .i64 s]) ∧ Below w.heap.size w w') : Calls Try.prog 3 #[.int .i64 a, .int .i64 b, W2 x, W2 y] w fun e w' => e = .returned (.bool true) ∧ Below w.heap.size w w' := by
  obtain ⟨c1, c2, c3, c4, c5, c6⟩ := cut_ok hx hy
  obtain ⟨l1, l2, l3⟩ := less_63 hx
  have hF1 := fun w => rfrom (x / 18446744073709551616) (x % 18446744073709551616) w (by omega) (by omega) (by omega) (by omega)
  have hF2 := fun w => rfrom (y / 18446744073709551616) (y % 18446744073709551616) w (by omega) (by omega) (by omega) (by omega)
  rw [show x / 18446744073709551616 * 18446744073709551616 + x % 18446744073709551616 = x by omega] at hF1
  rw [show y / 18446744073709551616 * 18446744073709551616 + y % 18446744073709551616 = y by omega] at hF2
  have hp := prod128 ha0 ha1 hb0 hb1
  have hT1 := fun w => rtoI (a * b) w hp
  have hT2 := fun w => rtoI a w ⟨by omega, by omega⟩
  have hT3 := fun w => rtoI k w ⟨by omega, by omega⟩
  have hW := fun w => wmul a b w ha0 ha1 hb0 hb1
  have hM := fun w => rmul64 a b w ha0 ha1 hb0 hb1
  have hA := fun w => wadd x y w hx hy
  have hS := fun w => wsub x y w hx hy
  have hC1 := fun w => rcutV (x + y) w c1
  have hC2 := fun w => rcutV (x + -y) w c2
  rw [show x + -y = x - y from rfl] at hC2 c2
  have hN := fun w => rneg y w c5
  have hAd := fun w => radd x y w c3
  have hAn := fun w => radd x (-y) w c4
  rw [show x + -y = x - y from rfl] at hAn
  have hk1 : -9223372036854775808 ≤ k ∧ k ≤ 9223372036854775807 := by omega
  have hcm : (x < y ∧ cmpI x y = -1) ∨ (y < x ∧ cmpI x y = 1) ∨ (x = y ∧ cmpI x y = 0) := by unfold cmpI; repeat' split <;> omega
  have hL1 := fun w => rlessZ x y w c3
  have hL2 := fun w => rlessZ y x w c6
  have hL3 := fun w => rlessZ x (-9223372036854775808) w l2
  have hL4 := fun w => rlessZ x 9223372036854775808 w l1
  have hN2 := fun w => rneg 9223372036854775808 w l3
  clear hp c1 c2 c3 c4 c5 c6 l1 l2 l3
  obtain ⟨q, hq⟩ : ∃ q, a * b = q := ⟨_, rfl⟩
  rw [hq] at hT1 hW hM
  clear hq
  refine EW.eEnter Try.func3 rfl Try.ntmps3 ?_
  all_goals try (refine EW.nm ?_)
  all_goals try ((first | refine EW.eRegL (id := 0) ?_ | refine EW.eReg (id := 0) ?_); refine EW.eBox ?_; refine EW.eBox ?_; refine EW.eAssign ?_; refine EW.eEnd ?_; (try refine EW.nm ?_))
  all_goals try ((first | refine EW.eRegL (id := 1) ?_ | refine EW.eReg (id := 1) ?_); refine EW.eLoadA (k := 2) ?_; (first | refine EW.eCall Try.call9 (fun w => hF1 w) ?_ | refine EW.eCall Try.call9 (fun w => hF2 w) ?_); refine EW.eAlloc ?_; (first | refine EW.eStoreW (k := 21) ?_ | refine EW.eStore (k := 21) ?_); refine EW.eEnd ?_; (try refine EW.nm ?_))
  all_goals try ((first | refine EW.eRegL (id := 2) ?_ | refine EW.eReg (id := 2) ?_); refine EW.eLoadA (k := 2) ?_; (first | refine EW.eCall Try.call9 (fun w => hF1 w) ?_ | refine EW.eCall Try.call9 (fun w => hF2 w) ?_); refine EW.eAlloc ?_; (first | refine EW.eStoreW (k := 21) ?_ | refine EW.eStore (k := 21) ?_); refine EW.eEnd ?_; (try refine EW.nm ?_))
  all_goals try ((first | refine EW.eRegL (id := 3) ?_ | refine EW.eReg (id := 3) ?_); refine EW.eMove ?_; (first | refine EW.eCall Try.call12 (fun w => rof a w ha0 ha1) ?_ | refine EW.eCall Try.call12 (fun w => rof b w hb0 hb1) ?_ | refine EW.eCall Try.call12 (fun w => rof k w hk1.1 hk1.2) ?_); refine EW.eMove ?_; (first | refine EW.eCall Try.call12 (fun w => rof a w ha0 ha1) ?_ | refine EW.eCall Try.call12 (fun w => rof b w hb0 hb1) ?_ | refine EW.eCall Try.call12 (fun w => rof k w hk1.1 hk1.2) ?_); refine EW.eCall Try.call11 (fun w => hM w) ?_; (first | refine EW.eCall Try.call10 (fun w => hT1 w) ?_ | refine EW.eCall Try.call10 (fun w => hT2 w) ?_ | refine EW.eCall Try.call10 (fun w => hT3 w) ?_); refine EW.eMove ?_; (first | refine EW.eExtC ?_ | refine EW.eExtA ?_); (first | refine EW.eExtC ?_ | refine EW.eExtA ?_); refine EW.eAlloc ?_; (first | refine EW.eStoreW (k := 2) ?_ | refine EW.eStore (k := 2) ?_); refine EW.eAssign ?_; refine EW.eEnd ?_; (try refine EW.nm ?_))
  all_goals try ((first | refine EW.eRegL (id := 4) ?_ | refine EW.eReg (id := 4) ?_); refine EW.eMove ?_; (first | refine EW.eCall Try.call12 (fun w => rof a w ha0 ha1) ?_ | refine EW.eCall Try.call12 (fun w => rof b w hb0 hb1) ?_ | refine EW.eCall Try.call12 (fun w => rof k w hk1.1 hk1.2) ?_); (first | refine EW.eCall Try.call10 (fun w => hT1 w) ?_ | refine EW.eCall Try.call10 (fun w => hT2 w) ?_ | refine EW.eCall Try.call10 (fun w => hT3 w) ?_); refine EW.eMove ?_; (first | refine EW.eExtC ?_ | refine EW.eExtA ?_); (first | refine EW.eExtC ?_ | refine EW.eExtA ?_); refine EW.eAlloc ?_; (first | refine EW.eStoreW (k := 2) ?_ | refine EW.eStore (k := 2) ?_); refine EW.eAssign ?_; refine EW.eEnd ?_; (try refine EW.nm ?_))
  all_goals try ((first | refine EW.eRegL (id := 5) ?_ | refine EW.eReg (id := 5) ?_); refine EW.eLoadA (k := 2) ?_; refine EW.eLoadA (k := 2) ?_; refine EW.eCall Try.call13 (fun w => hA w) ?_; refine EW.eMove ?_; (first | refine EW.eExtC ?_ | refine EW.eExtA ?_); (first | refine EW.eExtC ?_ | refine EW.eExtA ?_); refine EW.eAlloc ?_; (first | refine EW.eStoreW (k := 2) ?_ | refine EW.eStore (k := 2) ?_); refine EW.eAssign ?_; refine EW.eEnd ?_; (try refine EW.nm ?_))
  all_goals try ((first | refine EW.eRegL (id := 6) ?_ | refine EW.eReg (id := 6) ?_); refine EW.eLoadA (k := 21) ?_; refine EW.eLoadA (k := 21) ?_; (first | refine EW.eCall Try.call15 (fun w => hAd w) ?_ | refine EW.eCall Try.call15 (fun w => hAn w) ?_); (first | refine EW.eCall Try.call14 (fun w => hC1 w) ?_ | refine EW.eCall Try.call14 (fun w => hC2 w) ?_); refine EW.eMove ?_; (first | refine EW.eExtC ?_ | refine EW.eExtA ?_); (first | refine EW.eExtC ?_ | refine EW.eExtA ?_); refine EW.eAlloc ?_; (first | refine EW.eStoreW (k := 2) ?_ | refine EW.eStore (k := 2) ?_); refine EW.eAssign ?_; refine EW.eEnd ?_; (try refine EW.nm ?_))
  all_goals try ((first | refine EW.eRegL (id := 7) ?_ | refine EW.eReg (id := 7) ?_); refine EW.eLoadA (k := 2) ?_; refine EW.eLoadA (k := 2) ?_; refine EW.eCall Try.call16 (fun w => hS w) ?_; refine EW.eMove ?_; (first | refine EW.eExtC ?_ | refine EW.eExtA ?_); (first | refine EW.eExtC ?_ | refine EW.eExtA ?_); refine EW.eAlloc ?_; (first | refine EW.eStoreW (k := 2) ?_ | refine EW.eStore (k := 2) ?_); refine EW.eAssign ?_; refine EW.eEnd ?_; (try refine EW.nm ?_))
  all_goals try ((first | refine EW.eRegL (id := 8) ?_ | refine EW.eReg (id := 8) ?_); refine EW.eLoadA (k := 21) ?_; refine EW.eLoadA (k := 21) ?_; (first | refine EW.eCall Try.call17 (fun w => hN w) ?_ | refine EW.eCall Try.call17 (fun w => hN2 w) ?_); (first | refine EW.eCall Try.call15 (fun w => hAd w) ?_ | refine EW.eCall Try.call15 (fun w => hAn w) ?_); (first | refine EW.eCall Try.call14 (fun w => hC1 w) ?_ | refine EW.eCall Try.call14 (fun w => hC2 w) ?_); refine EW.eMove ?_; (first | refine EW.eExtC ?_ | refine EW.eExtA ?_); (first | refine EW.eExtC ?_ | refine EW.eExtA ?_); refine EW.eAlloc ?_; (first | refine EW.eStoreW (k := 2) ?_ | refine EW.eStore (k := 2) ?_); refine EW.eAssign ?_; refine EW.eDraw ?_; (try refine EW.nm ?_))
  all_goals try ((first | refine EW.eRegL (id := 9) ?_ | refine EW.eReg (id := 9) ?_); refine EW.eAssign ?_; refine EW.eEnd ?_; (try refine EW.nm ?_))
  all_goals try ((first | refine EW.eRegL (id := 10) ?_ | refine EW.eReg (id := 10) ?_); refine EW.eLoadA (k := 21) ?_; refine EW.eLoadA (k := 21) ?_; (first | refine EW.eCall Try.call18 (fun w => hL1 w) ?_ | refine EW.eCall Try.call18 (fun w => hL2 w) ?_ | refine EW.eCall Try.call18 (fun w => hL3 w) ?_ | refine EW.eCall Try.call18 (fun w => hL4 w) ?_); refine EW.eEnd ?_; (try refine EW.nm ?_))
  all_goals try (first | refine EW.eYes (x := Operand.tmp 77) ?_ | refine EW.eNo (x := Operand.tmp 77) ?_ | (refine EW.eCond (x := Operand.tmp 77) ?_ ?_ <;> (intro hb hb'; (try dsimp only at hb'); (try (exfalso; first | omega | with_reducible exact absurd rfl hb')))))
  all_goals try (refine EW.nm ?_)
  all_goals try ((first | refine EW.eRegL (id := 11) ?_ | refine EW.eReg (id := 11) ?_); refine EW.eAssign ?_; refine EW.eEnd ?_; (try refine EW.nm ?_))
  all_goals try ((first | refine EW.eRegL (id := 12) ?_ | refine EW.eReg (id := 12) ?_); refine EW.eLoadA (k := 21) ?_; refine EW.eLoadA (k := 21) ?_; (first | refine EW.eCall Try.call18 (fun w => hL1 w) ?_ | refine EW.eCall Try.call18 (fun w => hL2 w) ?_ | refine EW.eCall Try.call18 (fun w => hL3 w) ?_ | refine EW.eCall Try.call18 (fun w => hL4 w) ?_); refine EW.eEnd ?_; (try refine EW.nm ?_))
  all_goals try (first | refine EW.eYes (x := Operand.tmp 80) ?_ | refine EW.eNo (x := Operand.tmp 80) ?_ | (refine EW.eCond (x := Operand.tmp 80) ?_ ?_ <;> (intro hb hb'; (try dsimp only at hb'); (try (exfalso; first | omega | with_reducible exact absurd rfl hb')))))
  all_goals try (refine EW.nm ?_)
  all_goals try ((first | refine EW.eRegL (id := 13) ?_ | refine EW.eReg (id := 13) ?_); refine EW.eAssign ?_; refine EW.eEnd ?_; (try refine EW.nm ?_))
  all_goals try ((first | refine EW.eRegL (id := 14) ?_ | refine EW.eReg (id := 14) ?_); refine EW.eLoadA (k := 2) ?_; refine EW.eCall Try.call19 (fun w => hI w) ?_; refine EW.eMove ?_; (first | refine EW.eExtC ?_ | refine EW.eExtA ?_); (first | refine EW.eExtC ?_ | refine EW.eExtA ?_); refine EW.eAssign ?_; refine EW.eAssign ?_; refine EW.eEnd ?_; (try refine EW.nm ?_))
  all_goals try ((first | refine EW.eRegL (id := 15) ?_ | refine EW.eReg (id := 15) ?_); refine EW.eMove ?_; (first | refine EW.eCall Try.call12 (fun w => rof a w ha0 ha1) ?_ | refine EW.eCall Try.call12 (fun w => rof b w hb0 hb1) ?_ | refine EW.eCall Try.call12 (fun w => rof k w hk1.1 hk1.2) ?_); (first | refine EW.eCall Try.call10 (fun w => hT1 w) ?_ | refine EW.eCall Try.call10 (fun w => hT2 w) ?_ | refine EW.eCall Try.call10 (fun w => hT3 w) ?_); refine EW.eMove ?_; (first | refine EW.eExtC ?_ | refine EW.eExtA ?_); (first | refine EW.eExtC ?_ | refine EW.eExtA ?_); refine EW.eAlloc ?_; (first | refine EW.eStoreW (k := 2) ?_ | refine EW.eStore (k := 2) ?_); refine EW.eAssign ?_; refine EW.eEnd ?_; (try refine EW.nm ?_))
  all_goals try ((first | refine EW.eRegL (id := 16) ?_ | refine EW.eReg (id := 16) ?_); refine EW.eLoadA (k := 21) ?_; refine EW.eCall Try.call20 (fun w => rtwo63 w) ?_; (first | refine EW.eCall Try.call17 (fun w => hN w) ?_ | refine EW.eCall Try.call17 (fun w => hN2 w) ?_); (first | refine EW.eCall Try.call18 (fun w => hL1 w) ?_ | refine EW.eCall Try.call18 (fun w => hL2 w) ?_ | refine EW.eCall Try.call18 (fun w => hL3 w) ?_ | refine EW.eCall Try.call18 (fun w => hL4 w) ?_); refine EW.eNot ?_; refine EW.eMove ?_)
  all_goals try (refine EW.eGuard (j := 5) (o := ⟨some 98, _, _, _, _, _⟩) ?_ ?_ <;> (intro hb hb'; (try dsimp only at hb'); (try (exfalso; first | omega | with_reducible exact absurd rfl hb'))))
  all_goals try ((first | refine EW.eSkipT (j := 5) ?_ | refine EW.eSkipU (j := 5) ?_ | refine EW.eLoadA (k := 21) ?_); (first | refine EW.eSkipT (j := 5) ?_ | refine EW.eSkipU (j := 5) ?_ | refine EW.eCall Try.call20 (fun w => rtwo63 w) ?_); (first | refine EW.eSkipT (j := 5) ?_ | refine EW.eSkipU (j := 5) ?_ | refine EW.eCall Try.call18 (fun w => hL1 w) ?_ | refine EW.eCall Try.call18 (fun w => hL2 w) ?_ | refine EW.eCall Try.call18 (fun w => hL3 w) ?_ | refine EW.eCall Try.call18 (fun w => hL4 w) ?_); (first | refine EW.ePickT ?_ | refine EW.ePickF ?_); refine EW.eAssign ?_; refine EW.eDraw ?_; (try refine EW.nm ?_))
  all_goals try ((first | refine EW.eRegL (id := 17) ?_ | refine EW.eReg (id := 17) ?_); refine EW.eMove ?_; refine EW.eMove ?_; refine EW.eCall Try.call21 (fun w => hW w) ?_; refine EW.eLoadA (k := 2) ?_; refine EW.eEqlA ?_; refine EW.eMove ?_)
  all_goals try (refine EW.eGuard (j := 5) (o := ⟨some 108, _, _, _, _, _⟩) ?_ ?_ <;> (intro hb hb'; (try dsimp only at hb'); (try (exfalso; first | omega | with_reducible exact absurd rfl hb'))))
  all_goals try ((first | refine EW.eSkipT (j := 5) ?_ | refine EW.eSkipU (j := 5) ?_ | refine EW.eMove ?_); (first | refine EW.eSkipT (j := 5) ?_ | refine EW.eSkipU (j := 5) ?_ | refine EW.eCall Try.call22 (fun w => wof a w ha0 ha1) ?_); (first | refine EW.eSkipT (j := 5) ?_ | refine EW.eSkipU (j := 5) ?_ | refine EW.eLoadA (k := 2) ?_); (first | refine EW.eSkipT (j := 5) ?_ | refine EW.eSkipU (j := 5) ?_ | refine EW.eEqlA ?_); (first | refine EW.ePickT ?_ | refine EW.ePickF ?_); refine EW.eMove ?_)
  all_goals try (refine EW.eGuard (j := 11) (o := ⟨some 114, _, _, _, _, _⟩) ?_ ?_ <;> (intro hb hb'; (try dsimp only at hb'); (try (exfalso; first | omega | with_reducible exact absurd rfl hb'))))
  all_goals try ((first | refine EW.eSkipT (j := 11) ?_ | refine EW.eSkipU (j := 11) ?_ | refine EW.eLoadA (k := 2) ?_); (first | refine EW.eSkipT (j := 11) ?_ | refine EW.eSkipU (j := 11) ?_ | refine EW.eLoadA (k := 2) ?_); (first | refine EW.eSkipT (j := 11) ?_ | refine EW.eSkipU (j := 11) ?_ | refine EW.eEqlA ?_); (first | refine EW.ePickT ?_ | refine EW.ePickF ?_); refine EW.eMove ?_)
  all_goals try (refine EW.eGuard (j := 16) (o := ⟨some 119, _, _, _, _, _⟩) ?_ ?_ <;> (intro hb hb'; (try dsimp only at hb'); (try (exfalso; first | omega | with_reducible exact absurd rfl hb'))))
  all_goals try ((first | refine EW.eSkipT (j := 16) ?_ | refine EW.eSkipU (j := 16) ?_ | refine EW.eMove ?_); (first | refine EW.eSkipT (j := 16) ?_ | refine EW.eSkipU (j := 16) ?_ | refine EW.eMove ?_); (first | refine EW.eSkipT (j := 16) ?_ | refine EW.eSkipU (j := 16) ?_ | refine EW.eEql ?_); (first | refine EW.ePickT ?_ | refine EW.ePickF ?_); refine EW.eMove ?_)
  all_goals try (refine EW.eGuard (j := 21) (o := ⟨some 124, _, _, _, _, _⟩) ?_ ?_ <;> (intro hb hb'; (try dsimp only at hb'); (try (exfalso; first | omega | with_reducible exact absurd rfl hb'))))
  all_goals try ((first | refine EW.eSkipT (j := 21) ?_ | refine EW.eSkipU (j := 21) ?_ | refine EW.eLoadA (k := 2) ?_); (first | refine EW.eSkipT (j := 21) ?_ | refine EW.eSkipU (j := 21) ?_ | refine EW.eLoadA (k := 2) ?_); (first | refine EW.eSkipT (j := 21) ?_ | refine EW.eSkipU (j := 21) ?_ | refine EW.eEqlA ?_); (first | refine EW.ePickT ?_ | refine EW.ePickF ?_); refine EW.eMove ?_)
  all_goals try (refine EW.eGuard (j := 26) (o := ⟨some 129, _, _, _, _, _⟩) ?_ ?_ <;> (intro hb hb'; (try dsimp only at hb'); (try (exfalso; first | omega | with_reducible exact absurd rfl hb'))))
  all_goals try ((first | refine EW.eSkipT (j := 26) ?_ | refine EW.eSkipU (j := 26) ?_ | refine EW.eMove ?_); (first | refine EW.eSkipT (j := 26) ?_ | refine EW.eSkipU (j := 26) ?_ | refine EW.eMove ?_); (first | refine EW.eSkipT (j := 26) ?_ | refine EW.eSkipU (j := 26) ?_ | refine EW.eEql ?_); (first | refine EW.ePickT ?_ | refine EW.ePickF ?_); refine EW.eMove ?_)
  all_goals try (refine EW.eGuard (j := 31) (o := ⟨some 134, _, _, _, _, _⟩) ?_ ?_ <;> (intro hb hb'; (try dsimp only at hb'); (try (exfalso; first | omega | with_reducible exact absurd rfl hb'))))
  all_goals try ((first | refine EW.eSkipT (j := 31) ?_ | refine EW.eSkipU (j := 31) ?_ | refine EW.eLoadA (k := 2) ?_); (first | refine EW.eSkipT (j := 31) ?_ | refine EW.eSkipU (j := 31) ?_ | refine EW.eLoadA (k := 2) ?_); (first | refine EW.eSkipT (j := 31) ?_ | refine EW.eSkipU (j := 31) ?_ | refine EW.eCall Try.call23 (fun w => wcmp x y w) ?_ | refine EW.eCall Try.call23 (fun w => wcmp0 x w) ?_); (first | refine EW.eSkipT (j := 31) ?_ | refine EW.eSkipU (j := 31) ?_ | refine EW.eMove ?_); (first | refine EW.eSkipT (j := 31) ?_ | refine EW.eSkipU (j := 31) ?_ | refine EW.eEql ?_); (first | refine EW.ePickT ?_ | refine EW.ePickF ?_); refine EW.eMove ?_)
  all_goals try (refine EW.eGuard (j := 38) (o := ⟨some 141, _, _, _, _, _⟩) ?_ ?_ <;> (intro hb hb'; (try dsimp only at hb'); (try (exfalso; first | omega | with_reducible exact absurd rfl hb'))))
  all_goals try ((first | refine EW.eSkipT (j := 38) ?_ | refine EW.eSkipU (j := 38) ?_ | refine EW.eLoadA (k := 2) ?_); (first | refine EW.eSkipT (j := 38) ?_ | refine EW.eSkipU (j := 38) ?_ | refine EW.eCall Try.call24 (fun w => wsign x w) ?_); (first | refine EW.eSkipT (j := 38) ?_ | refine EW.eSkipU (j := 38) ?_ | refine EW.eLoadA (k := 2) ?_); (first | refine EW.eSkipT (j := 38) ?_ | refine EW.eSkipU (j := 38) ?_ | refine EW.eBuild (place := fun i => [(0, 1), (1, 1)][i]?) ?_); (first | refine EW.eSkipT (j := 38) ?_ | refine EW.eSkipU (j := 38) ?_ | refine EW.eCall Try.call23 (fun w => wcmp x y w) ?_ | refine EW.eCall Try.call23 (fun w => wcmp0 x w) ?_); (first | refine EW.eSkipT (j := 38) ?_ | refine EW.eSkipU (j := 38) ?_ | refine EW.eEql ?_); (first | refine EW.ePickT ?_ | refine EW.ePickF ?_); refine EW.eMove ?_)
  all_goals try (refine EW.eGuard (j := 46) (o := ⟨some 149, _, _, _, _, _⟩) ?_ ?_ <;> (intro hb hb'; (try dsimp only at hb'); (try (exfalso; first | omega | with_reducible exact absurd rfl hb'))))
  all_goals try ((first | refine EW.eSkipT (j := 46) ?_ | refine EW.eSkipU (j := 46) ?_ | refine EW.eMove ?_); (first | refine EW.eSkipT (j := 46) ?_ | refine EW.eSkipU (j := 46) ?_ | refine EW.eEql ?_); (first | refine EW.eSkipT (j := 46) ?_ | refine EW.eSkipU (j := 46) ?_ | refine EW.eMove ?_); (first | refine EW.eSkipT (j := 46) ?_ | refine EW.eSkipU (j := 46) ?_ | refine EW.eEqlB ?_); (first | refine EW.ePickT ?_ | refine EW.ePickF ?_); refine EW.eMove ?_)
  all_goals try (refine EW.eGuard (j := 52) (o := ⟨some 155, _, _, _, _, _⟩) ?_ ?_ <;> (intro hb hb'; (try dsimp only at hb'); (try (exfalso; first | omega | with_reducible exact absurd rfl hb'))))
  all_goals try ((first | refine EW.eSkipT (j := 52) ?_ | refine EW.eSkipU (j := 52) ?_ | refine EW.eMove ?_); (first | refine EW.eSkipT (j := 52) ?_ | refine EW.eSkipU (j := 52) ?_ | refine EW.eMove ?_))
  all_goals try (refine EW.eGuard (j := 54) (o := ⟨some 157, _, _, _, _, _⟩) ?_ ?_ <;> (intro hb hb'; (try dsimp only at hb'); (try (exfalso; first | omega | with_reducible exact absurd rfl hb'))))
  all_goals try ((first | refine EW.eSkipT (j := 54) ?_ | refine EW.eSkipU (j := 54) ?_ | refine EW.eLoadA (k := 2) ?_); (first | refine EW.eSkipT (j := 54) ?_ | refine EW.eSkipU (j := 54) ?_ | refine EW.eLoadA (k := 2) ?_); (first | refine EW.eSkipT (j := 54) ?_ | refine EW.eSkipU (j := 54) ?_ | refine EW.eEqlA ?_); (first | refine EW.eSkipT (j := 52) ?_ | refine EW.eSkipU (j := 52) ?_ | refine EW.ePickT ?_ | refine EW.ePickF ?_); (first | refine EW.eSkipT (j := 52) ?_ | refine EW.eSkipU (j := 52) ?_ | refine EW.eMove ?_))
  all_goals try (refine EW.eGuard (j := 59) (o := ⟨some 162, _, _, _, _, _⟩) ?_ ?_ <;> (intro hb hb'; (try dsimp only at hb'); (try (exfalso; first | omega | with_reducible exact absurd rfl hb'))))
  all_goals try ((first | refine EW.eSkipF (j := 59) ?_ | refine EW.eSkipU (j := 59) ?_ | refine EW.eMove ?_); (first | refine EW.eSkipF (j := 59) ?_ | refine EW.eSkipU (j := 59) ?_ | refine EW.eNot ?_); (first | refine EW.eSkipF (j := 59) ?_ | refine EW.eSkipU (j := 59) ?_ | refine EW.eMove ?_))
  all_goals try (refine EW.eGuard (j := 62) (o := ⟨some 165, _, _, _, _, _⟩) ?_ ?_ <;> (intro hb hb'; (try dsimp only at hb'); (try (exfalso; first | omega | with_reducible exact absurd rfl hb'))))
  all_goals try ((first | refine EW.eSkipT (j := 62) ?_ | refine EW.eSkipU (j := 62) ?_ | refine EW.eMove ?_); (first | refine EW.eSkipT (j := 62) ?_ | refine EW.eSkipU (j := 62) ?_ | refine EW.eEql ?_); (first | refine EW.eSkipF (j := 59) ?_ | refine EW.eSkipU (j := 59) ?_ | refine EW.ePickT ?_ | refine EW.ePickF ?_); (first | refine EW.eSkipF (j := 59) ?_ | refine EW.eSkipU (j := 59) ?_ | refine EW.eMove ?_))
  all_goals try (refine EW.eGuard (j := 66) (o := ⟨some 169, _, _, _, _, _⟩) ?_ ?_ <;> (intro hb hb'; (try dsimp only at hb'); (try (exfalso; first | omega | with_reducible exact absurd rfl hb'))))
  all_goals try ((first | refine EW.eSkipT (j := 66) ?_ | refine EW.eSkipU (j := 66) ?_ | refine EW.eMove ?_); (first | refine EW.eSkipT (j := 66) ?_ | refine EW.eSkipU (j := 66) ?_ | refine EW.eEql ?_); (first | refine EW.eSkipF (j := 59) ?_ | refine EW.eSkipU (j := 59) ?_ | refine EW.ePickT ?_ | refine EW.ePickF ?_); (first | refine EW.eSkipT (j := 52) ?_ | refine EW.eSkipU (j := 52) ?_ | refine EW.ePickT ?_ | refine EW.ePickF ?_); (first | refine EW.ePickT ?_ | refine EW.ePickF ?_); refine EW.eAssign ?_; refine EW.eDraw ?_; (try refine EW.nm ?_))
  all_goals (refine EW.eLeaveP ?_; intro w' hW; refine ⟨?_, hW⟩)
  all_goals first | rfl | (exfalso; refine hb' ?_; rw [Bool.eq_iff_iff, beq_iff_eq, decide_eq_true_eq]; omega)
theorem counts_any (w : World) (a b h l h' l' : Int) (ha0 : -9223372036854775808 ≤ a) (ha1 : a ≤ 9223372036854775807) (hb0 : -9223372036854775808 ≤ b) (hb1 : b ≤ 9223372036854775807) (g1 : -9223372036854775808 ≤ h) (g2 : h ≤ 9223372036854775807) (g3 : 0 ≤ l) (g4 : l < 18446744073709551616) (k1 : -9223372036854775808 ≤ h') (k2 : h' ≤ 9223372036854775807) (k3 : 0 ≤ l') (k4 : l' < 18446744073709551616) :
    Calls Try.prog 3 #[.int .i64 a, .int .i64 b, .agg #[.int .i64 h, .int .u64 l], .agg #[.int .i64 h', .int .u64 l']] w fun e w' => e = .returned (.bool true) ∧ Below w.heap.size w w' := by
  rw [w2_alt (z := h * 18446744073709551616 + l) (by omega) (by omega), w2_alt (z := h' * 18446744073709551616 + l') (by omega) (by omega)]
  have hx : In128 (h * 18446744073709551616 + l) := ⟨by omega, by omega⟩
  have hy : In128 (h' * 18446744073709551616 + l') := ⟨by omega, by omega⟩
  generalize h * 18446744073709551616 + l = x at *
  generalize h' * 18446744073709551616 + l' = y at *
  refine counts a b x y (iV x) (iE x) 0 w ha0 ha1 hb0 hb1 hx hy ?_ fun w => wint' x w hx
  by_cases hi : -9223372036854775808 ≤ x ∧ x ≤ 9223372036854775807
  · obtain ⟨e1, e2⟩ := iV_yes hi
    rw [e1, e2]; exact .inl ⟨rfl, rfl, hi.1, hi.2⟩
  · obtain ⟨e1, e2⟩ := iV_no hi
    rw [e1, e2]; exact .inr ⟨rfl, rfl, by omega⟩
end Go.Proofs.Ytbjogekhedglgaa
