/- Package wide: Text. -/
import Derived.Test.YtbjogekhedglgaaHWt1
namespace Go.Proofs.Ytbjogekhedglgaa
set_option linter.unusedSimpArgs false
set_option linter.unusedVariables false
open Go.RowKit EV
open SX (Wr Tv Qu Rm Sh Is conjP eqs_iff eqs_false)
open EW (PlL PlT PlV PlVs LfV Mm Bt Opn GV nums)
set_option maxRecDepth 20000
/-- The digits' array: the last digits stand at its end. -/
def dz (n k : Nat) : List Int := List.replicate (40 - k) 0 ++ ld n (min k 40)
instance (n k : Nat) : EW.LenI (dz n k) 40 := ⟨by rw [dz, List.length_append, List.length_replicate, ld_len]; omega⟩
theorem dz_set {n k i : Nat} {d : Int} (h : k < 40) (hi : i = 39 - k) (hd : d = ((48 + n / 10 ^ k % 10 : Nat) : Int)) : (dz n k).set i d = dz n (k + 1) := by
  subst hi hd
  unfold dz
  rw [show 40 - k = (39 - k) + 1 by omega, show min k 40 = k by omega, show min (k + 1) 40 = k + 1 by omega, show 40 - (k + 1) = 39 - k by omega, List.replicate_succ', List.append_assoc, List.set_append_right _ _ (by simp), List.length_replicate, Nat.sub_self]
  rfl
theorem dz_drop {n k : Nat} (h : k ≤ 40) : (dz n k).drop (40 - k) = ld n k := by
  rw [dz, List.drop_left' (by simp), show min k 40 = k by omega]
theorem wparts10 (y : Int) (m : Nat) (w : World) (hy : In128 y) (hm : (m : Int) = y / 18446744073709551616 % 18446744073709551616 * 18446744073709551616 + y % 18446744073709551616) : Calls Try.prog 45 #[W2 y, .int .u64 10] w fun e w' => e = .returned (.tuple #[W2 ((m / 10 : Nat) : Int), .int .u64 ((m % 10 : Nat) : Int)]) ∧ Below w.heap.size w w' := by
  have h := wparts y m 10 w hy hm (by omega) (by omega)
  have e1 : w128 ((m : Int) / 10) = ((m / 10 : Nat) : Int) := by
    have h0 : (m : Int) < 340282366920938463463374607431768211456 := by unfold In128 at hy; omega
    unfold w128; omega
  have e2 : (m : Int) % 10 = ((m % 10 : Nat) : Int) := by omega
  rw [e1, e2] at h
  exact h
theorem next_in {y : Int} {m : Nat} (hy : In128 y) (hm : (m : Int) = y / 18446744073709551616 % 18446744073709551616 * 18446744073709551616 + y % 18446744073709551616) : In128 ((m / 10 : Nat) : Int) ∧ ((m / 10 : Nat) : Int) = ((m / 10 : Nat) : Int) / 18446744073709551616 % 18446744073709551616 * 18446744073709551616 + ((m / 10 : Nat) : Int) % 18446744073709551616 := by
  have h0 : (m : Int) < 340282366920938463463374607431768211456 := by unfold In128 at hy; omega
  unfold In128
  omega
theorem text_end {n k l : Nat} (hk : k ≤ 40) (hl : l = 40 - k) : (((nums .u8 (dz n k)).map C.v).drop l).take k = ((U (ld n k)).map u8V).map C.v := by
  subst hl
  rw [← text_nums (dg_by (ld_dg n k)), ← dz_drop hk, nums, nums, List.map_drop, List.map_drop, List.take_of_length_le]
  simp [dz, ld_len]; omega
abbrev XB (m : Nat) (y : Int) : Prop := (m : Int) = y / 18446744073709551616 % 18446744073709551616 * 18446744073709551616 + y % 18446744073709551616
theorem text_here {n k o len : Nat} (hk : k < 40) (ho : o = 39 - k) (hlen : len = k + 1) : (((nums .u8 (dz n (k + 1))).map C.v).drop o).take len = ((U (ld n (k + 1))).map u8V).map C.v := by
  subst ho hlen
  exact text_end (by omega) (by omega)
set_option maxHeartbeats 2000000 in
theorem wtext_any (z : Int) (n : Nat) (w : World) (hz : In128 z) (hn : XB n (if z < 0 then w128 (-z) else z)) (hN : nd n ≤ 39) : Calls Try.prog 32 #[W2 z] w fun e w' => e = .returned (.string ⟨(if z < 0 then 45 :: U (dgt n) else U (dgt n)).toArray⟩) ∧ Below w.heap.size w w' := by
  by_cases h0 : z < 0
  all_goals
    first | rw [if_pos h0] at hn ⊢ | rw [if_neg h0] at hn ⊢
    have hT := fun w => wturned z w hz
    have hi : In128 (w128 (-z)) := w128_bounds _
    generalize w128 (-z) = x at *
    refine EW.eEnter Try.func32 rfl Try.ntmps32 ?_
    all_goals try (refine EW.nm ?_)
    all_goals try ((first | refine EW.eRegL (id := 0) ?_ | refine EW.eReg (id := 0) ?_); refine EW.eBox ?_; refine EW.eAssign ?_; refine EW.eEnd ?_; (try refine EW.nm ?_))
    all_goals try ((first | refine EW.eRegL (id := 1) ?_ | refine EW.eReg (id := 1) ?_); refine EW.eAlloc ?_; refine EW.eEnd ?_; (try refine EW.nm ?_))
    all_goals (refine EW.eToW 20 true (nums .u8 (dz n 0)) ?_)
    all_goals try ((first | refine EW.eRegL (id := 2) ?_ | refine EW.eReg (id := 2) ?_); refine EW.eAssign ?_; refine EW.eEnd ?_; (try refine EW.nm ?_))
    all_goals try ((first | refine EW.eRegL (id := 3) ?_ | refine EW.eReg (id := 3) ?_); refine EW.eFieldAddr (k := 1) ?_; refine EW.eLoad1 ?_; refine EW.eLss ?_; refine EW.eEnd ?_; (try refine EW.nm ?_))
    all_goals try (first | refine EW.eYes (x := Operand.tmp 10) ?_ | refine EW.eNo (x := Operand.tmp 10) ?_ | (refine EW.eCond (x := Operand.tmp 10) ?_ ?_ <;> (intro hb hb'; (try dsimp only at hb'); (try (exfalso; first | omega | with_reducible exact absurd rfl hb')))))
    all_goals try (refine EW.nm ?_)
    all_goals try ((first | refine EW.eRegL (id := 4) ?_ | refine EW.eReg (id := 4) ?_); refine EW.eLoadA (k := 2) ?_; refine EW.eCall Try.call39 (fun w => hT w) ?_; refine EW.eAssign ?_; (first | refine EW.eStoreW (k := 2) ?_ | refine EW.eStore (k := 2) ?_); refine EW.eEnd ?_; (try refine EW.nm ?_))
    all_goals try ((first | refine EW.eRegL (id := 5) ?_ | refine EW.eReg (id := 5) ?_); refine EW.eAssign ?_; refine EW.eEnd ?_; (try refine EW.nm ?_))
    all_goals first | (fail_if_success (refine EW.eUnroll 1 ?_)) | (refine EW.eLoopD [2, 5, 6, 7, 13, 14, 15, 16, 17, 18, 19, 20, 21, 22, 23, 24, 25, 26, 27, 28, 29, 30, 31, 32, 33] 1000000 (fun j : {x : Nat × Nat × Int // x.1 < nd n ∧ In128 x.2.2 ∧ XB x.2.1 x.2.2 ∧ x.2.1 = n / 10 ^ x.1} => [(.b 10, .b (.m true [.v (.int .i64 (j.1.2.2 / 18446744073709551616)), .v (.int .u64 (j.1.2.2 % 18446744073709551616))])), (.t 5, .v (.c (.v (.int .i64 (40 - (j.1.1 : Int)))))), (.b 20, .b (.w true (nums .u8 (dz n j.1.1))))]) (fun j => nd n - j.1.1) (by first | exact ⟨(0, n, z), nd_pos n, hz, hn, by simp⟩ | exact ⟨(0, n, x), nd_pos n, hi, hn, by simp⟩) (by ((repeat (first | exact EW.subW.nil | refine EW.subW.cons rfl ?_ | refine EW.subW.conv rfl ?_)); (first | done | fail))) ?_; rintro hcl6 ⟨⟨k, m, y⟩, hk, hy, hm, he⟩; (try dsimp only))
    all_goals try (refine EW.nm ?_)
    all_goals try ((first | refine EW.eRegL (id := 6) ?_ | refine EW.eReg (id := 6) ?_); refine EW.eLoadA (k := 2) ?_; refine EW.eCall Try.call45 (fun w => wparts10 y m w hy hm) ?_; refine EW.eMove ?_; (first | refine EW.eExtC ?_ | refine EW.eExtA ?_); (first | refine EW.eExtC ?_ | refine EW.eExtA ?_); refine EW.eAlloc ?_; (first | refine EW.eStoreW (k := 2) ?_ | refine EW.eStore (k := 2) ?_); refine EW.eAssign ?_; refine EW.eEnd ?_; (try refine EW.nm ?_))
    all_goals try ((first | refine EW.eRegL (id := 7) ?_ | refine EW.eReg (id := 7) ?_); refine EW.eMove ?_; refine EW.eSub ?_; refine EW.eAssign ?_; refine EW.eEnd ?_; (try refine EW.nm ?_))
    all_goals try ((first | refine EW.eRegL (id := 8) ?_ | refine EW.eReg (id := 8) ?_); refine EW.eMove ?_; refine EW.eMove ?_; refine EW.eConv ?_; refine EW.eAdd ?_; refine EW.eIndexAddr (z := 1) ?_; (first | refine EW.eStoreW (k := 1) ?_ | refine EW.eStore (k := 1) ?_); refine EW.eEnd ?_; (try refine EW.nm ?_))
    all_goals (try ((try dsimp only at hk hy hm he); obtain ⟨hq, hr⟩ := next_in hy hm; refine EW.eEqB 20 (.w true (nums .u8 (dz n (k + 1)))) ?_ ?_; (focus (rw [dz_set (n := n) (k := k) (by omega) (by omega) (by rw [← he]; omega)]))))
    all_goals try ((first | refine EW.eRegL (id := 9) ?_ | refine EW.eReg (id := 9) ?_); refine EW.eLoadA (k := 2) ?_; (first | refine EW.eStoreW (k := 2) ?_ | refine EW.eStore (k := 2) ?_); refine EW.eEnd ?_; (try refine EW.nm ?_))
    all_goals try ((first | refine EW.eRegL (id := 10) ?_ | refine EW.eReg (id := 10) ?_); refine EW.eLoadA (k := 2) ?_; refine EW.eBuild (place := fun i => [(0, 1), (1, 1)][i]?) ?_; refine EW.eEqlA ?_; refine EW.eEnd ?_; (try refine EW.nm ?_))
    all_goals try (first | refine EW.eYes (x := Operand.tmp 28) ?_ | refine EW.eNo (x := Operand.tmp 28) ?_ | (refine EW.eCond (x := Operand.tmp 28) ?_ ?_ <;> (intro hb hb'; (try dsimp only at hb'); (try (exfalso; first | omega | with_reducible exact absurd rfl hb')))))
    all_goals try (refine EW.nm ?_)
    all_goals (try (have hke := nd_end (n := n) hk (by rw [div10, ← he]; omega)))
    all_goals try ((first | refine EW.eRegL (id := 11) ?_ | refine EW.eReg (id := 11) ?_); refine EW.eMove ?_; refine EW.eMove ?_; refine EW.eSliceP (z := 1) ?_; refine EW.eTextS (bs := U (ld n (k + 1))) (hbs := text_here (by omega) (by omega) (by omega)) ?_; (first | (first | refine EW.eStrAdd (a := [45]) (hl := by simp only [U_len, ld_len, List.length_cons, List.length_nil]; omega) ?_ | refine EW.eStrAdd (a := []) (hl := by simp only [U_len, ld_len, List.length_cons, List.length_nil]; omega) ?_)); refine EW.eAssign ?_; refine EW.eEnd ?_; (try refine EW.nm ?_))
    all_goals (try rw [hke])
    all_goals first | (fail_if_success (with_reducible refine EW.isLater ?_)) | (refine EW.eLaterD (⟨(k + 1, m / 10, ((m / 10 : Nat) : Int)), nd_more (by rw [div10, ← he]; omega), hq, hr, by dsimp only; rw [div10, ← he]⟩) (by dsimp only; omega) (by ((repeat (first | exact EW.subW.nil | refine EW.subW.cons rfl ?_ | refine EW.subW.conv rfl ?_)); (first | done | fail))) hcl6)
    all_goals try (refine EW.nm ?_)
    all_goals (refine EW.eLeaveP ?_; intro w' hW; refine ⟨?_, hW⟩)
    all_goals rfl
end Go.Proofs.Ytbjogekhedglgaa
