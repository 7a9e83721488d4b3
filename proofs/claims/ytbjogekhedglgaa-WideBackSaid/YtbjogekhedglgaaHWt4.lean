/- The document's Text. -/
import Derived.Test.YtbjogekhedglgaaHWt3
import Derived.Test.YtbjogekhedglgaaHWd6
namespace Go.Proofs.Ytbjogekhedglgaa
set_option linter.unusedSimpArgs false
set_option linter.unusedVariables false
open Go.RowKit EV
open SX (Wr Tv Qu Rm Sh Is conjP eqs_iff eqs_false)
open EW (PlL PlT PlV PlVs LfV Mm Bt Opn GV nums)
set_option maxRecDepth 20000
theorem bz_nat (n : Nat) : BZ (n : Int) = Bg false n := by
  rw [BZ, decide_eq_false (by omega), Int.natAbs_natCast]
theorem rdiv10 (m : Nat) (w : World) (h : m < 1393796574908163946345982392040522594123776) : Calls Try.prog 26 #[Bg false m, BZ 10] w fun e w' => e = .returned (.tuple #[Bg false (m / 10), Bg false (m % 10), .int .i64 0]) ∧ Below w.heap.size w w' := by
  have := rdivS (m : Int) 10 w (by omega) (by omega) (by omega)
  rw [Int.fdiv_eq_ediv_of_nonneg _ (by omega), show (m : Int) / 10 = ((m / 10 : Nat) : Int) by omega, show (m : Int) - ((m / 10 : Nat) : Int) * 10 = ((m % 10 : Nat) : Int) by omega, bz_nat, bz_nat, bz_nat] at this
  exact this
theorem dg_small {m : Nat} (h : m < 65536) : dg m 0 = m := by unfold dg; omega
theorem nd_zero {n k : Nat} (hk : k = nd n) : n / 10 ^ k = 0 := nd_past (by omega)
theorem nd_some {n k : Nat} (h0 : 0 < k) (hk : k < nd n) : n / 10 ^ k ≠ 0 := fun h => by
  obtain ⟨j, rfl⟩ : ∃ j, k = j + 1 := ⟨k - 1, by omega⟩
  have : n < 10 ^ (j + 1) := by
    rcases Nat.div_eq_zero_iff.1 h with h | h
    · exact absurd h (Nat.ne_of_gt (Nat.pow_pos (by omega)))
    · exact h
  have := nd_le j this
  omega
theorem U_nil {n k : Nat} : (U (ld n k) == []) = decide (k = 0) := by
  cases k with
  | zero => rfl
  | succ k => rw [decide_eq_false (by omega)]; rfl
theorem one_text {x : Int} {d : UInt8} (h : u8V d = .int .u8 x) : (([C.v (.int .u8 x)] : List C).drop 0).take 1 = (([d] : List UInt8).map u8V).map C.v := by
  simp [h]
theorem dig_m (m : Nat) : u8V (UInt8.ofNat (48 + m % 10)) = .int .u8 ((48 + ((dg (m % 10) 0 : Nat) : Int)) % 18446744073709551616 % 256) := by
  rw [dg_small (by omega)]
  unfold u8V
  rw [UInt8.toNat_ofNat']
  congr 1
  omega
theorem U_next {n k m : Nat} (hm : m = n / 10 ^ k) : [UInt8.ofNat (48 + m % 10)] ++ U (ld n k) = U (ld n (k + 1)) := by
  subst hm; rfl
theorem kvS {a b : List UInt8} (h : a = b) : KV.v (V.c (C.v (tS a))) = KV.v (V.c (C.v (tS b))) := by rw [h]
theorem nd_43 {n : Nat} (h : n < 1393796574908163946345982392040522594123776) : nd n ≤ 43 := nd_le 42 (by omega)
set_option maxHeartbeats 2000000 in
theorem rtextB (b : Bool) (n : Nat) (w : World) (h : n < 1393796574908163946345982392040522594123776) : Calls Try.prog 33 #[Bg b n] w fun e w' => e = .returned (tS (if b then 45 :: U (dgt n) else U (dgt n))) ∧ Below w.heap.size w w' := by
  have h43 := nd_43 h
  have hW := W20_nine
  have hp := nd_pos n
  cases b
  all_goals
    refine EW.eEnter Try.func33 rfl Try.ntmps33 ?_
    all_goals try (refine EW.nm ?_)
    all_goals try ((first | refine EW.eRegL (id := 0) ?_ | refine EW.eReg (id := 0) ?_); refine EW.eBox ?_; refine EW.eAssign ?_; refine EW.eEnd ?_; (try refine EW.nm ?_))
    all_goals try ((first | refine EW.eRegL (id := 1) ?_ | refine EW.eReg (id := 1) ?_); refine EW.eAssign ?_; refine EW.eEnd ?_; (try refine EW.nm ?_))
    all_goals try ((first | refine EW.eRegL (id := 2) ?_ | refine EW.eReg (id := 2) ?_); refine EW.eFieldAddr (k := 1) ?_; refine EW.eLoad1 ?_; refine EW.eAssign ?_; refine EW.eEnd ?_; (try refine EW.nm ?_))
    all_goals try ((first | refine EW.eRegL (id := 3) ?_ | refine EW.eReg (id := 3) ?_); refine EW.eFieldAddr (k := 1) ?_; (first | refine EW.eStoreW (k := 1) ?_ | refine EW.eStore (k := 1) ?_); refine EW.eEnd ?_; (try refine EW.nm ?_))
    all_goals try ((first | refine EW.eRegL (id := 4) ?_ | refine EW.eReg (id := 4) ?_); refine EW.eAssign ?_; refine EW.eEnd ?_; (try refine EW.nm ?_))
    all_goals first | (fail_if_success (refine EW.eUnroll 1 ?_)) | (refine EW.eLoopD [3, 5, 6, 7, 8, 12, 13, 14, 15, 16, 17, 18, 19, 20, 21, 22, 23, 24, 25, 26, 27, 28, 29, 30, 31, 32, 33, 34, 35, 36, 37, 38, 39, 40, 41] 1000000 (fun j : {x : Nat × Nat // x.1 ≤ nd n ∧ x.2 = n / 10 ^ x.1} => [(.t 5, .v (.c (.v (.int .i64 (j.1.1 : Int))))), (.t 3, .v (.c (.v (tS (U (ld n j.1.1)))))), (.b 10, .b (.m true ((big false j.1.2).map C.v)))]) (fun j => nd n - j.1.1) (⟨(0, n), Nat.zero_le _, by simp⟩) (by ((repeat (first | exact EW.subW.nil | refine EW.subW.cons rfl ?_ | refine EW.subW.conv rfl ?_ (by first | exact kvS (U_next hm)) | refine EW.subW.conv rfl ?_)); (first | done | fail))) ?_; rintro hcl5 ⟨⟨k, m⟩, hk, hm⟩; (try dsimp only))
    all_goals try (refine EW.nm ?_)
    all_goals (try ((try dsimp only at hk hm); have hf1 : k = 0 ∨ k = nd n ∨ m ≠ 0 := (by by_cases h0 : k = 0; (focus exact .inl h0); by_cases h1 : k = nd n; (focus exact .inr (.inl h1)); exact .inr (.inr (hm ▸ nd_some (by omega) (by omega)))); have hf2 : k ≠ nd n ∨ m = 0 := (by by_cases h1 : k = nd n; (focus exact .inr (hm ▸ nd_zero h1)); exact .inl h1); have hml : m ≤ n := (hm ▸ Nat.div_le_self _ _)))
    all_goals try ((first | refine EW.eRegL (id := 5) ?_ | refine EW.eReg (id := 5) ?_); refine EW.eMove ?_; refine EW.eLss ?_; refine EW.eMove ?_)
    all_goals try (refine EW.eGuard (j := 2) (o := ⟨some 15, _, _, _, _, _⟩) ?_ ?_ <;> (intro hb hb'; (try dsimp only at hb'); (try (exfalso; first | omega | with_reducible exact absurd rfl hb'))))
    all_goals try ((first | refine EW.eSkipT (j := 2) ?_ | refine EW.eSkipU (j := 2) ?_ | refine EW.eLoadA (k := 21) ?_); (first | refine EW.eSkipT (j := 2) ?_ | refine EW.eSkipU (j := 2) ?_ | refine EW.eCall Try.call34 (fun w => rnone false m w (by omega)) ?_); (first | refine EW.eSkipT (j := 2) ?_ | refine EW.eSkipU (j := 2) ?_ | refine EW.eNot ?_); (first | refine EW.eSkipT (j := 2) ?_ | refine EW.eSkipU (j := 2) ?_ | refine EW.eMove ?_))
    all_goals try (refine EW.eGuard (j := 6) (o := ⟨some 19, _, _, _, _, _⟩) ?_ ?_ <;> (intro hb hb'; (try dsimp only at hb'); (try (exfalso; first | omega | with_reducible exact absurd rfl hb'))))
    all_goals try ((first | refine EW.eSkipF (j := 6) ?_ | refine EW.eSkipU (j := 6) ?_ | refine EW.eMove ?_); (first | refine EW.eSkipF (j := 6) ?_ | refine EW.eSkipU (j := 6) ?_ | refine EW.eStrEq (r := decide (k = 0)) (hr' := ⟨U_nil⟩) ?_); (first | refine EW.eSkipT (j := 2) ?_ | refine EW.eSkipU (j := 2) ?_ | refine EW.ePickT ?_ | refine EW.ePickF ?_); (first | refine EW.ePickT ?_ | refine EW.ePickF ?_); refine EW.eEnd ?_; (try refine EW.nm ?_))
    all_goals try (first | refine EW.eYes (x := Operand.tmp 22) ?_ | refine EW.eNo (x := Operand.tmp 22) ?_ | (refine EW.eCond (x := Operand.tmp 22) ?_ ?_ <;> (intro hb hb'; (try dsimp only at hb'); (try (exfalso; first | omega | with_reducible exact absurd rfl hb')))))
    all_goals try (refine EW.nm ?_)
    all_goals try ((first | refine EW.eRegL (id := 7) ?_ | refine EW.eReg (id := 7) ?_); refine EW.eLoadA (k := 21) ?_; refine EW.eCall Try.call12 (fun w => rof 10 w (by omega) (by omega)) ?_; refine EW.eCall Try.call26 (fun w => rdiv10 m w (by omega)) ?_; refine EW.eMove ?_; (first | refine EW.eExtC ?_ | refine EW.eExtA ?_); (first | refine EW.eExtC ?_ | refine EW.eExtA ?_); (first | refine EW.eExtC ?_ | refine EW.eExtA ?_); refine EW.eAlloc ?_; refine EW.eAlloc ?_; (first | refine EW.eStoreW (k := 21) ?_ | refine EW.eStore (k := 21) ?_); (first | refine EW.eStoreW (k := 21) ?_ | refine EW.eStore (k := 21) ?_); refine EW.eAssign ?_; refine EW.eDraw ?_; (try refine EW.nm ?_))
    all_goals try ((first | refine EW.eRegL (id := 8) ?_ | refine EW.eReg (id := 8) ?_); refine EW.eFieldAddr (k := 20) ?_; refine EW.eIndexAddr (z := 1) ?_; refine EW.eLoad1 ?_; refine EW.eAdd ?_; refine EW.eConv ?_; refine EW.eBuildSlice (k := 1) ?_; refine EW.eTextS (bs := [UInt8.ofNat (48 + m % 10)]) (hbs := one_text (dig_m m)) ?_; refine EW.eMove ?_; refine EW.eStrAdd (a := [UInt8.ofNat (48 + m % 10)]) (hl := by simp only [U_len, ld_len, List.length_cons, List.length_nil]; omega) ?_; refine EW.eAssign ?_; refine EW.eEnd ?_; (try refine EW.nm ?_))
    all_goals try ((first | refine EW.eRegL (id := 9) ?_ | refine EW.eReg (id := 9) ?_); refine EW.eLoadA (k := 21) ?_; (first | refine EW.eStoreW (k := 21) ?_ | refine EW.eStore (k := 21) ?_); refine EW.eEnd ?_; (try refine EW.nm ?_))
    all_goals try ((first | refine EW.eRegL (id := 6) ?_ | refine EW.eReg (id := 6) ?_); refine EW.eMove ?_; refine EW.eAdd ?_; refine EW.eAssign ?_; refine EW.eEnd ?_; (try refine EW.nm ?_))
    all_goals first | (fail_if_success (with_reducible refine EW.isLater ?_)) | (refine EW.eLaterD (⟨(k + 1, m / 10), by dsimp only; omega, by dsimp only; rw [div10, ← hm]⟩) (by dsimp only; omega) (by ((repeat (first | exact EW.subW.nil | refine EW.subW.cons rfl ?_ | refine EW.subW.conv rfl ?_ (by first | exact kvS (U_next hm)) | refine EW.subW.conv rfl ?_)); (first | done | fail))) hcl5)
    all_goals try (refine EW.nm ?_)
    all_goals (try (have hke : k = nd n := (by omega); subst hke))
    all_goals try ((first | refine EW.eRegL (id := 10) ?_ | refine EW.eReg (id := 10) ?_); refine EW.eMove ?_; refine EW.eEnd ?_; (try refine EW.nm ?_))
    all_goals try (first | refine EW.eYes (x := Operand.tmp 42) ?_ | refine EW.eNo (x := Operand.tmp 42) ?_ | (refine EW.eCond (x := Operand.tmp 42) ?_ ?_ <;> (intro hb hb'; (try dsimp only at hb'); (try (exfalso; first | omega | with_reducible exact absurd rfl hb')))))
    all_goals try (refine EW.nm ?_)
    all_goals try ((first | refine EW.eRegL (id := 11) ?_ | refine EW.eReg (id := 11) ?_); refine EW.eMove ?_; refine EW.eStrAdd (a := [45]) (hl := by simp only [U_len, ld_len, List.length_cons, List.length_nil]; omega) ?_; refine EW.eAssign ?_; refine EW.eEnd ?_; (try refine EW.nm ?_))
    all_goals try ((first | refine EW.eRegL (id := 12) ?_ | refine EW.eReg (id := 12) ?_); refine EW.eMove ?_; refine EW.eAssign ?_; refine EW.eEnd ?_; (try refine EW.nm ?_))
  all_goals (refine EW.eLeaveP ?_; intro w' hW; refine ⟨?_, hW⟩)
  all_goals rfl
theorem rtext (z : Int) (w : World) (h : z.natAbs < 1393796574908163946345982392040522594123776) : Calls Try.prog 33 #[BZ z] w fun e w' => e = .returned (tS (U (tz z))) ∧ Below w.heap.size w w' := by
  have := rtextB (decide (z < 0)) z.natAbs w h
  by_cases hz : z < 0
  · rw [decide_eq_true hz] at this
    rw [tz_neg hz, U_neg, BZ, decide_eq_true hz]; exact this
  · rw [decide_eq_false hz] at this
    rw [tz_pos hz, BZ, decide_eq_false hz]; exact this
end Go.Proofs.Ytbjogekhedglgaa
