/- ClipPlanes, ClipTriangles: the walks of the laws. -/
import Derived.Test.YtleelfdpefmnnaaHCl9
import Derived.Test.YtleelfdpefmnnaaHRow4
namespace Go.Proofs.Ytleelfdpefmnnaa
set_option linter.unusedSimpArgs false
set_option linter.unusedVariables false
open Go.RowKit EV
open SX (Wr Tv Qu Rm Sh Is conjP eqs_iff eqs_false)
open EW (PlL PlT PlV PlVs LfV Mm Bt Opn GV YT lpOf nums)
set_option maxRecDepth 20000
theorem first_bad {p : Nat → Prop} [DecidablePred p] : ∀ {n : Nat}, ¬ (∀ t, t < n → p t) → ∃ t, t < n ∧ (∀ i, i < t → p i) ∧ ¬ p t
  | 0, h => absurd (fun t ht => by omega) h
  | n + 1, h => by
    by_cases h' : ∀ t, t < n → p t
    · refine ⟨n, by omega, h', fun hn => h fun t ht => ?_⟩
      rcases Nat.lt_or_ge t n with h1 | h1
      · exact h' t h1
      · obtain rfl : t = n := by omega
        exact hn
    · obtain ⟨t, h1, h2, h3⟩ := first_bad h'
      exact ⟨t, by omega, h2, h3⟩
theorem sm_or (l : List Vx) : (∀ v ∈ l, v.sm) ∨ ∃ t, t < l.length ∧ (∀ i, i < t → (l.getD i Vx.zero).sm) ∧ ¬ (l.getD t Vx.zero).sm := by
  by_cases h : ∀ t, t < l.length → (l.getD t Vx.zero).sm
  · left
    intro v hv
    obtain ⟨i, hi, rfl⟩ := List.getElem_of_mem hv
    have := h i hi
    rwa [List.getD_eq_getElem?_getD, List.getElem?_eq_getElem hi] at this
  · exact .inr (first_bad h)
theorem mx_is {n : Nat} : Mm .max [.int .i64 0, .int .i64 ((n : Int) - 2)] .i64 ((n - 2 : Nat) : Int) := by
  rcases Nat.lt_or_ge n 2 with h | h
  · rw [show ((n - 2 : Nat) : Int) = 0 by omega]; exact Mm.max2l (by omega)
  · rw [show ((n - 2 : Nat) : Int) = (n : Int) - 2 by omega]; exact Mm.max2r (by omega)
theorem tri_ok (a b c : Vx) (ha : a.sm) (hB : b.sm) (hC : c.sm) (w : World) : Calls Try.prog 4 #[a.val, b.val, c.val] w fun e w' => e = .returned (.bool true) ∧ Below w.heap.size w w' := by
  have hn := clipK_42 (l := [a, b, c]) rfl 7 (by omega)
  have hCC := Clip_ok a b c ha hB hC
  have hRR := rClip_ok a b c ha hB hC
  generalize clipK [a, b, c] 7 = L at *
  have hSS := vsame_self true true L (by omega)
  have hF := fan_ct true L (by omega)
  have hmx := mx_is (n := L.length)
  obtain ⟨a0, a1, a2, a3⟩ := a
  obtain ⟨b0, b1, b2, b3⟩ := b
  obtain ⟨c0, c1, c2, c3⟩ := c
  refine EW.eEnter Try.func4 rfl Try.ntmps4 ?_
  all_goals try (refine EW.nm ?_)
  all_goals try ((first | refine EW.eRegL (id := 0) ?_ | refine EW.eReg (id := 0) ?_); refine EW.eBox ?_; refine EW.eBox ?_; refine EW.eBox ?_; refine EW.eAssign ?_; refine EW.eEnd ?_; (try refine EW.nm ?_))
  all_goals try ((first | refine EW.eRegL (id := 1) ?_ | refine EW.eReg (id := 1) ?_); refine EW.eLoadA (k := 4) ?_; refine EW.eLoadA (k := 4) ?_; refine EW.eLoadA (k := 4) ?_; refine EW.eCallN [] Try.call12 (hCC) ?_; refine EW.eMove ?_; (first | refine EW.eExtC ?_ | refine EW.eExtA ?_); (first | refine EW.eExtC ?_ | refine EW.eExtA ?_); refine EW.eAssign ?_; refine EW.eAssign ?_; refine EW.eEnd ?_; (try refine EW.nm ?_))
  all_goals try ((first | refine EW.eRegL (id := 2) ?_ | refine EW.eReg (id := 2) ?_); refine EW.eLoadA (k := 4) ?_; refine EW.eLoadA (k := 4) ?_; refine EW.eLoadA (k := 4) ?_; refine EW.eCallN [] Try.call13 (hRR) ?_; refine EW.eMove ?_; (first | refine EW.eExtC ?_ | refine EW.eExtA ?_); (first | refine EW.eExtC ?_ | refine EW.eExtA ?_); refine EW.eAssign ?_; refine EW.eAssign ?_; refine EW.eEnd ?_; (try refine EW.nm ?_))
  all_goals try ((first | refine EW.eRegL (id := 3) ?_ | refine EW.eReg (id := 3) ?_); refine EW.eMove ?_; refine EW.eCallN [40] Try.call14 (hF) ?_; refine EW.eAssign ?_; refine EW.eEnd ?_; (try refine EW.nm ?_))
  all_goals try ((first | refine EW.eRegL (id := 4) ?_ | refine EW.eReg (id := 4) ?_); refine EW.eMove ?_; refine EW.eMove ?_; refine EW.eCallN [40, 50] Try.call15 (hSS) ?_; refine EW.eNot ?_; refine EW.eMove ?_)
  all_goals try (refine EW.eGuard (j := 4) (o := ⟨some 34, _, _, _, _, _⟩) ?_ ?_ <;> (intro hb hb'; (try dsimp only at hb'); (try (exfalso; first | omega | with_reducible exact absurd rfl hb'))))
  all_goals try ((first | refine EW.eSkipF (j := 4) ?_ | refine EW.eSkipU (j := 4) ?_ | refine EW.eMove ?_); (first | refine EW.eSkipF (j := 4) ?_ | refine EW.eSkipU (j := 4) ?_ | refine EW.eMove ?_); (first | refine EW.eSkipF (j := 4) ?_ | refine EW.eSkipU (j := 4) ?_ | refine EW.eNeq ?_); (first | refine EW.ePickT ?_ | refine EW.ePickF ?_); refine EW.eMove ?_)
  all_goals try (refine EW.eGuard (j := 9) (o := ⟨some 39, _, _, _, _, _⟩) ?_ ?_ <;> (intro hb hb'; (try dsimp only at hb'); (try (exfalso; first | omega | with_reducible exact absurd rfl hb'))))
  all_goals try ((first | refine EW.eSkipF (j := 9) ?_ | refine EW.eSkipU (j := 9) ?_ | refine EW.eMove ?_); (first | refine EW.eSkipF (j := 9) ?_ | refine EW.eSkipU (j := 9) ?_ | refine EW.eLenS ?_ | refine EW.eLenG ?_ | refine EW.eLenN ?_); (first | refine EW.eSkipF (j := 9) ?_ | refine EW.eSkipU (j := 9) ?_ | refine EW.eMove ?_); (first | refine EW.eSkipF (j := 9) ?_ | refine EW.eSkipU (j := 9) ?_ | refine EW.eLenS ?_ | refine EW.eLenG ?_ | refine EW.eLenN ?_); (first | refine EW.eSkipF (j := 9) ?_ | refine EW.eSkipU (j := 9) ?_ | refine EW.eSub ?_); (first | refine EW.eSkipF (j := 9) ?_ | refine EW.eSkipU (j := 9) ?_ | refine EW.eMax ?_ (hr' := hmx)); (first | refine EW.eSkipF (j := 9) ?_ | refine EW.eSkipU (j := 9) ?_ | refine EW.eNeq ?_); (first | refine EW.ePickT ?_ | refine EW.ePickF ?_); refine EW.eEnd ?_; (try refine EW.nm ?_))
  all_goals try (first | refine EW.eYes (x := Operand.tmp 46) ?_ | refine EW.eNo (x := Operand.tmp 46) ?_ | (refine EW.eCond (x := Operand.tmp 46) ?_ ?_ <;> (intro hb hb'; (try dsimp only at hb'); (try (exfalso; first | omega | with_reducible exact absurd rfl hb')))))
  all_goals try (refine EW.nm ?_)
  all_goals try ((first | refine EW.eRegL (id := 5) ?_ | refine EW.eReg (id := 5) ?_); refine EW.eAssign ?_; refine EW.eEnd ?_; (try refine EW.nm ?_))
  all_goals try ((first | refine EW.eRegL (id := 6) ?_ | refine EW.eReg (id := 6) ?_); refine EW.eMove ?_; (first | refine EW.eLenS ?_ | refine EW.eLenG ?_ | refine EW.eLenN ?_); refine EW.eMove ?_; refine EW.eEnd ?_; (try refine EW.nm ?_))
  all_goals first | (fail_if_success (refine EW.eUnroll 1 ?_)) | (refine EW.eLoopD [6, 12, 49, 50, 51, 52, 53, 54, 55, 56, 57, 58, 59, 60, 61, 62, 63, 64, 65, 66, 67, 68, 69, 70, 71] 1000000 (fun j : {i : Nat // i ≤ L.length - 2} => [(.t 49, .v (.c (.v (.int .i64 j.1))))]) (fun j => L.length - 2 - j.1) (⟨0, by omega⟩) (by ((repeat (first | exact EW.subW.nil | refine EW.subW.cons rfl ?_ | refine EW.subW.conv rfl ?_)); (first | done | fail))) ?_; rintro hcl7 ⟨i, hi⟩; (try dsimp only))
  all_goals try (refine EW.nm ?_)
  all_goals try ((first | refine EW.eRegL (id := 7) ?_ | refine EW.eReg (id := 7) ?_); refine EW.eLss ?_; refine EW.eEnd ?_; (try refine EW.nm ?_))
  all_goals try (first | refine EW.eYes (x := Operand.tmp 50) ?_ | refine EW.eNo (x := Operand.tmp 50) ?_ | (refine EW.eCond (x := Operand.tmp 50) ?_ ?_ <;> (intro hb hb'; (try dsimp only at hb'); (try (exfalso; first | omega | with_reducible exact absurd rfl hb')))))
  all_goals try (refine EW.nm ?_)
  all_goals try ((first | refine EW.eRegL (id := 8) ?_ | refine EW.eReg (id := 8) ?_); refine EW.eMove ?_; refine EW.eAssign ?_; refine EW.eEnd ?_; (try refine EW.nm ?_))
  all_goals try ((first | refine EW.eRegL (id := 9) ?_ | refine EW.eReg (id := 9) ?_); refine EW.eMove ?_; refine EW.eMove ?_; (first | refine EW.eIndexAddrS (z := 12) ?_ | refine EW.eIndexAddrG (z := 12) ?_); refine EW.eLoadA (k := 12) ?_; refine EW.eMove ?_; (first | refine EW.eIndexAddrS (z := 4) ?_ | refine EW.eIndexAddrG (z := 4) ?_); refine EW.eLoadA (k := 4) ?_; refine EW.eMove ?_; refine EW.eMove ?_; refine EW.eAdd ?_; (first | refine EW.eIndexAddrS (z := 4) ?_ | refine EW.eIndexAddrG (z := 4) ?_); refine EW.eLoadA (k := 4) ?_; refine EW.eMove ?_; refine EW.eMove ?_; refine EW.eAdd ?_; (first | refine EW.eIndexAddrS (z := 4) ?_ | refine EW.eIndexAddrG (z := 4) ?_); refine EW.eLoadA (k := 4) ?_; refine EW.eBuild (place := fun i => some (i * 4, 4)) ?_; refine EW.eNeqA ?_; refine EW.eDraw ?_; (try refine EW.nm ?_))
  all_goals try (first | refine EW.eYes (x := Operand.tmp 70) ?_ | refine EW.eNo (x := Operand.tmp 70) ?_ | (refine EW.eCond (x := Operand.tmp 70) ?_ ?_ <;> (intro hb hb'; (try dsimp only at hb'); (try (exfalso; first | omega | with_reducible exact absurd rfl hb')))))
  all_goals try (refine EW.nm ?_)
  all_goals try ((first | refine EW.eRegL (id := 10) ?_ | refine EW.eReg (id := 10) ?_); refine EW.eAssign ?_; refine EW.eEnd ?_; (try refine EW.nm ?_))
  all_goals try ((first | refine EW.eRegL (id := 11) ?_ | refine EW.eReg (id := 11) ?_); refine EW.eAdd ?_; refine EW.eMove ?_; refine EW.eEnd ?_; (try refine EW.nm ?_))
  all_goals first | (fail_if_success (with_reducible refine EW.isLater ?_)) | (refine EW.eLaterD (⟨i + 1, by omega⟩) (by dsimp only; omega) (by ((repeat (first | exact EW.subW.nil | refine EW.subW.cons rfl ?_ | refine EW.subW.conv rfl ?_)); (first | done | fail))) hcl7)
  all_goals try (refine EW.nm ?_)
  all_goals try ((first | refine EW.eRegL (id := 12) ?_ | refine EW.eReg (id := 12) ?_); refine EW.eAssign ?_; refine EW.eEnd ?_; (try refine EW.nm ?_))
  all_goals (refine EW.eLeaveP ?_; intro w' hW; refine ⟨?_, hW⟩)
  all_goals rfl
theorem tri_no (a b c : Vx) (t : Nat) (ht : t < 3) (hs : ∀ i, i < t → ([a, b, c].getD i Vx.zero).sm) (hno : ¬ ([a, b, c].getD t Vx.zero).sm) (w : World) : Calls Try.prog 4 #[a.val, b.val, c.val] w fun e w' => e = .returned (.bool true) ∧ Below w.heap.size w w' := by
  have hCC := Clip_no a b c t ht hs hno
  have hRR := rClip_no a b c t ht hs hno
  have hF : ∀ w : World, Calls Try.prog 14 #[.slice none 0 0] w fun e w' => e = .returned (.slice none 0 0) ∧ Below w.heap.size w w' := by
    intro w
    refine EW.eEnter Try.func14 rfl Try.ntmps14 ?_
    all_goals try (refine EW.nm ?_)
    all_goals try ((first | refine EW.eRegL (id := 0) ?_ | refine EW.eReg (id := 0) ?_); refine EW.eAssign ?_; refine EW.eEnd ?_; (try refine EW.nm ?_))
    all_goals try ((first | refine EW.eRegL (id := 1) ?_ | refine EW.eReg (id := 1) ?_); refine EW.eAssign ?_; refine EW.eEnd ?_; (try refine EW.nm ?_))
    all_goals try ((first | refine EW.eRegL (id := 2) ?_ | refine EW.eReg (id := 2) ?_); refine EW.eAssign ?_; refine EW.eEnd ?_; (try refine EW.nm ?_))
    all_goals try (refine EW.eUnroll 1 ?_)
    all_goals try (refine EW.nm ?_)
    iterate 1 (
      all_goals try ((first | refine EW.eRegL (id := 3) ?_ | refine EW.eReg (id := 3) ?_); refine EW.eMove ?_; refine EW.eMove ?_; (first | refine EW.eLenS ?_ | refine EW.eLenG ?_ | refine EW.eLenN ?_); refine EW.eLss ?_; refine EW.eEnd ?_; (try refine EW.nm ?_))
      all_goals try (first | refine EW.eYes (x := Operand.tmp 8) ?_ | refine EW.eNo (x := Operand.tmp 8) ?_ | (refine EW.eCond (x := Operand.tmp 8) ?_ ?_ <;> (intro hb hb'; (try dsimp only at hb'); (try (exfalso; first | omega | with_reducible exact absurd rfl hb')))))
      all_goals try (refine EW.nm ?_)
      all_goals try ((first | refine EW.eRegL (id := 5) ?_ | refine EW.eReg (id := 5) ?_); refine EW.eMove ?_; refine EW.eMove ?_; (first | refine EW.eIndexAddrS (z := 4) ?_ | refine EW.eIndexAddrG (z := 4) ?_); refine EW.eLoadA (k := 4) ?_; refine EW.eMove ?_; refine EW.eMove ?_; refine EW.eSub ?_; (first | refine EW.eIndexAddrS (z := 4) ?_ | refine EW.eIndexAddrG (z := 4) ?_); refine EW.eLoadA (k := 4) ?_; refine EW.eMove ?_; refine EW.eMove ?_; (first | refine EW.eIndexAddrS (z := 4) ?_ | refine EW.eIndexAddrG (z := 4) ?_); refine EW.eLoadA (k := 4) ?_; refine EW.eBuild (place := fun i => some (i * 4, 4)) ?_; refine EW.eBuildSlice (k := 12) ?_; (first | refine EW.eAppGW (z := 12) ?_ | refine EW.eAppG (z := 12) ?_ | refine EW.eAppZW (z := 12) ?_ | refine EW.eAppZ (z := 12) ?_ | refine EW.eAppSW (z := 12) ?_ | refine EW.eAppS (z := 12) ?_ | refine EW.eAppNW (z := 12) ?_ | refine EW.eAppN (z := 12) ?_); refine EW.eAssign ?_; refine EW.eDraw ?_; (try refine EW.nm ?_))
      all_goals try ((first | refine EW.eRegL (id := 4) ?_ | refine EW.eReg (id := 4) ?_); refine EW.eMove ?_; refine EW.eAdd ?_; refine EW.eAssign ?_; refine EW.eEnd ?_; (try refine EW.nm ?_)))
    all_goals try ((first | refine EW.eRegL (id := 6) ?_ | refine EW.eReg (id := 6) ?_); refine EW.eMove ?_; refine EW.eAssign ?_; refine EW.eEnd ?_; (try refine EW.nm ?_))
    all_goals (refine EW.eLeaveP ?_; intro w' hW; refine ⟨?_, hW⟩)
    all_goals rfl
  obtain ⟨a0, a1, a2, a3⟩ := a
  obtain ⟨b0, b1, b2, b3⟩ := b
  obtain ⟨c0, c1, c2, c3⟩ := c
  refine EW.eEnter Try.func4 rfl Try.ntmps4 ?_
  all_goals try (refine EW.nm ?_)
  all_goals try ((first | refine EW.eRegL (id := 0) ?_ | refine EW.eReg (id := 0) ?_); refine EW.eBox ?_; refine EW.eBox ?_; refine EW.eBox ?_; refine EW.eAssign ?_; refine EW.eEnd ?_; (try refine EW.nm ?_))
  all_goals try ((first | refine EW.eRegL (id := 1) ?_ | refine EW.eReg (id := 1) ?_); refine EW.eLoadA (k := 4) ?_; refine EW.eLoadA (k := 4) ?_; refine EW.eLoadA (k := 4) ?_; refine EW.eCallN [] Try.call12 (hCC) ?_; refine EW.eMove ?_; (first | refine EW.eExtC ?_ | refine EW.eExtA ?_); (first | refine EW.eExtC ?_ | refine EW.eExtA ?_); refine EW.eAssign ?_; refine EW.eAssign ?_; refine EW.eEnd ?_; (try refine EW.nm ?_))
  all_goals try ((first | refine EW.eRegL (id := 2) ?_ | refine EW.eReg (id := 2) ?_); refine EW.eLoadA (k := 4) ?_; refine EW.eLoadA (k := 4) ?_; refine EW.eLoadA (k := 4) ?_; refine EW.eCallN [] Try.call13 (hRR) ?_; refine EW.eMove ?_; (first | refine EW.eExtC ?_ | refine EW.eExtA ?_); (first | refine EW.eExtC ?_ | refine EW.eExtA ?_); refine EW.eAssign ?_; refine EW.eAssign ?_; refine EW.eEnd ?_; (try refine EW.nm ?_))
  all_goals try ((first | refine EW.eRegL (id := 3) ?_ | refine EW.eReg (id := 3) ?_); refine EW.eMove ?_; refine EW.eCall Try.call14 (fun w => hF w) ?_; refine EW.eAssign ?_; refine EW.eEnd ?_; (try refine EW.nm ?_))
  all_goals try ((first | refine EW.eRegL (id := 4) ?_ | refine EW.eReg (id := 4) ?_); refine EW.eMove ?_; refine EW.eMove ?_; refine EW.eCall Try.call15 (fun w => vsame_nil w) ?_; refine EW.eNot ?_; refine EW.eMove ?_)
  all_goals try (refine EW.eGuard (j := 4) (o := ⟨some 34, _, _, _, _, _⟩) ?_ ?_ <;> (intro hb hb'; (try dsimp only at hb'); (try (exfalso; first | omega | with_reducible exact absurd rfl hb'))))
  all_goals try ((first | refine EW.eSkipF (j := 4) ?_ | refine EW.eSkipU (j := 4) ?_ | refine EW.eMove ?_); (first | refine EW.eSkipF (j := 4) ?_ | refine EW.eSkipU (j := 4) ?_ | refine EW.eMove ?_); (first | refine EW.eSkipF (j := 4) ?_ | refine EW.eSkipU (j := 4) ?_ | refine EW.eNeq ?_); (first | refine EW.ePickT ?_ | refine EW.ePickF ?_); refine EW.eMove ?_)
  all_goals try (refine EW.eGuard (j := 9) (o := ⟨some 39, _, _, _, _, _⟩) ?_ ?_ <;> (intro hb hb'; (try dsimp only at hb'); (try (exfalso; first | omega | with_reducible exact absurd rfl hb'))))
  all_goals try ((first | refine EW.eSkipF (j := 9) ?_ | refine EW.eSkipU (j := 9) ?_ | refine EW.eMove ?_); (first | refine EW.eSkipF (j := 9) ?_ | refine EW.eSkipU (j := 9) ?_ | refine EW.eLenS ?_ | refine EW.eLenG ?_ | refine EW.eLenN ?_); (first | refine EW.eSkipF (j := 9) ?_ | refine EW.eSkipU (j := 9) ?_ | refine EW.eMove ?_); (first | refine EW.eSkipF (j := 9) ?_ | refine EW.eSkipU (j := 9) ?_ | refine EW.eLenS ?_ | refine EW.eLenG ?_ | refine EW.eLenN ?_); (first | refine EW.eSkipF (j := 9) ?_ | refine EW.eSkipU (j := 9) ?_ | refine EW.eSub ?_); (first | refine EW.eSkipF (j := 9) ?_ | refine EW.eSkipU (j := 9) ?_ | refine EW.eMax ?_); (first | refine EW.eSkipF (j := 9) ?_ | refine EW.eSkipU (j := 9) ?_ | refine EW.eNeq ?_); (first | refine EW.ePickT ?_ | refine EW.ePickF ?_); refine EW.eEnd ?_; (try refine EW.nm ?_))
  all_goals try (first | refine EW.eYes (x := Operand.tmp 46) ?_ | refine EW.eNo (x := Operand.tmp 46) ?_ | (refine EW.eCond (x := Operand.tmp 46) ?_ ?_ <;> (intro hb hb'; (try dsimp only at hb'); (try (exfalso; first | omega | with_reducible exact absurd rfl hb')))))
  all_goals try (refine EW.nm ?_)
  all_goals try ((first | refine EW.eRegL (id := 5) ?_ | refine EW.eReg (id := 5) ?_); refine EW.eAssign ?_; refine EW.eEnd ?_; (try refine EW.nm ?_))
  all_goals try ((first | refine EW.eRegL (id := 6) ?_ | refine EW.eReg (id := 6) ?_); refine EW.eMove ?_; (first | refine EW.eLenS ?_ | refine EW.eLenG ?_ | refine EW.eLenN ?_); refine EW.eMove ?_; refine EW.eEnd ?_; (try refine EW.nm ?_))
  all_goals try (refine EW.eUnroll 1 ?_)
  all_goals try (refine EW.nm ?_)
  iterate 1 (
    all_goals try ((first | refine EW.eRegL (id := 7) ?_ | refine EW.eReg (id := 7) ?_); refine EW.eLss ?_; refine EW.eEnd ?_; (try refine EW.nm ?_))
    all_goals try (first | refine EW.eYes (x := Operand.tmp 50) ?_ | refine EW.eNo (x := Operand.tmp 50) ?_ | (refine EW.eCond (x := Operand.tmp 50) ?_ ?_ <;> (intro hb hb'; (try dsimp only at hb'); (try (exfalso; first | omega | with_reducible exact absurd rfl hb')))))
    all_goals try (refine EW.nm ?_)
    all_goals try ((first | refine EW.eRegL (id := 8) ?_ | refine EW.eReg (id := 8) ?_); refine EW.eMove ?_; refine EW.eAssign ?_; refine EW.eEnd ?_; (try refine EW.nm ?_))
    all_goals try ((first | refine EW.eRegL (id := 9) ?_ | refine EW.eReg (id := 9) ?_); refine EW.eMove ?_; refine EW.eMove ?_; (first | refine EW.eIndexAddrS (z := 12) ?_ | refine EW.eIndexAddrG (z := 12) ?_); refine EW.eLoadA (k := 12) ?_; refine EW.eMove ?_; (first | refine EW.eIndexAddrS (z := 4) ?_ | refine EW.eIndexAddrG (z := 4) ?_); refine EW.eLoadA (k := 4) ?_; refine EW.eMove ?_; refine EW.eMove ?_; refine EW.eAdd ?_; (first | refine EW.eIndexAddrS (z := 4) ?_ | refine EW.eIndexAddrG (z := 4) ?_); refine EW.eLoadA (k := 4) ?_; refine EW.eMove ?_; refine EW.eMove ?_; refine EW.eAdd ?_; (first | refine EW.eIndexAddrS (z := 4) ?_ | refine EW.eIndexAddrG (z := 4) ?_); refine EW.eLoadA (k := 4) ?_; refine EW.eBuild (place := fun i => some (i * 4, 4)) ?_; refine EW.eNeqA ?_; refine EW.eDraw ?_; (try refine EW.nm ?_))
    all_goals try (first | refine EW.eYes (x := Operand.tmp 70) ?_ | refine EW.eNo (x := Operand.tmp 70) ?_ | (refine EW.eCond (x := Operand.tmp 70) ?_ ?_ <;> (intro hb hb'; (try dsimp only at hb'); (try (exfalso; first | omega | with_reducible exact absurd rfl hb')))))
    all_goals try (refine EW.nm ?_)
    all_goals try ((first | refine EW.eRegL (id := 10) ?_ | refine EW.eReg (id := 10) ?_); refine EW.eAssign ?_; refine EW.eEnd ?_; (try refine EW.nm ?_))
    all_goals try ((first | refine EW.eRegL (id := 11) ?_ | refine EW.eReg (id := 11) ?_); refine EW.eAdd ?_; refine EW.eMove ?_; refine EW.eEnd ?_; (try refine EW.nm ?_)))
  all_goals try ((first | refine EW.eRegL (id := 12) ?_ | refine EW.eReg (id := 12) ?_); refine EW.eAssign ?_; refine EW.eEnd ?_; (try refine EW.nm ?_))
  all_goals (refine EW.eLeaveP ?_; intro w' hW; refine ⟨?_, hW⟩)
  all_goals rfl
theorem triangles (w : World) (a0 a1 a2 a3 b0 b1 b2 b3 c0 c1 c2 c3 : Int) : Calls Try.prog 4 #[V4 a0 a1 a2 a3, V4 b0 b1 b2 b3, V4 c0 c1 c2 c3] w fun e w' => e = .returned (.bool true) ∧ Below w.heap.size w w' := by
  rcases sm_or (L3 a0 a1 a2 a3 b0 b1 b2 b3 c0 c1 c2 c3) with hs | ⟨t, h1, h2, h3⟩
  · exact tri_ok ⟨a0, a1, a2, a3⟩ ⟨b0, b1, b2, b3⟩ ⟨c0, c1, c2, c3⟩ (hs _ (by simp)) (hs _ (by simp)) (hs _ (by simp)) w
  · exact tri_no ⟨a0, a1, a2, a3⟩ ⟨b0, b1, b2, b3⟩ ⟨c0, c1, c2, c3⟩ t h1 h2 h3 w
end Go.Proofs.Ytleelfdpefmnnaa
