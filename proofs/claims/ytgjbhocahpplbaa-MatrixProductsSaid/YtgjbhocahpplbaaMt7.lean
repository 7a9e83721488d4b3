/- Package matrix: Apply, Mul. -/
import Derived.Test.YtgjbhocahpplbaaMt6
import Derived.Test.YtgjbhocahpplbaaMk1
namespace Go.Proofs.Ytgjbhocahpplbaa
set_option linter.unusedSimpArgs false
set_option linter.unusedVariables false
open Go.RowKit EV
open SX (Wr Tv Qu Rm Sh Is conjP eqs_iff eqs_false)
open EW (PlL PlT PlV PlVs LfV Mm Bt Opn GV YT lpOf nums)
set_option maxRecDepth 20000
theorem mcheck_y (m : List Int) (b : Int) (w : World) (lm : m.length = 16) (k1 : -9223372036854775808 ≤ b) (k2 : b ≤ 9223372036854775807) (h : within b m) : Calls Try.prog 21 #[Nm m, .int .i64 b] w fun e w' => e = .returned (.int .i64 0) ∧ Below w.heap.size w w' := by
  have := mcheck m b w lm k1 k2; rwa [if_pos h] at this
theorem mcheck_n (m : List Int) (b : Int) (w : World) (lm : m.length = 16) (k1 : -9223372036854775808 ≤ b) (k2 : b ≤ 9223372036854775807) (h : ¬ within b m) : Calls Try.prog 21 #[Nm m, .int .i64 b] w fun e w' => e = .returned (.int .i64 30) ∧ Below w.heap.size w w' := by
  have := mcheck m b w lm k1 k2; rwa [if_neg h] at this
theorem sE_zero {q : Int} : sE q = 0 ↔ okQ q := by unfold sE; split <;> simp [*]
theorem sE_thirty {q : Int} (h : ¬ sE q = 0) : sE q = 30 := by unfold sE at *; split <;> simp_all
def Sm (l : List Int) : Prop := ∀ i, -4611686018427387904 ≤ l.getD i 0 ∧ l.getD i 0 ≤ 4611686018427387904
theorem within_sm {m : List Int} (h : within 4611686018427387904 m) : Sm m := fun i => by
  rw [List.getD_eq_getElem?_getD]
  cases hl : m[i]? with
  | none => simp
  | some x => exact h.2 x (List.mem_of_getElem? hl)
theorem row_sm {m : List Int} (i : Nat) (h : Sm m) : Sm (row m i) := fun k => by
  rcases Nat.lt_or_ge k 4 with hk | hk
  · rw [row_get hk]; exact h _
  · have : (row m i).getD k 0 = 0 := by
      simp only [row, List.getD_eq_getElem?_getD, List.getElem?_take, if_neg (show ¬ k < 4 by omega)]; rfl
    rw [this]; omega
theorem vec_sm {v : List Int} (lv : v.length = 4) (h : Sm (vec16 v)) : Sm v := fun k => by
  rcases Nat.lt_or_ge k 4 with hk | hk
  · have := h k
    rwa [vec16, List.getD_eq_getElem?_getD, List.getElem?_append_left (by omega), ← List.getD_eq_getElem?_getD] at this
  · rw [List.getD_eq_getElem?_getD, List.getElem?_eq_none (by omega)]; simp
theorem sm_ok {l : List Int} (h : Sm l) : Ok64 l := fun i => by have := h i; omega
theorem pre_in {r v : List Int} (h : Sm r) (h' : Sm v) : ∀ k, (pre r v k).natAbs ≤ k * 21267647932558653966460912964485513216
  | 0 => by simp [pre]
  | k + 1 => by
    have ih := pre_in h h' k
    have h1 := h k
    have h2 := h' k
    have h3 : (r.getD k 0 * v.getD k 0).natAbs ≤ 21267647932558653966460912964485513216 := by
      rw [Int.natAbs_mul]
      have : (r.getD k 0).natAbs * (v.getD k 0).natAbs ≤ 4611686018427387904 * 4611686018427387904 := Nat.mul_le_mul (by omega) (by omega)
      omega
    rw [pre, Nat.add_mul, Nat.one_mul]
    generalize r.getD k 0 * v.getD k 0 = p at *
    omega
theorem pre_128 {r v : List Int} (h : Sm r) (h' : Sm v) : ∀ i, i ≤ 4 → In128 (pre r v i) := fun i hi => by
  have := pre_in h h' i
  have : i * 21267647932558653966460912964485513216 ≤ 4 * 21267647932558653966460912964485513216 := Nat.mul_le_mul_right _ hi
  exact ⟨by omega, by omega⟩
theorem app_err {m v : List Int} {i : Nat} (hi : i < 4) (h : ¬ sE (dq (row m i) v) = 0) : Ending.returned (.tuple #[.agg #[.int .i64 0, .int .i64 0, .int .i64 0, .int .i64 0], .int .i64 (sE (dq (row m i) v))]) = Ending.returned (.tuple #[Nm (appV m v), .int .i64 (appE m v)]) := by
  rw [sE_thirty h]
  exact app_no fun h' => h (sE_zero.2 (h'.2.2 i hi))
theorem mapply (m v : List Int) (w : World) (hm : Ok64 m) (hv : Ok64 v) (lm : m.length = 16) (lv : v.length = 4) : Calls Try.prog 16 #[Nm m, Nm v] w fun e w' => e = .returned (.tuple #[Nm (appV m v), .int .i64 (appE m v)]) ∧ Below w.heap.size w w' := by
  obtain ⟨v0, v1, v2, v3, rfl⟩ := len4 lv
  by_cases h1 : within 4611686018427387904 m
  · have s1 := within_sm h1
    by_cases h2 : within 4611686018427387904 (vec16 [v0, v1, v2, v3])
    · have s2 := vec_sm lv (within_sm h2)
      refine EW.eEnter Try.func16 rfl Try.ntmps16 ?_
      all_goals try (refine EW.nm ?_)
      all_goals try ((first | refine EW.eRegL (id := 0) ?_ | refine EW.eReg (id := 0) ?_); refine EW.eBox ?_; refine EW.eBox ?_; refine EW.eAlloc ?_; refine EW.eAssign ?_; refine EW.eEnd ?_; (try refine EW.nm ?_))
      all_goals try ((first | refine EW.eRegL (id := 1) ?_ | refine EW.eReg (id := 1) ?_); refine EW.eAlloc ?_; refine EW.eEnd ?_; (try refine EW.nm ?_))
      all_goals (try refine EW.eToW 40 true (nums .i64 (outP 4 (fun _ => false) (fun k => dq (row m k) [v0, v1, v2, v3]))) ?_)
      all_goals try ((first | refine EW.eRegL (id := 2) ?_ | refine EW.eReg (id := 2) ?_); refine EW.eLoadA (k := 16) ?_; (first | refine EW.eCall Try.call21 (fun w => mcheck_y m 4611686018427387904 w lm (by omega) (by omega) h1) ?_ | refine EW.eCall Try.call21 (fun w => mcheck_y (vec16 [v0, v1, v2, v3]) 4611686018427387904 w rfl (by omega) (by omega) h2) ?_); refine EW.eNeq ?_; refine EW.eMove ?_)
      all_goals try (refine EW.eGuard (j := 3) (o := ⟨some 14, _, _, _, _, _⟩) ?_ ?_ <;> (intro hb hb'; (try dsimp only at hb'); (try (exfalso; first | omega | with_reducible exact absurd rfl hb'))))
      all_goals try ((first | refine EW.eSkipF (j := 3) ?_ | refine EW.eSkipU (j := 3) ?_ | refine EW.eLoadA (k := 4) ?_); (first | refine EW.eSkipF (j := 3) ?_ | refine EW.eSkipU (j := 3) ?_ | refine EW.eBuild ?_ (hl := bvec v0 v1 v2 v3)); (first | refine EW.eSkipF (j := 3) ?_ | refine EW.eSkipU (j := 3) ?_ | refine EW.eCall Try.call21 (fun w => mcheck_y m 4611686018427387904 w lm (by omega) (by omega) h1) ?_ | refine EW.eCall Try.call21 (fun w => mcheck_y (vec16 [v0, v1, v2, v3]) 4611686018427387904 w rfl (by omega) (by omega) h2) ?_); (first | refine EW.eSkipF (j := 3) ?_ | refine EW.eSkipU (j := 3) ?_ | refine EW.eNeq ?_); (first | refine EW.ePickT ?_ | refine EW.ePickF ?_); refine EW.eEnd ?_; (try refine EW.nm ?_))
      all_goals try (first | refine EW.eYes (x := Operand.tmp 18) ?_ | refine EW.eNo (x := Operand.tmp 18) ?_ | (refine EW.eCond (x := Operand.tmp 18) ?_ ?_ <;> (intro hb hb'; (try dsimp only at hb'); (try (exfalso; first | omega | with_reducible exact absurd rfl hb')))))
      all_goals try (refine EW.nm ?_)
      all_goals try ((first | refine EW.eRegL (id := 3) ?_ | refine EW.eReg (id := 3) ?_); refine EW.eBuild (place := fun i => some (i * 1, 1)) ?_; (first | refine EW.eStoreW (k := 4) ?_ | refine EW.eStore (k := 4) ?_); refine EW.eAssign ?_; refine EW.eEnd ?_; (try refine EW.nm ?_))
      all_goals try ((first | refine EW.eRegL (id := 4) ?_ | refine EW.eReg (id := 4) ?_); refine EW.eMove ?_; refine EW.eEnd ?_; (try refine EW.nm ?_))
      all_goals first | (fail_if_success (refine EW.eUnroll 1 ?_)) | (refine EW.eLoopD [5, 7, 8, 9, 20, 21, 22, 23, 24, 25, 26, 27, 28, 29, 30, 31, 32, 33, 34, 35, 36, 37, 38] 1000000 (fun j : {i : Nat // i ≤ 4 ∧ ∀ k, k < i → sumOk (row m k) [v0, v1, v2, v3]} => [(.t 20, .v (.c (.v (.int .i64 (j.1 : Int))))), (.b 40, .b (.w true (nums .i64 (outP 4 (fun k => decide (k < j.1)) (fun k => dq (row m k) [v0, v1, v2, v3])))))]) (fun j => 4 - j.1) (⟨0, by omega, by intro k h; omega⟩) (by ((repeat (first | exact EW.subW.nil | refine EW.subW.cons rfl ?_ | refine EW.subW.conv rfl ?_ (by first | exact EW.kvW (app_next (sE_zero.1 (by assumption))) | exact EW.kvW (by simp)) | refine EW.subW.conv rfl ?_)); (first | done | fail))) ?_; rintro hcl5 ⟨i, hi, hk⟩; (try dsimp only))
      all_goals try (refine EW.nm ?_)
      all_goals try ((first | refine EW.eRegL (id := 5) ?_ | refine EW.eReg (id := 5) ?_); refine EW.eLss ?_; refine EW.eEnd ?_; (try refine EW.nm ?_))
      all_goals try (first | refine EW.eYes (x := Operand.tmp 21) ?_ | refine EW.eNo (x := Operand.tmp 21) ?_ | (refine EW.eCond (x := Operand.tmp 21) ?_ ?_ <;> (intro hb hb'; (try dsimp only at hb'); (try (exfalso; first | omega | with_reducible exact absurd rfl hb')))))
      all_goals try (refine EW.nm ?_)
      all_goals try ((first | refine EW.eRegL (id := 6) ?_ | refine EW.eReg (id := 6) ?_); refine EW.eMove ?_; refine EW.eAssign ?_; refine EW.eEnd ?_; (try refine EW.nm ?_))
      all_goals try ((first | refine EW.eRegL (id := 7) ?_ | refine EW.eReg (id := 7) ?_); refine EW.eMove ?_; refine EW.eIndexAddr (z := 4) ?_; refine EW.eLoadA (k := 4) ?_; refine EW.eLoadA (k := 4) ?_; refine EW.eCall Try.call25 (fun w => msum (row m i) [v0, v1, v2, v3] w (row_ok i hm) hv (row_len (by omega) lm) rfl (pre_128 (row_sm i s1) s2)) ?_; refine EW.eMove ?_; (first | refine EW.eExtC ?_ | refine EW.eExtA ?_); (first | refine EW.eExtC ?_ | refine EW.eExtA ?_); refine EW.eAssign ?_; refine EW.eAssign ?_; refine EW.eDraw ?_; (try refine EW.nm ?_))
      all_goals try ((first | refine EW.eRegL (id := 8) ?_ | refine EW.eReg (id := 8) ?_); refine EW.eMove ?_; refine EW.eNeq ?_; refine EW.eEnd ?_; (try refine EW.nm ?_))
      all_goals try (first | refine EW.eYes (x := Operand.tmp 32) ?_ | refine EW.eNo (x := Operand.tmp 32) ?_ | (refine EW.eCond (x := Operand.tmp 32) ?_ ?_ <;> (intro hb hb'; (try dsimp only at hb'); (try (exfalso; first | omega | with_reducible exact absurd rfl hb')))))
      all_goals try (refine EW.nm ?_)
      all_goals try ((first | refine EW.eRegL (id := 9) ?_ | refine EW.eReg (id := 9) ?_); refine EW.eBuild (place := fun i => some (i * 1, 1)) ?_; refine EW.eMove ?_; (first | refine EW.eStoreW (k := 4) ?_ | refine EW.eStore (k := 4) ?_); refine EW.eAssign ?_; refine EW.eEnd ?_; (try refine EW.nm ?_))
      all_goals try ((first | refine EW.eRegL (id := 10) ?_ | refine EW.eReg (id := 10) ?_); refine EW.eMove ?_; refine EW.eMove ?_; refine EW.eIndexAddr (z := 1) ?_; (first | refine EW.eStoreW (k := 1) ?_ | refine EW.eStore (k := 1) ?_); refine EW.eEnd ?_; (try refine EW.nm ?_))
      all_goals try ((first | refine EW.eRegL (id := 11) ?_ | refine EW.eReg (id := 11) ?_); refine EW.eAdd ?_; refine EW.eMove ?_; refine EW.eEnd ?_; (try refine EW.nm ?_))
      all_goals first | (fail_if_success (with_reducible refine EW.isLater ?_)) | (refine EW.eLaterD (⟨i + 1, by omega, ok_next hk (sE_zero.1 (by assumption))⟩) (by dsimp only; omega) (by ((repeat (first | exact EW.subW.nil | refine EW.subW.cons rfl ?_ | refine EW.subW.conv rfl ?_ (by first | exact EW.kvW (app_next (sE_zero.1 (by assumption))) | exact EW.kvW (by simp)) | refine EW.subW.conv rfl ?_)); (first | done | fail))) hcl5)
      all_goals try (refine EW.nm ?_)
      all_goals try ((first | refine EW.eRegL (id := 12) ?_ | refine EW.eReg (id := 12) ?_); refine EW.eLoadA (k := 4) ?_; (first | refine EW.eStoreW (k := 4) ?_ | refine EW.eStore (k := 4) ?_); refine EW.eAssign ?_; refine EW.eEnd ?_; (try refine EW.nm ?_))
      all_goals (refine EW.eLeaveP ?_; intro w' hW; refine ⟨?_, hW⟩)
      · exact app_err (by omega) (by assumption)
      · obtain rfl : i = 4 := by omega
        exact app_yes ⟨h1, h2, hk⟩
    · refine EW.eEnter Try.func16 rfl Try.ntmps16 ?_
      all_goals try (refine EW.nm ?_)
      all_goals try ((first | refine EW.eRegL (id := 0) ?_ | refine EW.eReg (id := 0) ?_); refine EW.eBox ?_; refine EW.eBox ?_; refine EW.eAlloc ?_; refine EW.eAssign ?_; refine EW.eEnd ?_; (try refine EW.nm ?_))
      all_goals try ((first | refine EW.eRegL (id := 1) ?_ | refine EW.eReg (id := 1) ?_); refine EW.eAlloc ?_; refine EW.eEnd ?_; (try refine EW.nm ?_))
      all_goals try ((first | refine EW.eRegL (id := 2) ?_ | refine EW.eReg (id := 2) ?_); refine EW.eLoadA (k := 16) ?_; (first | refine EW.eCall Try.call21 (fun w => mcheck_y m 4611686018427387904 w lm (by omega) (by omega) h1) ?_ | refine EW.eCall Try.call21 (fun w => mcheck_n (vec16 [v0, v1, v2, v3]) 4611686018427387904 w rfl (by omega) (by omega) h2) ?_); refine EW.eNeq ?_; refine EW.eMove ?_)
      all_goals try (refine EW.eGuard (j := 3) (o := ⟨some 14, _, _, _, _, _⟩) ?_ ?_ <;> (intro hb hb'; (try dsimp only at hb'); (try (exfalso; first | omega | with_reducible exact absurd rfl hb'))))
      all_goals try ((first | refine EW.eSkipF (j := 3) ?_ | refine EW.eSkipU (j := 3) ?_ | refine EW.eLoadA (k := 4) ?_); (first | refine EW.eSkipF (j := 3) ?_ | refine EW.eSkipU (j := 3) ?_ | refine EW.eBuild ?_ (hl := bvec v0 v1 v2 v3)); (first | refine EW.eSkipF (j := 3) ?_ | refine EW.eSkipU (j := 3) ?_ | refine EW.eCall Try.call21 (fun w => mcheck_y m 4611686018427387904 w lm (by omega) (by omega) h1) ?_ | refine EW.eCall Try.call21 (fun w => mcheck_n (vec16 [v0, v1, v2, v3]) 4611686018427387904 w rfl (by omega) (by omega) h2) ?_); (first | refine EW.eSkipF (j := 3) ?_ | refine EW.eSkipU (j := 3) ?_ | refine EW.eNeq ?_); (first | refine EW.ePickT ?_ | refine EW.ePickF ?_); refine EW.eEnd ?_; (try refine EW.nm ?_))
      all_goals try (first | refine EW.eYes (x := Operand.tmp 18) ?_ | refine EW.eNo (x := Operand.tmp 18) ?_ | (refine EW.eCond (x := Operand.tmp 18) ?_ ?_ <;> (intro hb hb'; (try dsimp only at hb'); (try (exfalso; first | omega | with_reducible exact absurd rfl hb')))))
      all_goals try (refine EW.nm ?_)
      all_goals try ((first | refine EW.eRegL (id := 3) ?_ | refine EW.eReg (id := 3) ?_); refine EW.eBuild (place := fun i => some (i * 1, 1)) ?_; (first | refine EW.eStoreW (k := 4) ?_ | refine EW.eStore (k := 4) ?_); refine EW.eAssign ?_; refine EW.eEnd ?_; (try refine EW.nm ?_))
      all_goals try ((first | refine EW.eRegL (id := 4) ?_ | refine EW.eReg (id := 4) ?_); refine EW.eMove ?_; refine EW.eEnd ?_; (try refine EW.nm ?_))
      all_goals try (refine EW.eUnroll 6 ?_)
      all_goals try (refine EW.nm ?_)
      iterate 6 (
        all_goals try ((first | refine EW.eRegL (id := 5) ?_ | refine EW.eReg (id := 5) ?_); refine EW.eLss ?_; refine EW.eEnd ?_; (try refine EW.nm ?_))
        all_goals try (first | refine EW.eYes (x := Operand.tmp 21) ?_ | refine EW.eNo (x := Operand.tmp 21) ?_ | (refine EW.eCond (x := Operand.tmp 21) ?_ ?_ <;> (intro hb hb'; (try dsimp only at hb'); (try (exfalso; first | omega | with_reducible exact absurd rfl hb')))))
        all_goals try (refine EW.nm ?_)
        all_goals try ((first | refine EW.eRegL (id := 6) ?_ | refine EW.eReg (id := 6) ?_); refine EW.eMove ?_; refine EW.eAssign ?_; refine EW.eEnd ?_; (try refine EW.nm ?_))
        all_goals try ((first | refine EW.eRegL (id := 7) ?_ | refine EW.eReg (id := 7) ?_); refine EW.eMove ?_; refine EW.eIndexAddr (z := 4) ?_; refine EW.eLoadA (k := 4) ?_; refine EW.eLoadA (k := 4) ?_; fail "no contract of mullion/matrix.sum"; refine EW.eMove ?_; (first | refine EW.eExtC ?_ | refine EW.eExtA ?_); (first | refine EW.eExtC ?_ | refine EW.eExtA ?_); refine EW.eAssign ?_; refine EW.eAssign ?_; refine EW.eDraw ?_; (try refine EW.nm ?_))
        all_goals try ((first | refine EW.eRegL (id := 8) ?_ | refine EW.eReg (id := 8) ?_); refine EW.eMove ?_; refine EW.eNeq ?_; refine EW.eEnd ?_; (try refine EW.nm ?_))
        all_goals try (first | refine EW.eYes (x := Operand.tmp 32) ?_ | refine EW.eNo (x := Operand.tmp 32) ?_ | (refine EW.eCond (x := Operand.tmp 32) ?_ ?_ <;> (intro hb hb'; (try dsimp only at hb'); (try (exfalso; first | omega | with_reducible exact absurd rfl hb')))))
        all_goals try (refine EW.nm ?_)
        all_goals try ((first | refine EW.eRegL (id := 9) ?_ | refine EW.eReg (id := 9) ?_); refine EW.eBuild (place := fun i => some (i * 1, 1)) ?_; refine EW.eMove ?_; (first | refine EW.eStoreW (k := 4) ?_ | refine EW.eStore (k := 4) ?_); refine EW.eAssign ?_; refine EW.eEnd ?_; (try refine EW.nm ?_))
        all_goals try ((first | refine EW.eRegL (id := 10) ?_ | refine EW.eReg (id := 10) ?_); refine EW.eMove ?_; refine EW.eMove ?_; refine EW.eIndexAddr (z := 1) ?_; (first | refine EW.eStoreW (k := 1) ?_ | refine EW.eStore (k := 1) ?_); refine EW.eEnd ?_; (try refine EW.nm ?_))
        all_goals try ((first | refine EW.eRegL (id := 11) ?_ | refine EW.eReg (id := 11) ?_); refine EW.eAdd ?_; refine EW.eMove ?_; refine EW.eEnd ?_; (try refine EW.nm ?_)))
      all_goals try ((first | refine EW.eRegL (id := 12) ?_ | refine EW.eReg (id := 12) ?_); refine EW.eLoadA (k := 4) ?_; (first | refine EW.eStoreW (k := 4) ?_ | refine EW.eStore (k := 4) ?_); refine EW.eAssign ?_; refine EW.eEnd ?_; (try refine EW.nm ?_))
      all_goals (refine EW.eLeaveP ?_; intro w' hW; refine ⟨?_, hW⟩)
      all_goals exact app_no fun h => h2 h.2.1
  · refine EW.eEnter Try.func16 rfl Try.ntmps16 ?_
    all_goals try (refine EW.nm ?_)
    all_goals try ((first | refine EW.eRegL (id := 0) ?_ | refine EW.eReg (id := 0) ?_); refine EW.eBox ?_; refine EW.eBox ?_; refine EW.eAlloc ?_; refine EW.eAssign ?_; refine EW.eEnd ?_; (try refine EW.nm ?_))
    all_goals try ((first | refine EW.eRegL (id := 1) ?_ | refine EW.eReg (id := 1) ?_); refine EW.eAlloc ?_; refine EW.eEnd ?_; (try refine EW.nm ?_))
    all_goals try ((first | refine EW.eRegL (id := 2) ?_ | refine EW.eReg (id := 2) ?_); refine EW.eLoadA (k := 16) ?_; refine EW.eCall Try.call21 (fun w => mcheck_n m 4611686018427387904 w lm (by omega) (by omega) h1) ?_; refine EW.eNeq ?_; refine EW.eMove ?_)
    all_goals try (refine EW.eGuard (j := 3) (o := ⟨some 14, _, _, _, _, _⟩) ?_ ?_ <;> (intro hb hb'; (try dsimp only at hb'); (try (exfalso; first | omega | with_reducible exact absurd rfl hb'))))
    all_goals try ((first | refine EW.eSkipF (j := 3) ?_ | refine EW.eSkipU (j := 3) ?_ | refine EW.eLoadA (k := 4) ?_); (first | refine EW.eSkipF (j := 3) ?_ | refine EW.eSkipU (j := 3) ?_ | refine EW.eBuild (place := fun i => some (i * 4, 4)) ?_); (first | refine EW.eSkipF (j := 3) ?_ | refine EW.eSkipU (j := 3) ?_ | refine EW.eCall Try.call21 (fun w => mcheck_n m 4611686018427387904 w lm (by omega) (by omega) h1) ?_); (first | refine EW.eSkipF (j := 3) ?_ | refine EW.eSkipU (j := 3) ?_ | refine EW.eNeq ?_); (first | refine EW.ePickT ?_ | refine EW.ePickF ?_); refine EW.eEnd ?_; (try refine EW.nm ?_))
    all_goals try (first | refine EW.eYes (x := Operand.tmp 18) ?_ | refine EW.eNo (x := Operand.tmp 18) ?_ | (refine EW.eCond (x := Operand.tmp 18) ?_ ?_ <;> (intro hb hb'; (try dsimp only at hb'); (try (exfalso; first | omega | with_reducible exact absurd rfl hb')))))
    all_goals try (refine EW.nm ?_)
    all_goals try ((first | refine EW.eRegL (id := 3) ?_ | refine EW.eReg (id := 3) ?_); refine EW.eBuild (place := fun i => some (i * 1, 1)) ?_; (first | refine EW.eStoreW (k := 4) ?_ | refine EW.eStore (k := 4) ?_); refine EW.eAssign ?_; refine EW.eEnd ?_; (try refine EW.nm ?_))
    all_goals try ((first | refine EW.eRegL (id := 4) ?_ | refine EW.eReg (id := 4) ?_); refine EW.eMove ?_; refine EW.eEnd ?_; (try refine EW.nm ?_))
    all_goals try (refine EW.eUnroll 6 ?_)
    all_goals try (refine EW.nm ?_)
    iterate 6 (
      all_goals try ((first | refine EW.eRegL (id := 5) ?_ | refine EW.eReg (id := 5) ?_); refine EW.eLss ?_; refine EW.eEnd ?_; (try refine EW.nm ?_))
      all_goals try (first | refine EW.eYes (x := Operand.tmp 21) ?_ | refine EW.eNo (x := Operand.tmp 21) ?_ | (refine EW.eCond (x := Operand.tmp 21) ?_ ?_ <;> (intro hb hb'; (try dsimp only at hb'); (try (exfalso; first | omega | with_reducible exact absurd rfl hb')))))
      all_goals try (refine EW.nm ?_)
      all_goals try ((first | refine EW.eRegL (id := 6) ?_ | refine EW.eReg (id := 6) ?_); refine EW.eMove ?_; refine EW.eAssign ?_; refine EW.eEnd ?_; (try refine EW.nm ?_))
      all_goals try ((first | refine EW.eRegL (id := 7) ?_ | refine EW.eReg (id := 7) ?_); refine EW.eMove ?_; refine EW.eIndexAddr (z := 4) ?_; refine EW.eLoadA (k := 4) ?_; refine EW.eLoadA (k := 4) ?_; fail "no contract of mullion/matrix.sum"; refine EW.eMove ?_; (first | refine EW.eExtC ?_ | refine EW.eExtA ?_); (first | refine EW.eExtC ?_ | refine EW.eExtA ?_); refine EW.eAssign ?_; refine EW.eAssign ?_; refine EW.eDraw ?_; (try refine EW.nm ?_))
      all_goals try ((first | refine EW.eRegL (id := 8) ?_ | refine EW.eReg (id := 8) ?_); refine EW.eMove ?_; refine EW.eNeq ?_; refine EW.eEnd ?_; (try refine EW.nm ?_))
      all_goals try (first | refine EW.eYes (x := Operand.tmp 32) ?_ | refine EW.eNo (x := Operand.tmp 32) ?_ | (refine EW.eCond (x := Operand.tmp 32) ?_ ?_ <;> (intro hb hb'; (try dsimp only at hb'); (try (exfalso; first | omega | with_reducible exact absurd rfl hb')))))
      all_goals try (refine EW.nm ?_)
      all_goals try ((first | refine EW.eRegL (id := 9) ?_ | refine EW.eReg (id := 9) ?_); refine EW.eBuild (place := fun i => some (i * 1, 1)) ?_; refine EW.eMove ?_; (first | refine EW.eStoreW (k := 4) ?_ | refine EW.eStore (k := 4) ?_); refine EW.eAssign ?_; refine EW.eEnd ?_; (try refine EW.nm ?_))
      all_goals try ((first | refine EW.eRegL (id := 10) ?_ | refine EW.eReg (id := 10) ?_); refine EW.eMove ?_; refine EW.eMove ?_; refine EW.eIndexAddr (z := 1) ?_; (first | refine EW.eStoreW (k := 1) ?_ | refine EW.eStore (k := 1) ?_); refine EW.eEnd ?_; (try refine EW.nm ?_))
      all_goals try ((first | refine EW.eRegL (id := 11) ?_ | refine EW.eReg (id := 11) ?_); refine EW.eAdd ?_; refine EW.eMove ?_; refine EW.eEnd ?_; (try refine EW.nm ?_)))
    all_goals try ((first | refine EW.eRegL (id := 12) ?_ | refine EW.eReg (id := 12) ?_); refine EW.eLoadA (k := 4) ?_; (first | refine EW.eStoreW (k := 4) ?_ | refine EW.eStore (k := 4) ?_); refine EW.eAssign ?_; refine EW.eEnd ?_; (try refine EW.nm ?_))
    all_goals (refine EW.eLeaveP ?_; intro w' hW; refine ⟨?_, hW⟩)
    all_goals exact app_no fun h => h1 h.1
/-! ### Products -/
def acrossL (l : List Int) : List Int := outP 16 (fun _ => true) (fun k => l.getD (k % 4 * 4 + k / 4) 0)
instance (l : List Int) : EW.LenI (acrossL l) 16 := ⟨outP_len _ _ _⟩
theorem across_list (l : List Int) (w : World) (h : l.length = 16) : Calls Try.prog 14 #[Nm l] w fun e w' => e = .returned (Nm (acrossL l)) ∧ Below w.heap.size w w' := by
  obtain ⟨a0, a1, a2, a3, a4, a5, a6, a7, a8, a9, aa, ab, ac, ad, ae, af, rfl⟩ := len16 h
  exact across_ct a0 a1 a2 a3 a4 a5 a6 a7 a8 a9 aa ab ac ad ae af w
theorem across_get {l : List Int} {k : Nat} (h : k < 16) : (acrossL l).getD k 0 = l.getD (k % 4 * 4 + k / 4) 0 := by
  rw [acrossL, outP_get _ _ h]; rfl
theorem list4 {l : List Int} (h : l.length = 4) : l = [l.getD 0 0, l.getD 1 0, l.getD 2 0, l.getD 3 0] := by
  obtain ⟨a, b, c, d, rfl⟩ := len4 h; rfl
theorem row_across {l : List Int} {c : Nat} (hc : c < 4) : row (acrossL l) c = col l c := by
  have hl : (row (acrossL l) c).length = 4 := row_len hc (outP_len _ _ _)
  rw [list4 hl, row_get (by omega), row_get (by omega), row_get (by omega), row_get (by omega), across_get (by omega), across_get (by omega), across_get (by omega), across_get (by omega)]
  unfold col
  have e : ∀ j, j < 4 → (c * 4 + j) % 4 * 4 + (c * 4 + j) / 4 = 4 * j + c := fun j hj => by omega
  rw [e 0 (by omega), e 1 (by omega), e 2 (by omega), e 3 (by omega)]
  simp
theorem mapply_col (a b : List Int) (c : Nat) (w : World) (hc : c < 4) (ha : Ok64 a) (kb : Ok64 b) (la : a.length = 16) : Calls Try.prog 16 #[Nm a, Nm (row (acrossL b) c)] w fun e w' => e = .returned (.tuple #[Nm (appV a (col b c)), .int .i64 (appE a (col b c))]) ∧ Below w.heap.size w w' := by
  rw [row_across hc]; exact mapply a (col b c) w ha (col_ok c kb) la rfl
def mulG (a b : List Int) (k : Nat) : Int := dq (row a (k % 4)) (col b (k / 4))
theorem mulG_next {a b : List Int} {c : Nat} (hc : c < 4) (h : appE a (col b c) = 0) : nums .i64 (putL (c * 4) (appV a (col b c)) (outP 16 (fun k => decide (k < c * 4)) (mulG a b))) = nums .i64 (outP 16 (fun k => decide (k < (c + 1) * 4)) (mulG a b)) := by
  congr 1
  apply List.ext_getElem?
  intro j
  rw [putL_get _ _ _ _ (by rw [appV_len, outP_len]; omega), appV_len]
  by_cases hj : j < 16
  · by_cases h1 : c * 4 ≤ j ∧ j < c * 4 + 4
    · rw [if_pos h1]
      have e := appV_get (appE_zero.1 h) (r := j - c * 4) (by omega)
      rw [List.getD_eq_getElem?_getD, List.getElem?_eq_getElem (by rw [appV_len]; omega)] at e
      rw [List.getElem?_eq_getElem (by rw [appV_len]; omega)]
      simp only [Option.getD_some] at e
      rw [e]
      simp only [outP, List.getElem?_map, List.getElem?_range hj, Option.map_some]
      rw [if_pos (by simp; omega), mulG, show j % 4 = j - c * 4 by omega, show j / 4 = c by omega]
    · rw [if_neg h1]
      simp only [outP, List.getElem?_map, List.getElem?_range hj, Option.map_some]
      by_cases h2 : j < c * 4
      · rw [if_pos (by simpa using h2), if_pos (by simp; omega)]
      · rw [if_neg (by simpa using h2), if_neg (by simp; omega)]
  · rw [if_neg (by omega), List.getElem?_eq_none (by rw [outP_len]; omega), List.getElem?_eq_none (by rw [outP_len]; omega)]
theorem across_G (a b : List Int) {c : Nat} (hc : c = 4) : acrossL (outP 16 (fun k => decide (k < c * 4)) (mulG a b)) = outP 16 (fun _ => true) (mulF a b) := by
  subst hc
  apply outP_congr
  intro k hk
  refine ⟨rfl, fun _ => ?_⟩
  rw [outP_get _ _ (by omega), if_pos (by simp; omega), mulG, mulF, show (k % 4 * 4 + k / 4) % 4 = k / 4 by omega, show (k % 4 * 4 + k / 4) / 4 = k % 4 by omega]
theorem mmul_yes {a b : List Int} {c : Nat} (hc : c = 4) (h : ∀ k, k < c → appOk a (col b k)) : Ending.returned (.tuple #[Nm (acrossL (outP 16 (fun k => decide (k < c * 4)) (mulG a b))), .int .i64 0]) = Ending.returned (.tuple #[Nm (mulV a b), .int .i64 (mulE a b)]) := by
  rw [across_G a b hc]
  subst hc
  have h : mulOk a b := h
  rw [mulV, mulE, if_pos h, if_pos h]
theorem mmul (a b : List Int) (w : World) (ha : Ok64 a) (kb : Ok64 b) (la : a.length = 16) (lb : b.length = 16) : Calls Try.prog 18 #[Nm a, Nm b] w fun e w' => e = .returned (.tuple #[Nm (mulV a b), .int .i64 (mulE a b)]) ∧ Below w.heap.size w w' := by
  refine EW.eEnter Try.func18 rfl Try.ntmps18 ?_
  all_goals try (refine EW.nm ?_)
  all_goals try ((first | refine EW.eRegL (id := 0) ?_ | refine EW.eReg (id := 0) ?_); refine EW.eBox ?_; refine EW.eBox ?_; refine EW.eAlloc ?_; refine EW.eAssign ?_; refine EW.eEnd ?_; (try refine EW.nm ?_))
  all_goals try ((first | refine EW.eRegL (id := 1) ?_ | refine EW.eReg (id := 1) ?_); refine EW.eAlloc ?_; refine EW.eEnd ?_; (try refine EW.nm ?_))
  all_goals (refine EW.eToW 40 true (nums .i64 (outP 16 (fun k => decide (k < 0 * 4)) (mulG a b))) ?_)
  all_goals try ((first | refine EW.eRegL (id := 2) ?_ | refine EW.eReg (id := 2) ?_); refine EW.eLoadA (k := 16) ?_; (first | refine EW.eCall Try.call14 (fun w => across_list b w lb) ?_ | refine EW.eCall Try.call14 (fun w => across_list (outP 16 (fun k => decide (k < c * 4)) (mulG a b)) w (outP_len _ _ _)) ?_); refine EW.eMove ?_; refine EW.eEnd ?_; (try refine EW.nm ?_))
  all_goals first | (fail_if_success (refine EW.eUnroll 1 ?_)) | (refine EW.eLoopD [5, 7, 8, 9, 10, 13, 14, 15, 16, 17, 18, 19, 20, 21, 22, 23, 24, 25, 26, 27, 28, 29, 30] 1000000 (fun j : {c : Nat // c ≤ 4 ∧ ∀ k, k < c → appOk a (col b k)} => [(.t 13, .v (.c (.v (.int .i64 (j.1 : Int))))), (.b 40, .b (.w true (nums .i64 (outP 16 (fun k => decide (k < j.1 * 4)) (mulG a b)))))]) (fun j => 4 - j.1) (⟨0, by omega, by intro k h; omega⟩) (by ((repeat (first | exact EW.subW.nil | refine EW.subW.cons rfl ?_ | refine EW.subW.conv rfl ?_ (by first | exact EW.kvW (mulG_next (by omega) (by assumption))) | refine EW.subW.conv rfl ?_)); (first | done | fail))) ?_; rintro hcl3 ⟨c, hc, hk⟩; (try dsimp only))
  all_goals try (refine EW.nm ?_)
  all_goals try ((first | refine EW.eRegL (id := 3) ?_ | refine EW.eReg (id := 3) ?_); refine EW.eLss ?_; refine EW.eEnd ?_; (try refine EW.nm ?_))
  all_goals try (first | refine EW.eYes (x := Operand.tmp 14) ?_ | refine EW.eNo (x := Operand.tmp 14) ?_ | (refine EW.eCond (x := Operand.tmp 14) ?_ ?_ <;> (intro hb hb'; (try dsimp only at hb'); (try (exfalso; first | omega | with_reducible exact absurd rfl hb')))))
  all_goals try (refine EW.nm ?_)
  all_goals (try have hrl := row_len' (m := acrossL b) (i := c) (by omega) (outP_len _ _ _))
  all_goals try ((first | refine EW.eRegL (id := 4) ?_ | refine EW.eReg (id := 4) ?_); refine EW.eMove ?_; refine EW.eIndexA (z := 4) ?_; refine EW.eAlloc ?_; refine EW.eAssign ?_; (first | refine EW.eStoreW (k := 4) ?_ | refine EW.eStore (k := 4) ?_); refine EW.eEnd ?_; (try refine EW.nm ?_))
  all_goals try ((first | refine EW.eRegL (id := 5) ?_ | refine EW.eReg (id := 5) ?_); refine EW.eLoadA (k := 16) ?_; refine EW.eLoadA (k := 4) ?_; refine EW.eCall Try.call16 (fun w => mapply_col a b c w (by omega) ha kb la) ?_; refine EW.eMove ?_; (first | refine EW.eExtC ?_ | refine EW.eExtA ?_); (first | refine EW.eExtC ?_ | refine EW.eExtA ?_); refine EW.eAlloc ?_; (first | refine EW.eStoreW (k := 4) ?_ | refine EW.eStore (k := 4) ?_); refine EW.eAssign ?_; refine EW.eEnd ?_; (try refine EW.nm ?_))
  all_goals try ((first | refine EW.eRegL (id := 6) ?_ | refine EW.eReg (id := 6) ?_); refine EW.eMove ?_; refine EW.eNeq ?_; refine EW.eEnd ?_; (try refine EW.nm ?_))
  all_goals try (first | refine EW.eYes (x := Operand.tmp 24) ?_ | refine EW.eNo (x := Operand.tmp 24) ?_ | (refine EW.eCond (x := Operand.tmp 24) ?_ ?_ <;> (intro hb hb'; (try dsimp only at hb'); (try (exfalso; first | omega | with_reducible exact absurd rfl hb')))))
  all_goals try (refine EW.nm ?_)
  all_goals try ((first | refine EW.eRegL (id := 7) ?_ | refine EW.eReg (id := 7) ?_); refine EW.eBuild (place := fun i => some (i * 4, 4)) ?_; refine EW.eMove ?_; (first | refine EW.eStoreW (k := 16) ?_ | refine EW.eStore (k := 16) ?_); refine EW.eAssign ?_; refine EW.eEnd ?_; (try refine EW.nm ?_))
  all_goals try ((first | refine EW.eRegL (id := 8) ?_ | refine EW.eReg (id := 8) ?_); refine EW.eMove ?_; refine EW.eLoadA (k := 4) ?_; refine EW.eIndexAddr (z := 4) ?_; (first | refine EW.eStoreW (k := 4) ?_ | refine EW.eStore (k := 4) ?_); refine EW.eEnd ?_; (try refine EW.nm ?_))
  all_goals try ((first | refine EW.eRegL (id := 9) ?_ | refine EW.eReg (id := 9) ?_); refine EW.eAdd ?_; refine EW.eMove ?_; refine EW.eEnd ?_; (try refine EW.nm ?_))
  all_goals first | (fail_if_success (with_reducible refine EW.isLater ?_)) | (refine EW.eLaterD (⟨c + 1, by omega, mul_okn hk (by assumption)⟩) (by dsimp only; omega) (by ((repeat (first | exact EW.subW.nil | refine EW.subW.cons rfl ?_ | refine EW.subW.conv rfl ?_ (by first | exact EW.kvW (mulG_next (by omega) (by assumption))) | refine EW.subW.conv rfl ?_)); (first | done | fail))) hcl3)
  all_goals try (refine EW.nm ?_)
  all_goals try ((first | refine EW.eRegL (id := 10) ?_ | refine EW.eReg (id := 10) ?_); refine EW.eLoadA (k := 16) ?_; (first | refine EW.eCall Try.call14 (fun w => across_list b w lb) ?_ | refine EW.eCall Try.call14 (fun w => across_list (outP 16 (fun k => decide (k < c * 4)) (mulG a b)) w (outP_len _ _ _)) ?_); (first | refine EW.eStoreW (k := 16) ?_ | refine EW.eStore (k := 16) ?_); refine EW.eAssign ?_; refine EW.eEnd ?_; (try refine EW.nm ?_))
  all_goals (refine EW.eLeaveP ?_; intro w' hW; refine ⟨?_, hW⟩)
  · exact mul_no (by omega) (by assumption)
  · exact mmul_yes (by omega) hk
end Go.Proofs.Ytgjbhocahpplbaa
