/- MatrixBounds: the examples of the chapter, the walk of the law. -/
import Derived.Test.YtgjbhocahpplbaaZN
namespace Go.Proofs.Ytgjbhocahpplbaa
set_option linter.unusedSimpArgs false
set_option linter.unusedVariables false
open Go.RowKit EV
open SX (Wr Tv Qu Rm Sh Is conjP eqs_iff eqs_false)
open EW (PlL PlT PlV PlVs LfV Mm Bt Opn GV YT lpOf nums)
set_option maxRecDepth 20000
theorem ok_of {l : List Int} (h : ∀ n ∈ l, -9223372036854775808 ≤ n ∧ n ≤ 9223372036854775807) : Ok64 l := fun i => by
  rw [List.getD_eq_getElem?_getD]
  cases hl : l[i]? with
  | none => simp
  | some x => exact h x (List.mem_of_getElem? hl)
theorem alive1 (w : World) : Calls Try.prog 16 #[A16 [65536, 0, 0, 1, 0, 65536, 0, 2, 0, 0, 65536, 3, 0, 0, 0, 65536], .agg #[I 10, I 20, I 30, I 65536]] w fun e w' => e = .returned (.tuple #[.agg #[I 11, I 22, I 33, I 65536], I 0]) ∧ Below w.heap.size w w' := by
  have := mapply [65536, 0, 0, 1, 0, 65536, 0, 2, 0, 0, 65536, 3, 0, 0, 0, 65536] [10, 20, 30, 65536] w (ok_of (by decide)) (ok_of (by decide)) rfl rfl
  rw [show appV [65536, 0, 0, 1, 0, 65536, 0, 2, 0, 0, 65536, 3, 0, 0, 0, 65536] [10, 20, 30, 65536] = [11, 22, 33, 65536] from by decide +kernel, show appE [65536, 0, 0, 1, 0, 65536, 0, 2, 0, 0, 65536, 3, 0, 0, 0, 65536] [10, 20, 30, 65536] = 0 from by decide +kernel] at this
  exact this
theorem alive2 (w : World) : Calls Try.prog 16 #[A16 [-1, 0, 0, 0, 0, 1, 0, 0, 0, 0, 1, 0, 0, 0, 0, 65536], .agg #[I 1, I 1, I 1, I 1]] w fun e w' => e = .returned (.tuple #[.agg #[I (-1), I 0, I 0, I 1], I 0]) ∧ Below w.heap.size w w' := by
  have := mapply [-1, 0, 0, 0, 0, 1, 0, 0, 0, 0, 1, 0, 0, 0, 0, 65536] [1, 1, 1, 1] w (ok_of (by decide)) (ok_of (by decide)) rfl rfl
  rw [show appV [-1, 0, 0, 0, 0, 1, 0, 0, 0, 0, 1, 0, 0, 0, 0, 65536] [1, 1, 1, 1] = [-1, 0, 0, 1] from by decide +kernel, show appE [-1, 0, 0, 0, 0, 1, 0, 0, 0, 0, 1, 0, 0, 0, 0, 65536] [1, 1, 1, 1] = 0 from by decide +kernel] at this
  exact this
theorem malive (w : World) : Calls Try.prog 15 #[] w fun e w' => e = .returned (.bool true) ∧ Below w.heap.size w w' := by
  refine EW.eEnter Try.func15 rfl Try.ntmps15 ?_
  all_goals try (refine EW.nm ?_)
  all_goals try ((first | refine EW.eRegL (id := 0) ?_ | refine EW.eReg (id := 0) ?_); refine EW.eAssign ?_; refine EW.eEnd ?_; (try refine EW.nm ?_))
  all_goals try ((first | refine EW.eRegL (id := 1) ?_ | refine EW.eReg (id := 1) ?_); refine EW.eCall Try.call9 (fun w => mmove 1 2 3 w) ?_; refine EW.eBuild (place := fun i => some (i * 1, 1)) ?_; (first | refine EW.eCall Try.call16 (fun w => alive1 w) ?_ | refine EW.eCall Try.call16 (fun w => alive2 w) ?_); refine EW.eMove ?_; (first | refine EW.eExtC ?_ | refine EW.eExtA ?_); (first | refine EW.eExtC ?_ | refine EW.eExtA ?_); refine EW.eAlloc ?_; (first | refine EW.eStoreW (k := 4) ?_ | refine EW.eStore (k := 4) ?_); refine EW.eAssign ?_; refine EW.eEnd ?_; (try refine EW.nm ?_))
  all_goals try ((first | refine EW.eRegL (id := 2) ?_ | refine EW.eReg (id := 2) ?_); refine EW.eCall Try.call10 (fun w => mscale (-1) 1 1 w) ?_; refine EW.eBuild (place := fun i => some (i * 1, 1)) ?_; (first | refine EW.eCall Try.call16 (fun w => alive1 w) ?_ | refine EW.eCall Try.call16 (fun w => alive2 w) ?_); refine EW.eMove ?_; (first | refine EW.eExtC ?_ | refine EW.eExtA ?_); (first | refine EW.eExtC ?_ | refine EW.eExtA ?_); refine EW.eAlloc ?_; (first | refine EW.eStoreW (k := 4) ?_ | refine EW.eStore (k := 4) ?_); refine EW.eAssign ?_; refine EW.eEnd ?_; (try refine EW.nm ?_))
  all_goals try ((first | refine EW.eRegL (id := 3) ?_ | refine EW.eReg (id := 3) ?_); refine EW.eLoadA (k := 4) ?_; refine EW.eBuild (place := fun i => some (i * 1, 1)) ?_; refine EW.eEqlA ?_; refine EW.eMove ?_)
  all_goals try (refine EW.eGuard (j := 3) (o := ⟨some 21, _, _, _, _, _⟩) ?_ ?_ <;> (intro hb hb'; (try dsimp only at hb'); (try (exfalso; first | omega | with_reducible exact absurd rfl hb'))))
  all_goals try ((first | refine EW.eSkipT (j := 3) ?_ | refine EW.eSkipU (j := 3) ?_ | refine EW.eMove ?_); (first | refine EW.eSkipT (j := 3) ?_ | refine EW.eSkipU (j := 3) ?_ | refine EW.eEql ?_); (first | refine EW.ePickT ?_ | refine EW.ePickF ?_); refine EW.eMove ?_)
  all_goals try (refine EW.eGuard (j := 7) (o := ⟨some 25, _, _, _, _, _⟩) ?_ ?_ <;> (intro hb hb'; (try dsimp only at hb'); (try (exfalso; first | omega | with_reducible exact absurd rfl hb'))))
  all_goals try ((first | refine EW.eSkipT (j := 7) ?_ | refine EW.eSkipU (j := 7) ?_ | refine EW.eLoadA (k := 4) ?_); (first | refine EW.eSkipT (j := 7) ?_ | refine EW.eSkipU (j := 7) ?_ | refine EW.eBuild (place := fun i => some (i * 1, 1)) ?_); (first | refine EW.eSkipT (j := 7) ?_ | refine EW.eSkipU (j := 7) ?_ | refine EW.eEqlA ?_); (first | refine EW.ePickT ?_ | refine EW.ePickF ?_); refine EW.eMove ?_)
  all_goals try (refine EW.eGuard (j := 12) (o := ⟨some 30, _, _, _, _, _⟩) ?_ ?_ <;> (intro hb hb'; (try dsimp only at hb'); (try (exfalso; first | omega | with_reducible exact absurd rfl hb'))))
  all_goals try ((first | refine EW.eSkipT (j := 12) ?_ | refine EW.eSkipU (j := 12) ?_ | refine EW.eMove ?_); (first | refine EW.eSkipT (j := 12) ?_ | refine EW.eSkipU (j := 12) ?_ | refine EW.eEql ?_); (first | refine EW.ePickT ?_ | refine EW.ePickF ?_); refine EW.eAssign ?_; refine EW.eEnd ?_; (try refine EW.nm ?_))
  all_goals (refine EW.eLeaveP ?_; intro w' hW; refine ⟨?_, hW⟩)
  all_goals rfl
theorem mabs (n : Int) (w : World) (h0 : -9223372036854775807 ≤ n) (h1 : n ≤ 9223372036854775807) : Calls Try.prog 17 #[I n] w fun e w' => e = .returned (I (n.natAbs : Int)) ∧ Below w.heap.size w w' := by
  refine EW.eEnter Try.func17 rfl Try.ntmps17 ?_
  all_goals try (refine EW.nm ?_)
  all_goals try ((first | refine EW.eRegL (id := 0) ?_ | refine EW.eReg (id := 0) ?_); refine EW.eAssign ?_; refine EW.eEnd ?_; (try refine EW.nm ?_))
  all_goals try ((first | refine EW.eRegL (id := 1) ?_ | refine EW.eReg (id := 1) ?_); refine EW.eMove ?_; refine EW.eLss ?_; refine EW.eEnd ?_; (try refine EW.nm ?_))
  all_goals try (first | refine EW.eYes (x := Operand.tmp 4) ?_ | refine EW.eNo (x := Operand.tmp 4) ?_ | (refine EW.eCond (x := Operand.tmp 4) ?_ ?_ <;> (intro hb hb'; (try dsimp only at hb'); (try (exfalso; first | omega | with_reducible exact absurd rfl hb')))))
  all_goals try (refine EW.nm ?_)
  all_goals try ((first | refine EW.eRegL (id := 2) ?_ | refine EW.eReg (id := 2) ?_); refine EW.eMove ?_; refine EW.eNeg ?_; refine EW.eAssign ?_; refine EW.eEnd ?_; (try refine EW.nm ?_))
  all_goals try ((first | refine EW.eRegL (id := 3) ?_ | refine EW.eReg (id := 3) ?_); refine EW.eMove ?_; refine EW.eAssign ?_; refine EW.eEnd ?_; (try refine EW.nm ?_))
  all_goals (refine EW.eLeaveP ?_; intro w' hW; refine ⟨?_, hW⟩)
  all_goals (refine congrArg (fun n => Ending.returned (.int .i64 n)) ?_; omega)
theorem pd_le {M v : List Int} (hM : ∀ i, -67108864 ≤ M.getD i 0 ∧ M.getD i 0 ≤ 67108864) (hv : ∀ i, -1073741824 ≤ v.getD i 0 ∧ v.getD i 0 ≤ 1073741824) : ∀ k, (pd M v k).natAbs ≤ k * 72057594037927936
  | 0 => by simp [pd]
  | k + 1 => by
    have ih := pd_le hM hv k
    have h1 := hM k
    have h2 := hv k
    have h3 : (M.getD k 0 * v.getD k 0).natAbs ≤ 72057594037927936 := by
      rw [Int.natAbs_mul]
      have : (M.getD k 0).natAbs * (v.getD k 0).natAbs ≤ 67108864 * 1073741824 := Nat.mul_le_mul (by omega) (by omega)
      omega
    rw [pd, Nat.add_mul, Nat.one_mul]
    generalize M.getD k 0 * v.getD k 0 = p at *
    omega
theorem getD_of {l : List Int} {b : Int} (hb : 0 ≤ b) (h : ∀ n ∈ l, -b ≤ n ∧ n ≤ b) : ∀ i, -b ≤ l.getD i 0 ∧ l.getD i 0 ≤ b := fun i => by
  rw [List.getD_eq_getElem?_getD]
  cases hl : l[i]? with
  | none => simp; omega
  | some x => exact h x (List.mem_of_getElem? hl)
theorem bounds_app {M v : List Int} (hM : ∀ n ∈ M, -67108864 ≤ n ∧ n ≤ 67108864) (hv : ∀ n ∈ v, -1073741824 ≤ n ∧ n ≤ 1073741824) : appOk M v ∧ ∀ k, -4398046511104 ≤ dq (row M k) v ∧ dq (row M k) v ≤ 4398046511104 := by
  have h2 : ∀ k, -4398046511104 ≤ dq (row M k) v ∧ dq (row M k) v ≤ 4398046511104 := fun k => by
    have hr : ∀ i, -67108864 ≤ (row M k).getD i 0 ∧ (row M k).getD i 0 ≤ 67108864 := getD_of (by omega) fun n hn => hM n (List.mem_of_mem_drop (List.mem_of_mem_take hn))
    have := pd_le hr (getD_of (by omega) hv) 4
    unfold dq; omega
  refine ⟨⟨⟨by omega, fun n hn => ?_⟩, ⟨by omega, fun n hn => ?_⟩, fun i _ => ?_⟩, h2⟩
  · have := hM n hn; omega
  · rw [vec16, List.mem_append] at hn
    rcases hn with hn | hn
    · have := hv n hn; omega
    · have : n = 0 := by simpa using hn
      omega
  · have := h2 i; unfold sumOk okQ; omega
theorem tmod_le (x b : Int) (hb : 0 < b) : -b < x.tmod b ∧ x.tmod b < b := by
  have h1 := Int.lt_tmod_of_pos x hb
  have h2 := Int.tmod_lt_of_pos x hb
  omega
theorem okm (x : Int) : -67108864 ≤ x.tmod 67108865 ∧ x.tmod 67108865 ≤ 67108864 := by have := tmod_le x 67108865 (by decide); omega
theorem okv (x : Int) : -1073741824 ≤ x.tmod 1073741825 ∧ x.tmod 1073741825 ≤ 1073741824 := by have := tmod_le x 1073741825 (by decide); omega
set_option maxHeartbeats 4000000 in
theorem bounds_walk (a0 a1 a2 a3 a4 a5 a6 a7 a8 a9 aa ab ac ad ae af v0 v1 v2 v3 w0 w1 w2 w3 : Int) (w : World) (g0 : -4398046511104 ≤ w0 ∧ w0 ≤ 4398046511104) (g1 : -4398046511104 ≤ w1 ∧ w1 ≤ 4398046511104) (g2 : -4398046511104 ≤ w2 ∧ w2 ≤ 4398046511104) (g3 : -4398046511104 ≤ w3 ∧ w3 ≤ 4398046511104)
    (hA : ∀ w, Calls Try.prog 16 #[A16 [a0.tmod 67108865, a1.tmod 67108865, a2.tmod 67108865, a3.tmod 67108865, a4.tmod 67108865, a5.tmod 67108865, a6.tmod 67108865, a7.tmod 67108865, a8.tmod 67108865, a9.tmod 67108865, aa.tmod 67108865, ab.tmod 67108865, ac.tmod 67108865, ad.tmod 67108865, ae.tmod 67108865, af.tmod 67108865], Nm [v0.tmod 1073741825, v1.tmod 1073741825, v2.tmod 1073741825, v3.tmod 1073741825]] w fun e w' => e = .returned (.tuple #[.agg #[I w0, I w1, I w2, I w3], I 0]) ∧ Below w.heap.size w w') :
    Calls Try.prog 4 #[.agg #[.int .i64 a0, .int .i64 a1, .int .i64 a2, .int .i64 a3, .int .i64 a4, .int .i64 a5, .int .i64 a6, .int .i64 a7, .int .i64 a8, .int .i64 a9, .int .i64 aa, .int .i64 ab, .int .i64 ac, .int .i64 ad, .int .i64 ae, .int .i64 af], .agg #[.int .i64 v0, .int .i64 v1, .int .i64 v2, .int .i64 v3]] w fun e w' => e = .returned (.bool true) ∧ Below w.heap.size w w' := by
  obtain ⟨g00, g01⟩ := g0
  obtain ⟨g10, g11⟩ := g1
  obtain ⟨g20, g21⟩ := g2
  obtain ⟨g30, g31⟩ := g3
  refine EW.eEnter Try.func4 rfl Try.ntmps4 ?_
  all_goals try (refine EW.nm ?_)
  all_goals try ((first | refine EW.eRegL (id := 0) ?_ | refine EW.eReg (id := 0) ?_); refine EW.eBox ?_; refine EW.eBox ?_; refine EW.eAssign ?_; refine EW.eEnd ?_; (try refine EW.nm ?_))
  all_goals try ((first | refine EW.eRegL (id := 1) ?_ | refine EW.eReg (id := 1) ?_); refine EW.eCall Try.call15 (fun w => malive w) ?_; refine EW.eAssign ?_; refine EW.eEnd ?_; (try refine EW.nm ?_))
  all_goals try ((first | refine EW.eRegL (id := 2) ?_ | refine EW.eReg (id := 2) ?_); refine EW.eAssign ?_; refine EW.eEnd ?_; (try refine EW.nm ?_))
  all_goals try (refine EW.eUnroll 5 ?_)
  all_goals try (refine EW.nm ?_)
  iterate 5 (
    all_goals try ((first | refine EW.eRegL (id := 3) ?_ | refine EW.eReg (id := 3) ?_); refine EW.eMove ?_; refine EW.eLss ?_; refine EW.eEnd ?_; (try refine EW.nm ?_))
    all_goals try (first | refine EW.eYes (x := Operand.tmp 13) ?_ | refine EW.eNo (x := Operand.tmp 13) ?_ | (refine EW.eCond (x := Operand.tmp 13) ?_ ?_ <;> (intro hb hb'; (try dsimp only at hb'); (try (exfalso; first | omega | with_reducible exact absurd rfl hb')))))
    all_goals try (refine EW.nm ?_)
    all_goals try ((first | refine EW.eRegL (id := 5) ?_ | refine EW.eReg (id := 5) ?_); refine EW.eMove ?_; refine EW.eMove ?_; refine EW.eIndexAddr (z := 1) ?_; refine EW.eLoad1 ?_; refine EW.eRem ?_; refine EW.eIndexAddr (z := 1) ?_; (first | refine EW.eStoreW (k := 1) ?_ | refine EW.eStore (k := 1) ?_); refine EW.eEnd ?_; (try refine EW.nm ?_))
    all_goals try ((first | refine EW.eRegL (id := 6) ?_ | refine EW.eReg (id := 6) ?_); refine EW.eAssign ?_; refine EW.eEnd ?_; (try refine EW.nm ?_))
    all_goals try (refine EW.eUnroll 5 ?_)
    all_goals try (refine EW.nm ?_)
    iterate 5 (
      all_goals try ((first | refine EW.eRegL (id := 7) ?_ | refine EW.eReg (id := 7) ?_); refine EW.eMove ?_; refine EW.eLss ?_; refine EW.eEnd ?_; (try refine EW.nm ?_))
      all_goals try (first | refine EW.eYes (x := Operand.tmp 23) ?_ | refine EW.eNo (x := Operand.tmp 23) ?_ | (refine EW.eCond (x := Operand.tmp 23) ?_ ?_ <;> (intro hb hb'; (try dsimp only at hb'); (try (exfalso; first | omega | with_reducible exact absurd rfl hb')))))
      all_goals try (refine EW.nm ?_)
      all_goals try ((first | refine EW.eRegL (id := 9) ?_ | refine EW.eReg (id := 9) ?_); refine EW.eMove ?_; refine EW.eMove ?_; refine EW.eMove ?_; refine EW.eMove ?_; refine EW.eIndexAddr (z := 4) ?_; refine EW.eIndexAddr (z := 1) ?_; refine EW.eLoad1 ?_; refine EW.eRem ?_; refine EW.eIndexAddr (z := 4) ?_; refine EW.eIndexAddr (z := 1) ?_; (first | refine EW.eStoreW (k := 1) ?_ | refine EW.eStore (k := 1) ?_); refine EW.eDraw ?_; (try refine EW.nm ?_))
      all_goals try ((first | refine EW.eRegL (id := 8) ?_ | refine EW.eReg (id := 8) ?_); refine EW.eMove ?_; refine EW.eAdd ?_; refine EW.eAssign ?_; refine EW.eEnd ?_; (try refine EW.nm ?_)))
    all_goals try ((first | refine EW.eRegL (id := 4) ?_ | refine EW.eReg (id := 4) ?_); refine EW.eMove ?_; refine EW.eAdd ?_; refine EW.eAssign ?_; refine EW.eEnd ?_; (try refine EW.nm ?_)))
  all_goals try ((first | refine EW.eRegL (id := 10) ?_ | refine EW.eReg (id := 10) ?_); refine EW.eLoadA (k := 16) ?_; refine EW.eLoadA (k := 4) ?_; refine EW.eCall Try.call16 (fun w => hA w) ?_; refine EW.eMove ?_; (first | refine EW.eExtC ?_ | refine EW.eExtA ?_); (first | refine EW.eExtC ?_ | refine EW.eExtA ?_); refine EW.eAlloc ?_; (first | refine EW.eStoreW (k := 4) ?_ | refine EW.eStore (k := 4) ?_); refine EW.eAssign ?_; refine EW.eEnd ?_; (try refine EW.nm ?_))
  all_goals try ((first | refine EW.eRegL (id := 11) ?_ | refine EW.eReg (id := 11) ?_); refine EW.eMove ?_; refine EW.eNeq ?_; refine EW.eEnd ?_; (try refine EW.nm ?_))
  all_goals try (first | refine EW.eYes (x := Operand.tmp 43) ?_ | refine EW.eNo (x := Operand.tmp 43) ?_ | (refine EW.eCond (x := Operand.tmp 43) ?_ ?_ <;> (intro hb hb'; (try dsimp only at hb'); (try (exfalso; first | omega | with_reducible exact absurd rfl hb')))))
  all_goals try (refine EW.nm ?_)
  all_goals try ((first | refine EW.eRegL (id := 12) ?_ | refine EW.eReg (id := 12) ?_); refine EW.eAssign ?_; refine EW.eEnd ?_; (try refine EW.nm ?_))
  all_goals try ((first | refine EW.eRegL (id := 13) ?_ | refine EW.eReg (id := 13) ?_); refine EW.eAssign ?_; refine EW.eEnd ?_; (try refine EW.nm ?_))
  all_goals try (refine EW.eUnroll 5 ?_)
  all_goals try (refine EW.nm ?_)
  iterate 5 (
    all_goals try ((first | refine EW.eRegL (id := 14) ?_ | refine EW.eReg (id := 14) ?_); refine EW.eMove ?_; refine EW.eLss ?_; refine EW.eEnd ?_; (try refine EW.nm ?_))
    all_goals try (first | refine EW.eYes (x := Operand.tmp 45) ?_ | refine EW.eNo (x := Operand.tmp 45) ?_ | (refine EW.eCond (x := Operand.tmp 45) ?_ ?_ <;> (intro hb hb'; (try dsimp only at hb'); (try (exfalso; first | omega | with_reducible exact absurd rfl hb')))))
    all_goals try (refine EW.nm ?_)
    all_goals try ((first | refine EW.eRegL (id := 16) ?_ | refine EW.eReg (id := 16) ?_); refine EW.eMove ?_; refine EW.eIndexAddr (z := 1) ?_; refine EW.eLoad1 ?_; (first | refine EW.eCall Try.call17 (fun w => mabs w0 w (by omega) (by omega)) ?_ | refine EW.eCall Try.call17 (fun w => mabs w1 w (by omega) (by omega)) ?_ | refine EW.eCall Try.call17 (fun w => mabs w2 w (by omega) (by omega)) ?_ | refine EW.eCall Try.call17 (fun w => mabs w3 w (by omega) (by omega)) ?_); refine EW.eGeq ?_; refine EW.eEnd ?_; (try refine EW.nm ?_))
    all_goals try (first | refine EW.eYes (x := Operand.tmp 52) ?_ | refine EW.eNo (x := Operand.tmp 52) ?_ | (refine EW.eCond (x := Operand.tmp 52) ?_ ?_ <;> (intro hb hb'; (try dsimp only at hb'); (try (exfalso; first | omega | with_reducible exact absurd rfl hb')))))
    all_goals try (refine EW.nm ?_)
    all_goals try ((first | refine EW.eRegL (id := 17) ?_ | refine EW.eReg (id := 17) ?_); refine EW.eAssign ?_; refine EW.eEnd ?_; (try refine EW.nm ?_))
    all_goals try ((first | refine EW.eRegL (id := 15) ?_ | refine EW.eReg (id := 15) ?_); refine EW.eMove ?_; refine EW.eAdd ?_; refine EW.eAssign ?_; refine EW.eEnd ?_; (try refine EW.nm ?_)))
  all_goals try ((first | refine EW.eRegL (id := 18) ?_ | refine EW.eReg (id := 18) ?_); refine EW.eMove ?_; refine EW.eAssign ?_; refine EW.eEnd ?_; (try refine EW.nm ?_))
  all_goals (refine EW.eLeaveP ?_; intro w' hW; refine ⟨?_, hW⟩)
  all_goals rfl
theorem bounds_any (w : World) (a0 a1 a2 a3 a4 a5 a6 a7 a8 a9 aa ab ac ad ae af v0 v1 v2 v3 : Int) : Calls Try.prog 4 #[.agg #[.int .i64 a0, .int .i64 a1, .int .i64 a2, .int .i64 a3, .int .i64 a4, .int .i64 a5, .int .i64 a6, .int .i64 a7, .int .i64 a8, .int .i64 a9, .int .i64 aa, .int .i64 ab, .int .i64 ac, .int .i64 ad, .int .i64 ae, .int .i64 af], .agg #[.int .i64 v0, .int .i64 v1, .int .i64 v2, .int .i64 v3]] w fun e w' => e = .returned (.bool true) ∧ Below w.heap.size w w' := by
  have hM : ∀ n ∈ [a0.tmod 67108865, a1.tmod 67108865, a2.tmod 67108865, a3.tmod 67108865, a4.tmod 67108865, a5.tmod 67108865, a6.tmod 67108865, a7.tmod 67108865, a8.tmod 67108865, a9.tmod 67108865, aa.tmod 67108865, ab.tmod 67108865, ac.tmod 67108865, ad.tmod 67108865, ae.tmod 67108865, af.tmod 67108865], -67108864 ≤ n ∧ n ≤ 67108864 := by
    intro n hn
    simp only [List.mem_cons, List.not_mem_nil, or_false] at hn
    rcases hn with rfl | rfl | rfl | rfl | rfl | rfl | rfl | rfl | rfl | rfl | rfl | rfl | rfl | rfl | rfl | rfl <;> exact okm _
  have hV : ∀ n ∈ [v0.tmod 1073741825, v1.tmod 1073741825, v2.tmod 1073741825, v3.tmod 1073741825], -1073741824 ≤ n ∧ n ≤ 1073741824 := by
    intro n hn
    simp only [List.mem_cons, List.not_mem_nil, or_false] at hn
    rcases hn with rfl | rfl | rfl | rfl <;> exact okv _
  obtain ⟨h1, h2⟩ := bounds_app hM hV
  refine bounds_walk a0 a1 a2 a3 a4 a5 a6 a7 a8 a9 aa ab ac ad ae af v0 v1 v2 v3 _ _ _ _ w (h2 0) (h2 1) (h2 2) (h2 3) fun w => ?_
  have := mapply [a0.tmod 67108865, a1.tmod 67108865, a2.tmod 67108865, a3.tmod 67108865, a4.tmod 67108865, a5.tmod 67108865, a6.tmod 67108865, a7.tmod 67108865, a8.tmod 67108865, a9.tmod 67108865, aa.tmod 67108865, ab.tmod 67108865, ac.tmod 67108865, ad.tmod 67108865, ae.tmod 67108865, af.tmod 67108865] [v0.tmod 1073741825, v1.tmod 1073741825, v2.tmod 1073741825, v3.tmod 1073741825] w (ok_of fun n hn => by have := hM n hn; omega) (ok_of fun n hn => by have := hV n hn; omega) rfl rfl
  rw [appV, appE, if_pos h1, if_pos h1] at this
  exact this
end Go.Proofs.Ytgjbhocahpplbaa
