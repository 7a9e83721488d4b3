/- The document's Parse: what it answers. -/
import Derived.Test.YtbjogekhedglgaaHWt5
namespace Go.Proofs.Ytbjogekhedglgaa
set_option linter.unusedSimpArgs false
set_option linter.unusedVariables false
open Go.RowKit EV
open SX (Wr Tv Qu Rm Sh Is conjP eqs_iff eqs_false)
open EW (PlL PlT PlV PlVs LfV Mm Bt Opn GV nums)
set_option maxRecDepth 20000
theorem rparse_far (s : List Int) (a : Nat) (w : World) (hs : By s) (hl : s.length ≤ 1000) (h39 : a + 39 < s.length) (ha : (a = 1 ∧ 0 < s.length ∧ s.getD 0 0 = 45) ∨ (a = 0 ∧ (s.length = 0 ∨ s.getD 0 0 ≠ 45))) : Calls Try.prog 30 #[tS (U s)] w fun e w' => e = .returned (.tuple #[W2 0, .int .i64 20]) ∧ Below w.heap.size w w' := by
  refine EW.eEnter Try.func30 rfl Try.ntmps30 ?_
  all_goals try (refine EW.nm ?_)
  all_goals try ((first | refine EW.eRegL (id := 0) ?_ | refine EW.eReg (id := 0) ?_); refine EW.eAlloc ?_; refine EW.eAssign ?_; refine EW.eEnd ?_; (try refine EW.nm ?_))
  all_goals try ((first | refine EW.eRegL (id := 1) ?_ | refine EW.eReg (id := 1) ?_); refine EW.eAssign ?_; refine EW.eEnd ?_; (try refine EW.nm ?_))
  all_goals try ((first | refine EW.eRegL (id := 2) ?_ | refine EW.eReg (id := 2) ?_); refine EW.eMove ?_; refine EW.eLenU ?_; refine EW.eGtr ?_; refine EW.eMove ?_)
  all_goals try (refine EW.eGuard (j := 3) (o := ⟨some 11, _, _, _, _, _⟩) ?_ ?_ <;> (intro hb hb'; (try dsimp only at hb'); (try (exfalso; first | omega | with_reducible exact absurd rfl hb'))))
  all_goals try ((first | refine EW.eSkipT (j := 3) ?_ | refine EW.eSkipU (j := 3) ?_ | refine EW.eMove ?_); (first | refine EW.eSkipT (j := 3) ?_ | refine EW.eSkipU (j := 3) ?_ | refine EW.eIdxU hs (m := 0) ?_); (first | refine EW.eSkipT (j := 3) ?_ | refine EW.eSkipU (j := 3) ?_ | refine EW.eEql ?_); (first | refine EW.ePickT ?_ | refine EW.ePickF ?_); refine EW.eEnd ?_; (try refine EW.nm ?_))
  all_goals try (first | refine EW.eYes (x := Operand.tmp 14) ?_ | refine EW.eNo (x := Operand.tmp 14) ?_ | (refine EW.eCond (x := Operand.tmp 14) ?_ ?_ <;> (intro hb hb'; (try dsimp only at hb'); (try (exfalso; first | omega | with_reducible exact absurd rfl hb')))))
  all_goals try (refine EW.nm ?_)
  all_goals try ((first | refine EW.eRegL (id := 3) ?_ | refine EW.eReg (id := 3) ?_); refine EW.eAssign ?_; refine EW.eEnd ?_; (try refine EW.nm ?_))
  all_goals (refine EW.eEqT 4 (.c (.v (.int .i64 (a : Int)))) ?_ ?_; (focus (first | (obtain rfl : a = 1 := (by omega); rfl) | (obtain rfl : a = 0 := (by omega); rfl))))
  all_goals try ((first | refine EW.eRegL (id := 4) ?_ | refine EW.eReg (id := 4) ?_); refine EW.eMove ?_; refine EW.eLenU ?_; refine EW.eMove ?_; refine EW.eSub ?_; refine EW.eGtr ?_; refine EW.eEnd ?_; (try refine EW.nm ?_))
  all_goals try (first | refine EW.eYes (x := Operand.tmp 19) ?_ | refine EW.eNo (x := Operand.tmp 19) ?_ | (refine EW.eCond (x := Operand.tmp 19) ?_ ?_ <;> (intro hb hb'; (try dsimp only at hb'); (try (exfalso; first | omega | with_reducible exact absurd rfl hb')))))
  all_goals try (refine EW.nm ?_)
  all_goals try ((first | refine EW.eRegL (id := 5) ?_ | refine EW.eReg (id := 5) ?_); refine EW.eBuild (place := fun i => [(0, 1), (1, 1)][i]?) ?_; (first | refine EW.eStoreW (k := 2) ?_ | refine EW.eStore (k := 2) ?_); refine EW.eAssign ?_; refine EW.eEnd ?_; (try refine EW.nm ?_))
  all_goals try ((first | refine EW.eRegL (id := 6) ?_ | refine EW.eReg (id := 6) ?_); refine EW.eAlloc ?_; refine EW.eEnd ?_; (try refine EW.nm ?_))
  all_goals try ((first | refine EW.eRegL (id := 7) ?_ | refine EW.eReg (id := 7) ?_); refine EW.eMove ?_; refine EW.eAssign ?_; refine EW.eEnd ?_; (try refine EW.nm ?_))
  all_goals try (refine EW.eUnroll 6 ?_)
  all_goals try (refine EW.nm ?_)
  iterate 6 (
    all_goals try ((first | refine EW.eRegL (id := 8) ?_ | refine EW.eReg (id := 8) ?_); refine EW.eMove ?_; refine EW.eMove ?_; refine EW.eLenT ?_; refine EW.eLss ?_; refine EW.eEnd ?_; (try refine EW.nm ?_))
    all_goals try (first | refine EW.eYes (x := Operand.tmp 25) ?_ | refine EW.eNo (x := Operand.tmp 25) ?_ | (refine EW.eCond (x := Operand.tmp 25) ?_ ?_ <;> (intro hb hb'; (try dsimp only at hb'); (try (exfalso; first | omega | with_reducible exact absurd rfl hb')))))
    all_goals try (refine EW.nm ?_)
    all_goals try ((first | refine EW.eRegL (id := 10) ?_ | refine EW.eReg (id := 10) ?_); refine EW.eMove ?_; refine EW.eMove ?_; refine EW.eIndexT ?_; refine EW.eLss ?_; refine EW.eMove ?_)
    all_goals try (refine EW.eGuard (j := 4) (o := ⟨some 33, _, _, _, _, _⟩) ?_ ?_ <;> (intro hb hb'; (try dsimp only at hb'); (try (exfalso; first | omega | with_reducible exact absurd rfl hb'))))
    all_goals try ((first | refine EW.eSkipF (j := 4) ?_ | refine EW.eSkipU (j := 4) ?_ | refine EW.eMove ?_); (first | refine EW.eSkipF (j := 4) ?_ | refine EW.eSkipU (j := 4) ?_ | refine EW.eMove ?_); (first | refine EW.eSkipF (j := 4) ?_ | refine EW.eSkipU (j := 4) ?_ | refine EW.eIndexT ?_); (first | refine EW.eSkipF (j := 4) ?_ | refine EW.eSkipU (j := 4) ?_ | refine EW.eGtr ?_); (first | refine EW.ePickT ?_ | refine EW.ePickF ?_); refine EW.eEnd ?_; (try refine EW.nm ?_))
    all_goals try (first | refine EW.eYes (x := Operand.tmp 37) ?_ | refine EW.eNo (x := Operand.tmp 37) ?_ | (refine EW.eCond (x := Operand.tmp 37) ?_ ?_ <;> (intro hb hb'; (try dsimp only at hb'); (try (exfalso; first | omega | with_reducible exact absurd rfl hb')))))
    all_goals try (refine EW.nm ?_)
    all_goals try ((first | refine EW.eRegL (id := 11) ?_ | refine EW.eReg (id := 11) ?_); refine EW.eBuild (place := fun i => [(0, 1), (1, 1)][i]?) ?_; (first | refine EW.eStoreW (k := 2) ?_ | refine EW.eStore (k := 2) ?_); refine EW.eAssign ?_; refine EW.eEnd ?_; (try refine EW.nm ?_))
    all_goals try ((first | refine EW.eRegL (id := 12) ?_ | refine EW.eReg (id := 12) ?_); refine EW.eLoadA (k := 21) ?_; fail "no contract of mullion/mullionref02.Of"; fail "no contract of mullion/mullionref02.Mul"; refine EW.eMove ?_; refine EW.eMove ?_; refine EW.eIndexT ?_; refine EW.eConv ?_; refine EW.eSub ?_; fail "no contract of mullion/mullionref02.Of"; fail "no contract of mullion/mullionref02.Add"; (first | refine EW.eStoreW (k := 21) ?_ | refine EW.eStore (k := 21) ?_); refine EW.eDraw ?_; (try refine EW.nm ?_))
    all_goals try ((first | refine EW.eRegL (id := 9) ?_ | refine EW.eReg (id := 9) ?_); refine EW.eMove ?_; refine EW.eAdd ?_; refine EW.eAssign ?_; refine EW.eEnd ?_; (try refine EW.nm ?_)))
  all_goals try ((first | refine EW.eRegL (id := 13) ?_ | refine EW.eReg (id := 13) ?_); refine EW.eMove ?_; refine EW.eEql ?_; refine EW.eEnd ?_; (try refine EW.nm ?_))
  all_goals try (first | refine EW.eYes (x := Operand.tmp 50) ?_ | refine EW.eNo (x := Operand.tmp 50) ?_ | (refine EW.eCond (x := Operand.tmp 50) ?_ ?_ <;> (intro hb hb'; (try dsimp only at hb'); (try (exfalso; first | omega | with_reducible exact absurd rfl hb')))))
  all_goals try (refine EW.nm ?_)
  all_goals try ((first | refine EW.eRegL (id := 14) ?_ | refine EW.eReg (id := 14) ?_); refine EW.eLoadA (k := 21) ?_; fail "no contract of mullion/mullionref02.Neg"; (first | refine EW.eStoreW (k := 21) ?_ | refine EW.eStore (k := 21) ?_); refine EW.eEnd ?_; (try refine EW.nm ?_))
  all_goals try ((first | refine EW.eRegL (id := 15) ?_ | refine EW.eReg (id := 15) ?_); refine EW.eLoadA (k := 21) ?_; fail "no contract of mullion/mullionref02.Text"; refine EW.eMove ?_; refine EW.eStrNe ?_; refine EW.eEnd ?_; (try refine EW.nm ?_))
  all_goals try (first | refine EW.eYes (x := Operand.tmp 56) ?_ | refine EW.eNo (x := Operand.tmp 56) ?_ | (refine EW.eCond (x := Operand.tmp 56) ?_ ?_ <;> (intro hb hb'; (try dsimp only at hb'); (try (exfalso; first | omega | with_reducible exact absurd rfl hb')))))
  all_goals try (refine EW.nm ?_)
  all_goals try ((first | refine EW.eRegL (id := 16) ?_ | refine EW.eReg (id := 16) ?_); refine EW.eBuild (place := fun i => [(0, 1), (1, 1)][i]?) ?_; (first | refine EW.eStoreW (k := 2) ?_ | refine EW.eStore (k := 2) ?_); refine EW.eAssign ?_; refine EW.eEnd ?_; (try refine EW.nm ?_))
  all_goals try ((first | refine EW.eRegL (id := 17) ?_ | refine EW.eReg (id := 17) ?_); refine EW.eLoadA (k := 21) ?_; fail "no contract of mullion/mullionref02.Cut"; (first | refine EW.eExtC ?_ | refine EW.eExtA ?_); (first | refine EW.eExtC ?_ | refine EW.eExtA ?_); (first | refine EW.eStoreW (k := 2) ?_ | refine EW.eStore (k := 2) ?_); refine EW.eAssign ?_; refine EW.eEnd ?_; (try refine EW.nm ?_))
  all_goals (refine EW.eLeaveP ?_; intro w' hW; refine ⟨?_, hW⟩)
  all_goals rfl
set_option maxHeartbeats 2000000 in
theorem rparse_bad (s t : List Int) (a : Nat) (w : World) (hs : By s) (hl : a + t.length < s.length) (h39 : s.length ≤ a + 39) (hg : ∀ i, i < t.length → s.getD (a + i) 0 = t.getD i 0) (ht : Dg t) (hbad : s.getD (a + t.length) 0 < 48 ∨ 57 < s.getD (a + t.length) 0) (ha : (a = 1 ∧ 0 < s.length ∧ s.getD 0 0 = 45) ∨ (a = 0 ∧ (s.length = 0 ∨ s.getD 0 0 ≠ 45))) : Calls Try.prog 30 #[tS (U s)] w fun e w' => e = .returned (.tuple #[W2 0, .int .i64 20]) ∧ Below w.heap.size w w' := by
  refine EW.eEnter Try.func30 rfl Try.ntmps30 ?_
  all_goals try (refine EW.nm ?_)
  all_goals try ((first | refine EW.eRegL (id := 0) ?_ | refine EW.eReg (id := 0) ?_); refine EW.eAlloc ?_; refine EW.eAssign ?_; refine EW.eEnd ?_; (try refine EW.nm ?_))
  all_goals try ((first | refine EW.eRegL (id := 1) ?_ | refine EW.eReg (id := 1) ?_); refine EW.eAssign ?_; refine EW.eEnd ?_; (try refine EW.nm ?_))
  all_goals try ((first | refine EW.eRegL (id := 2) ?_ | refine EW.eReg (id := 2) ?_); refine EW.eMove ?_; refine EW.eLenU ?_; refine EW.eGtr ?_; refine EW.eMove ?_)
  all_goals try (refine EW.eGuard (j := 3) (o := ⟨some 11, _, _, _, _, _⟩) ?_ ?_ <;> (intro hb hb'; (try dsimp only at hb'); (try (exfalso; first | omega | with_reducible exact absurd rfl hb'))))
  all_goals try ((first | refine EW.eSkipT (j := 3) ?_ | refine EW.eSkipU (j := 3) ?_ | refine EW.eMove ?_); (first | refine EW.eSkipT (j := 3) ?_ | refine EW.eSkipU (j := 3) ?_ | refine EW.eIdxU hs (m := 0) ?_); (first | refine EW.eSkipT (j := 3) ?_ | refine EW.eSkipU (j := 3) ?_ | refine EW.eEql ?_); (first | refine EW.ePickT ?_ | refine EW.ePickF ?_); refine EW.eEnd ?_; (try refine EW.nm ?_))
  all_goals try (first | refine EW.eYes (x := Operand.tmp 14) ?_ | refine EW.eNo (x := Operand.tmp 14) ?_ | (refine EW.eCond (x := Operand.tmp 14) ?_ ?_ <;> (intro hb hb'; (try dsimp only at hb'); (try (exfalso; first | omega | with_reducible exact absurd rfl hb')))))
  all_goals try (refine EW.nm ?_)
  all_goals try ((first | refine EW.eRegL (id := 3) ?_ | refine EW.eReg (id := 3) ?_); refine EW.eAssign ?_; refine EW.eEnd ?_; (try refine EW.nm ?_))
  all_goals (refine EW.eEqT 4 (.c (.v (.int .i64 (a : Int)))) ?_ ?_; (focus (first | (obtain rfl : a = 1 := (by omega); rfl) | (obtain rfl : a = 0 := (by omega); rfl))))
  all_goals try ((first | refine EW.eRegL (id := 4) ?_ | refine EW.eReg (id := 4) ?_); refine EW.eMove ?_; refine EW.eLenU ?_; refine EW.eMove ?_; refine EW.eSub ?_; refine EW.eGtr ?_; refine EW.eEnd ?_; (try refine EW.nm ?_))
  all_goals try (first | refine EW.eYes (x := Operand.tmp 19) ?_ | refine EW.eNo (x := Operand.tmp 19) ?_ | (refine EW.eCond (x := Operand.tmp 19) ?_ ?_ <;> (intro hb hb'; (try dsimp only at hb'); (try (exfalso; first | omega | with_reducible exact absurd rfl hb')))))
  all_goals try (refine EW.nm ?_)
  all_goals try ((first | refine EW.eRegL (id := 5) ?_ | refine EW.eReg (id := 5) ?_); refine EW.eBuild (place := fun i => [(0, 1), (1, 1)][i]?) ?_; (first | refine EW.eStoreW (k := 2) ?_ | refine EW.eStore (k := 2) ?_); refine EW.eAssign ?_; refine EW.eEnd ?_; (try refine EW.nm ?_))
  all_goals try ((first | refine EW.eRegL (id := 6) ?_ | refine EW.eReg (id := 6) ?_); refine EW.eAlloc ?_; refine EW.eEnd ?_; (try refine EW.nm ?_))
  all_goals (try (refine EW.eEqB 20 (.m true ((big false 0).map C.v)) ?_ ?_; (focus rfl)))
  all_goals try ((first | refine EW.eRegL (id := 7) ?_ | refine EW.eReg (id := 7) ?_); refine EW.eMove ?_; refine EW.eAssign ?_; refine EW.eEnd ?_; (try refine EW.nm ?_))
  all_goals first | (fail_if_success (refine EW.eUnroll 1 ?_)) | (refine EW.eLoopD [3, 6, 22, 23, 24, 25, 26, 27, 28, 29, 30, 31, 32, 33, 34, 35, 36, 37, 38, 39, 40, 41, 42, 43, 44, 45, 46, 47, 48] 1000000 (fun j : {x : Nat × Nat // x.1 ≤ t.length ∧ (x.2 : Int) = pv t x.1} => [(.t 6, .v (.c (.v (.int .i64 ((a + j.1.1 : Nat) : Int))))), (.b 20, .b (.m true ((big false j.1.2).map C.v)))]) (fun j => t.length - j.1.1) (⟨(0, 0), Nat.zero_le _, by rw [pv_zero]; rfl⟩) (by ((repeat (first | exact EW.subW.nil | refine EW.subW.cons rfl ?_ | refine EW.subW.conv rfl ?_)); (first | done | fail))) ?_; rintro hcl8 ⟨⟨i, m⟩, hi, hm⟩; (try dsimp only))
  all_goals try (refine EW.nm ?_)
  all_goals try ((first | refine EW.eRegL (id := 8) ?_ | refine EW.eReg (id := 8) ?_); refine EW.eMove ?_; refine EW.eMove ?_; refine EW.eLenU ?_; refine EW.eLss ?_; refine EW.eEnd ?_; (try refine EW.nm ?_))
  all_goals try (first | refine EW.eYes (x := Operand.tmp 25) ?_ | refine EW.eNo (x := Operand.tmp 25) ?_ | (refine EW.eCond (x := Operand.tmp 25) ?_ ?_ <;> (intro hb hb'; (try dsimp only at hb'); (try (exfalso; first | omega | with_reducible exact absurd rfl hb')))))
  all_goals try (refine EW.nm ?_)
  all_goals (try ((try dsimp only at hi hm); rcases (show i < t.length ∨ i = t.length by omega) with hiq | hiq; (have hgi := hg i hiq; obtain ⟨c0, c1⟩ := dg_get ht hiq; have hm39 := pv_39 ht (i := i) (by omega) (by omega) hm; have hps := pv_succ (l := t) hiq; have hMu := (fun w => rstepM m w hm39)); rotate_left; subst hiq; rotate_left))
  all_goals try ((first | refine EW.eRegL (id := 10) ?_ | refine EW.eReg (id := 10) ?_); refine EW.eMove ?_; refine EW.eMove ?_; (first | (first | refine EW.eIdxU hs (m := a + i) (hm := by omega) ?_ | refine EW.eIdxU hs (m := a + t.length) (hm := by omega) ?_)); refine EW.eLss ?_; refine EW.eMove ?_)
  all_goals try (refine EW.eGuard (j := 4) (o := ⟨some 33, _, _, _, _, _⟩) ?_ ?_ <;> (intro hb hb'; (try dsimp only at hb'); (try (exfalso; first | omega | with_reducible exact absurd rfl hb'))))
  all_goals try ((first | refine EW.eSkipF (j := 4) ?_ | refine EW.eSkipU (j := 4) ?_ | refine EW.eMove ?_); (first | refine EW.eSkipF (j := 4) ?_ | refine EW.eSkipU (j := 4) ?_ | refine EW.eMove ?_); (first | refine EW.eSkipF (j := 4) ?_ | refine EW.eSkipU (j := 4) ?_ | (first | refine EW.eIdxU hs (m := a + i) (hm := by omega) ?_ | refine EW.eIdxU hs (m := a + t.length) (hm := by omega) ?_)); (first | refine EW.eSkipF (j := 4) ?_ | refine EW.eSkipU (j := 4) ?_ | refine EW.eGtr ?_); (first | refine EW.ePickT ?_ | refine EW.ePickF ?_); refine EW.eEnd ?_; (try refine EW.nm ?_))
  all_goals try (first | refine EW.eYes (x := Operand.tmp 37) ?_ | refine EW.eNo (x := Operand.tmp 37) ?_ | (refine EW.eCond (x := Operand.tmp 37) ?_ ?_ <;> (intro hb hb'; (try dsimp only at hb'); (try (exfalso; first | omega | with_reducible exact absurd rfl hb')))))
  all_goals try (refine EW.nm ?_)
  all_goals try ((first | refine EW.eRegL (id := 11) ?_ | refine EW.eReg (id := 11) ?_); refine EW.eBuild (place := fun i => [(0, 1), (1, 1)][i]?) ?_; (first | refine EW.eStoreW (k := 2) ?_ | refine EW.eStore (k := 2) ?_); refine EW.eAssign ?_; refine EW.eEnd ?_; (try refine EW.nm ?_))
  all_goals try ((first | refine EW.eRegL (id := 12) ?_ | refine EW.eReg (id := 12) ?_); refine EW.eLoadA (k := 21) ?_; (first | refine EW.eCall Try.call12 (fun w => rof 10 w (by omega) (by omega)) ?_ | refine EW.eCall Try.call12 (fun w => rof (s.getD (a + i) 0 - 48) w (by omega) (by omega)) ?_); refine EW.eCall Try.call11 (fun w => hMu w) ?_; refine EW.eMove ?_; refine EW.eMove ?_; refine EW.eIdxU hs (m := a + i) (hm := by omega) ?_; refine EW.eConv ?_; refine EW.eSub ?_; (first | refine EW.eCall Try.call12 (fun w => rof 10 w (by omega) (by omega)) ?_ | refine EW.eCall Try.call12 (fun w => rof (s.getD (a + i) 0 - 48) w (by omega) (by omega)) ?_); refine EW.eCall Try.call15 (fun w => rstepA (m * 10) (pv t (i + 1)).toNat (s.getD (a + i) 0 - 48) w (by omega) (by omega) (by omega)) ?_; (first | refine EW.eStoreW (k := 21) ?_ | refine EW.eStore (k := 21) ?_); refine EW.eDraw ?_; (try refine EW.nm ?_))
  all_goals try ((first | refine EW.eRegL (id := 9) ?_ | refine EW.eReg (id := 9) ?_); refine EW.eMove ?_; refine EW.eAdd ?_; refine EW.eAssign ?_; refine EW.eEnd ?_; (try refine EW.nm ?_))
  all_goals first | (fail_if_success (with_reducible refine EW.isLater ?_)) | (refine EW.eLaterD (⟨(i + 1, (pv t (i + 1)).toNat), by omega, by dsimp only; omega⟩) (by dsimp only; omega) (by ((repeat (first | exact EW.subW.nil | refine EW.subW.cons rfl ?_ | refine EW.subW.conv rfl ?_)); (first | done | fail))) hcl8)
  all_goals try (refine EW.nm ?_)
  all_goals try ((first | refine EW.eRegL (id := 13) ?_ | refine EW.eReg (id := 13) ?_); refine EW.eMove ?_; refine EW.eEql ?_; refine EW.eEnd ?_; (try refine EW.nm ?_))
  all_goals try (first | refine EW.eYes (x := Operand.tmp 50) ?_ | refine EW.eNo (x := Operand.tmp 50) ?_ | (refine EW.eCond (x := Operand.tmp 50) ?_ ?_ <;> (intro hb hb'; (try dsimp only at hb'); (try (exfalso; first | omega | with_reducible exact absurd rfl hb')))))
  all_goals try (refine EW.nm ?_)
  all_goals try ((first | refine EW.eRegL (id := 14) ?_ | refine EW.eReg (id := 14) ?_); refine EW.eLoadA (k := 21) ?_; fail "no contract of mullion/mullionref02.Neg"; (first | refine EW.eStoreW (k := 21) ?_ | refine EW.eStore (k := 21) ?_); refine EW.eEnd ?_; (try refine EW.nm ?_))
  all_goals try ((first | refine EW.eRegL (id := 15) ?_ | refine EW.eReg (id := 15) ?_); refine EW.eLoadA (k := 21) ?_; fail "no contract of mullion/mullionref02.Text"; refine EW.eMove ?_; refine EW.eStrNe ?_; refine EW.eEnd ?_; (try refine EW.nm ?_))
  all_goals try (first | refine EW.eYes (x := Operand.tmp 56) ?_ | refine EW.eNo (x := Operand.tmp 56) ?_ | (refine EW.eCond (x := Operand.tmp 56) ?_ ?_ <;> (intro hb hb'; (try dsimp only at hb'); (try (exfalso; first | omega | with_reducible exact absurd rfl hb')))))
  all_goals try (refine EW.nm ?_)
  all_goals try ((first | refine EW.eRegL (id := 16) ?_ | refine EW.eReg (id := 16) ?_); refine EW.eBuild (place := fun i => [(0, 1), (1, 1)][i]?) ?_; (first | refine EW.eStoreW (k := 2) ?_ | refine EW.eStore (k := 2) ?_); refine EW.eAssign ?_; refine EW.eEnd ?_; (try refine EW.nm ?_))
  all_goals try ((first | refine EW.eRegL (id := 17) ?_ | refine EW.eReg (id := 17) ?_); refine EW.eLoadA (k := 21) ?_; fail "no contract of mullion/mullionref02.Cut"; (first | refine EW.eExtC ?_ | refine EW.eExtA ?_); (first | refine EW.eExtC ?_ | refine EW.eExtA ?_); (first | refine EW.eStoreW (k := 2) ?_ | refine EW.eStore (k := 2) ?_); refine EW.eAssign ?_; refine EW.eEnd ?_; (try refine EW.nm ?_))
  all_goals (refine EW.eLeaveP ?_; intro w' hW; refine ⟨?_, hW⟩)
  all_goals rfl
theorem at_spec (s : List Int) : ∃ a : Nat, (isNeg s = true ∧ a = 1 ∨ isNeg s = false ∧ a = 0) ∧ s.length = a + (bare s).length ∧ (∀ i, s.getD (a + i) 0 = (bare s).getD i 0) ∧ ((a = 1 ∧ 0 < s.length ∧ s.getD 0 0 = 45) ∨ (a = 0 ∧ (s.length = 0 ∨ s.getD 0 0 ≠ 45))) := by
  rcases bare_or s with ⟨t, rfl, e⟩ | ⟨e, hn⟩
  · refine ⟨1, .inl ⟨rfl, rfl⟩, by rw [e, List.length_cons]; omega, fun i => by rw [e, Nat.add_comm]; rfl, .inl ⟨rfl, by simp, rfl⟩⟩
  · refine ⟨0, .inr ⟨?_, rfl⟩, by rw [e]; omega, fun i => by rw [e, Nat.zero_add], .inr ⟨rfl, ?_⟩⟩
    · match s, hn with
      | [], _ => rfl
      | c :: t, hn => show (some c == some 45) = false; have : c ≠ 45 := fun h => hn t (by rw [h]); simpa using this
    · match s, hn with
      | [], _ => exact .inl rfl
      | c :: t, hn => exact .inr fun h => hn t (by rw [show c = 45 from h])
/-- The number of a text of digits, with its sign. -/
def txR (s : List Int) : Int := if isNeg s then -pv (bare s) (bare s).length else pv (bare s) (bare s).length
theorem txR_tz {z : Int} : txR (tz z) = z := by
  by_cases h : z < 0
  · rw [tz_neg h]
    show -pv (dgt z.natAbs) (dgt z.natAbs).length = z
    rw [pv_all, val_dgt]; omega
  · rw [tz_pos h]
    have hd : Dg (dgt z.natAbs) := ld_dg _ _
    have hb : bare (dgt z.natAbs) = dgt z.natAbs := by
      rcases bare_or (dgt z.natAbs) with ⟨t, e, _⟩ | ⟨e, _⟩
      · rw [e] at hd; have := hd 45 (by simp); omega
      · exact e
    have hn : isNeg (dgt z.natAbs) = false := by
      match hq : dgt z.natAbs with
      | [] => rfl
      | c :: t => rw [hq] at hd; have := hd c (by simp); show (some c == some 45) = false; simp; omega
    unfold txR
    rw [hb, hn, pv_all, val_dgt, if_neg (by simp)]; omega
theorem bare_dg (z : Int) : Dg (bare (tz z)) := by
  have hd : Dg (dgt z.natAbs) := ld_dg _ _
  by_cases h : z < 0
  · rw [tz_neg h]; exact hd
  · rw [tz_pos h]
    rcases bare_or (dgt z.natAbs) with ⟨t, e, _⟩ | ⟨e, _⟩
    · rw [e] at hd; have := hd 45 (by simp); omega
    · rw [e]; exact hd
theorem rparse_dig (s : List Int) (w : World) (hs : By s) (h39 : (bare s).length ≤ 39) (hd : Dg (bare s)) : Calls Try.prog 30 #[tS (U s)] w fun e w' => e = .returned (.tuple #[W2 (if tz (txR s) = s then wV (txR s) else 0), .int .i64 (if tz (txR s) = s then wE (txR s) else 20)]) ∧ Below w.heap.size w w' := by
  obtain ⟨a, h1, h2, h3, h4⟩ := at_spec s
  have h0 := (pv_bnd hd _ (Nat.le_refl _)).1
  obtain ⟨n, hn⟩ : ∃ n : Nat, (n : Int) = pv (bare s) (bare s).length := ⟨_, Int.toNat_of_nonneg h0⟩
  have hn39 := pv_39 hd (Nat.le_refl _) h39 hn
  have hW := W20_nine
  have hz : (txR s).natAbs = n := by unfold txR; split <;> omega
  have hB1 : a = 1 → ∀ w, Calls Try.prog 17 #[Bg false n] w fun e w' => e = .returned (Bg (decide (txR s < 0)) (txR s).natAbs) ∧ Below w.heap.size w w' := fun ha w => by
    have := rneg (n : Int) w (by omega)
    rw [bz_nat] at this
    have e : txR s = -(n : Int) := by unfold txR; rw [if_pos (by rcases h1 with h | h; (focus exact h.1); omega)]; omega
    rw [e]; exact this
  have hB0 : a = 0 → decide (txR s < 0) = false ∧ (txR s).natAbs = n := fun ha => by
    have e : txR s = (n : Int) := by unfold txR; rw [if_neg (by rcases h1 with h | h; omega; rw [h.1]; simp)]; omega
    exact ⟨decide_eq_false (by omega), hz⟩
  by_cases he : tz (txR s) = s
  · rw [if_pos he, if_pos he]
    exact rparse_walk s (bare s) (tz (txR s)) a n _ _ false _ _ _ _ w hs h2 h39 (fun i _ => h3 i) hd h4 hn hB0 hB1 (fun w => rtext (txR s) w (by omega)) ⟨by rw [he]; simp⟩ (fun w => rcutV (txR s) w (by omega)) (by simp)
  · rw [if_neg he, if_neg he]
    exact rparse_walk s (bare s) (tz (txR s)) a n _ _ true _ _ _ _ w hs h2 h39 (fun i _ => h3 i) hd h4 hn hB0 hB1 (fun w => rtext (txR s) w (by omega)) ⟨by
      have hne : U (tz (txR s)) ≠ U s := fun e => he (U_inj (tz_by _) hs e)
      rw [show (U (tz (txR s)) == U s) = false by simpa using hne]; rfl⟩ (fun w => rcutV (txR s) w (by omega)) (by simp)
theorem first_no {p : Nat → Prop} [DecidablePred p] : ∀ {n : Nat}, ¬ (∀ t, t < n → p t) → ∃ t, t < n ∧ (∀ i, i < t → p i) ∧ ¬ p t
  | 0, h => absurd (fun t ht => by omega) h
  | n + 1, h => by
    by_cases h' : ∀ t, t < n → p t
    · refine ⟨n, by omega, h', fun hn => h fun t ht => ?_⟩
      rcases Nat.lt_or_ge t n with h1 | h1
      · exact h' t h1
      · obtain rfl : t = n := by omega
        exact hn
    · obtain ⟨t, h1, h2, h3⟩ := first_no h'
      exact ⟨t, by omega, h2, h3⟩
theorem dg_each {l : List Int} (h : ∀ i, i < l.length → 48 ≤ l.getD i 0 ∧ l.getD i 0 ≤ 57) : Dg l := fun x hx => by
  obtain ⟨i, hi, rfl⟩ := List.mem_iff_getElem.1 hx
  have := h i hi
  rwa [List.getD_eq_getElem?_getD, List.getElem?_eq_getElem hi] at this
/-- What both Parse make of a text. -/
theorem parse_both (s : List Int) (hs : By s) (hl : s.length ≤ 1000) : ∃ v e : Int, In128 v ∧ (e = 0 ∧ tz v = s ∨ e = 20 ∧ v = 0) ∧ (∀ w, Calls Try.prog 29 #[tS (U s)] w fun x w' => x = .returned (.tuple #[W2 v, .int .i64 e]) ∧ Below w.heap.size w w') ∧ ∀ w, Calls Try.prog 30 #[tS (U s)] w fun x w' => x = .returned (.tuple #[W2 v, .int .i64 e]) ∧ Below w.heap.size w w' := by
  by_cases hz : ∃ z, In128 z ∧ tz z = s
  · obtain ⟨z, hz, rfl⟩ := hz
    refine ⟨z, 0, hz, .inl ⟨rfl, rfl⟩, fun w => wparse_ok z w hz, fun w => ?_⟩
    have := rparse_dig (tz z) w hs (bare_tz hz) (bare_dg z)
    rw [txR_tz, if_pos rfl, if_pos rfl, wV, wE, if_pos hz, if_pos hz] at this
    exact this
  · have hno : ∀ z, In128 z → tz z ≠ s := fun z h1 h2 => hz ⟨z, h1, h2⟩
    refine ⟨0, 20, ⟨by omega, by omega⟩, .inr ⟨rfl, rfl⟩, fun w => wparse_no s w hs hl hno, fun w => ?_⟩
    obtain ⟨a, h1, h2, h3, h4⟩ := at_spec s
    rcases Nat.lt_or_ge 39 (bare s).length with h39 | h39
    · exact rparse_far s a w hs hl (by omega) h4
    · by_cases hd : ∀ i, i < (bare s).length → 48 ≤ (bare s).getD i 0 ∧ (bare s).getD i 0 ≤ 57
      · have := rparse_dig s w hs h39 (dg_each hd)
        by_cases he : tz (txR s) = s
        · have hni : ¬ In128 (txR s) := fun hi => hno _ hi he
          rw [if_pos he, if_pos he, wV, wE, if_neg hni, if_neg hni] at this
          exact this
        · rw [if_neg he, if_neg he] at this
          exact this
      · obtain ⟨q, q1, q2, q3⟩ := first_no hd
        have hlen : ((bare s).take q).length = q := by rw [List.length_take]; omega
        have hgt : ∀ i, i < q → ((bare s).take q).getD i 0 = (bare s).getD i 0 := fun i hi => by
          rw [List.getD_eq_getElem?_getD, List.getD_eq_getElem?_getD, List.getElem?_take, if_pos hi]
        refine rparse_bad s ((bare s).take q) a w hs (by omega) (by omega) (fun i hi => by rw [h3, hgt i (by omega)]) (dg_each fun i hi => by rw [hgt i (by omega)]; exact q2 i (by omega)) ?_ h4
        rw [hlen, h3]
        omega
end Go.Proofs.Ytbjogekhedglgaa
