/- The document's matrices: turns. -/
import Derived.Test.YtgjbhocahpplbaaMt2
import Derived.Test.YtgjbhocahpplbaaMk2
namespace Go.Proofs.Ytgjbhocahpplbaa
set_option linter.unusedSimpArgs false
set_option linter.unusedVariables false
open Go.RowKit EV
open SX (Wr Tv Qu Rm Sh Is conjP eqs_iff eqs_false)
open EW (PlL PlT PlV PlVs LfV Mm Bt Opn GV nums)
set_option maxRecDepth 20000
theorem ok_of {l : List Int} (h : ∀ n ∈ l, -9223372036854775808 ≤ n ∧ n ≤ 9223372036854775807) : Ok64 l := fun i => by
  rw [List.getD_eq_getElem?_getD]
  cases hl : l[i]? with
  | none => simp
  | some x => exact h x (List.mem_of_getElem? hl)
def qL (a : Int) : List Int := quarterL a idL
theorem quarter_len (a : Int) {l : List Int} (h : l.length = 16) : (quarterL a l).length = 16 := by
  match l, h with
  | [a0, a1, a2, a3, a4, a5, a6, a7, a8, a9, aa, ab, ac, ad, ae, af], _ =>
    simp only [quarterL]; split
    · rfl
    · split <;> rfl
theorem turn_len (a r : Int) : (turnL a r).length = 16 := by
  have h1 := quarter_len a (l := idL) rfl
  have h2 := quarter_len a h1
  unfold turnL; split; rfl; split; exact h1; split; exact h2; exact quarter_len a h2
instance (a r : Int) : EW.LenI (turnL a r) 16 := ⟨turn_len a r⟩
theorem rq (a k : Int) (w : World) (ha : a = 0 ∨ a = 1 ∨ a = 2) (hk : k = 0 ∨ k = 1 ∨ k = 2) : Calls Try.prog 19 #[Nm (qL a), Nm (turnL a k)] w fun e w' => e = .returned (.tuple #[Nm (turnL a (k + 1)), .int .i64 0]) ∧ Below w.heap.size w w' := by
  have key : Ok64 (qL a) ∧ Ok64 (turnL a k) ∧ (qL a).length = 16 ∧ (turnL a k).length = 16 ∧ mulV (qL a) (turnL a k) = turnL a (k + 1) ∧ mulE (qL a) (turnL a k) = 0 := by
    rcases ha with rfl | rfl | rfl <;> rcases hk with rfl | rfl | rfl <;> exact ⟨ok_of (by decide +kernel), ok_of (by decide +kernel), rfl, rfl, by decide +kernel, by decide +kernel⟩
  obtain ⟨h1, h2, h3, h4, h5, h6⟩ := key
  have := rmul3 (qL a) (turnL a k) w h1 h2 h3 h4
  rwa [h5, h6] at this
/-- The quarter's matrix, the identity: as the code builds them. -/
theorem rturn_no (a q : Int) (w : World) (h : a < 0 ∨ 2 < a) : Calls Try.prog 13 #[I a, I q] w fun e w' => e = .returned (.tuple #[A16 [0, 0, 0, 0, 0, 0, 0, 0, 0, 0, 0, 0, 0, 0, 0, 0], I 2]) ∧ Below w.heap.size w w' := by
  refine EW.eEnter Try.func13 rfl Try.ntmps13 ?_
  all_goals try (refine EW.nm ?_)
  all_goals try ((first | refine EW.eRegL (id := 0) ?_ | refine EW.eReg (id := 0) ?_); refine EW.eAlloc ?_; refine EW.eAssign ?_; refine EW.eEnd ?_; (try refine EW.nm ?_))
  all_goals try ((first | refine EW.eRegL (id := 1) ?_ | refine EW.eReg (id := 1) ?_); refine EW.eMove ?_; refine EW.eLss ?_; refine EW.eMove ?_)
  all_goals try (refine EW.eGuard (j := 2) (o := ⟨some 14, _, _, _, _, _⟩) ?_ ?_ <;> (intro hb hb'; (try dsimp only at hb'); (try (exfalso; first | omega | with_reducible exact absurd rfl hb'))))
  all_goals try ((first | refine EW.eSkipF (j := 2) ?_ | refine EW.eSkipU (j := 2) ?_ | refine EW.eMove ?_); (first | refine EW.eSkipF (j := 2) ?_ | refine EW.eSkipU (j := 2) ?_ | refine EW.eGtr ?_); (first | refine EW.ePickT ?_ | refine EW.ePickF ?_); refine EW.eEnd ?_; (try refine EW.nm ?_))
  all_goals try (first | refine EW.eYes (x := Operand.tmp 16) ?_ | refine EW.eNo (x := Operand.tmp 16) ?_ | (refine EW.eCond (x := Operand.tmp 16) ?_ ?_ <;> (intro hb hb'; (try dsimp only at hb'); (try (exfalso; first | omega | with_reducible exact absurd rfl hb')))))
  all_goals try (refine EW.nm ?_)
  all_goals try ((first | refine EW.eRegL (id := 2) ?_ | refine EW.eReg (id := 2) ?_); refine EW.eBuild (place := fun i => some (i * 4, 4)) ?_; (first | refine EW.eStoreW (k := 16) ?_ | refine EW.eStore (k := 16) ?_); refine EW.eAssign ?_; refine EW.eEnd ?_; (try refine EW.nm ?_))
  all_goals try ((first | refine EW.eRegL (id := 3) ?_ | refine EW.eReg (id := 3) ?_); refine EW.eAssign ?_; refine EW.eEnd ?_; (try refine EW.nm ?_))
  all_goals try ((first | refine EW.eRegL (id := 4) ?_ | refine EW.eReg (id := 4) ?_); refine EW.eBuild (place := fun i => some (i * 4, 4)) ?_; refine EW.eAlloc ?_; (first | refine EW.eStoreW (k := 16) ?_ | refine EW.eStore (k := 16) ?_); refine EW.eEnd ?_; (try refine EW.nm ?_))
  all_goals try ((first | refine EW.eRegL (id := 5) ?_ | refine EW.eReg (id := 5) ?_); refine EW.eMove ?_; refine EW.eEnd ?_; (try refine EW.nm ?_))
  all_goals try ((first | refine EW.eRegL (id := 7) ?_ | refine EW.eReg (id := 7) ?_); refine EW.eEql ?_; refine EW.eAssign ?_; refine EW.eEnd ?_; (try refine EW.nm ?_))
  all_goals try (first | refine EW.eYes (x := Operand.tmp 30) ?_ | refine EW.eNo (x := Operand.tmp 30) ?_ | (refine EW.eCond (x := Operand.tmp 30) ?_ ?_ <;> (intro hb hb'; (try dsimp only at hb'); (try (exfalso; first | omega | with_reducible exact absurd rfl hb')))))
  all_goals try (refine EW.nm ?_)
  all_goals try ((first | refine EW.eRegL (id := 8) ?_ | refine EW.eReg (id := 8) ?_); refine EW.eMove ?_; refine EW.eBuild (place := fun i => some (i * 1, 1)) ?_; refine EW.eMove ?_; refine EW.eNeg ?_; refine EW.eBuild (place := fun i => some (i * 1, 1)) ?_; refine EW.eMove ?_; refine EW.eBuild (place := fun i => some (i * 1, 1)) ?_; refine EW.eMove ?_; refine EW.eBuild (place := fun i => some (i * 1, 1)) ?_; refine EW.eBuild (place := fun i => some (i * 4, 4)) ?_; (first | refine EW.eStoreW (k := 16) ?_ | refine EW.eStore (k := 16) ?_); refine EW.eEnd ?_; (try refine EW.nm ?_))
  all_goals try ((first | refine EW.eRegL (id := 9) ?_ | refine EW.eReg (id := 9) ?_); refine EW.eEql ?_; refine EW.eAssign ?_; refine EW.eEnd ?_; (try refine EW.nm ?_))
  all_goals try (first | refine EW.eYes (x := Operand.tmp 42) ?_ | refine EW.eNo (x := Operand.tmp 42) ?_ | (refine EW.eCond (x := Operand.tmp 42) ?_ ?_ <;> (intro hb hb'; (try dsimp only at hb'); (try (exfalso; first | omega | with_reducible exact absurd rfl hb')))))
  all_goals try (refine EW.nm ?_)
  all_goals try ((first | refine EW.eRegL (id := 10) ?_ | refine EW.eReg (id := 10) ?_); refine EW.eMove ?_; refine EW.eBuild (place := fun i => some (i * 1, 1)) ?_; refine EW.eMove ?_; refine EW.eBuild (place := fun i => some (i * 1, 1)) ?_; refine EW.eMove ?_; refine EW.eNeg ?_; refine EW.eBuild (place := fun i => some (i * 1, 1)) ?_; refine EW.eMove ?_; refine EW.eBuild (place := fun i => some (i * 1, 1)) ?_; refine EW.eBuild (place := fun i => some (i * 4, 4)) ?_; (first | refine EW.eStoreW (k := 16) ?_ | refine EW.eStore (k := 16) ?_); refine EW.eEnd ?_; (try refine EW.nm ?_))
  all_goals try ((first | refine EW.eRegL (id := 6) ?_ | refine EW.eReg (id := 6) ?_); refine EW.eMove ?_; refine EW.eNeg ?_; refine EW.eBuild (place := fun i => some (i * 1, 1)) ?_; refine EW.eMove ?_; refine EW.eBuild (place := fun i => some (i * 1, 1)) ?_; refine EW.eMove ?_; refine EW.eBuild (place := fun i => some (i * 1, 1)) ?_; refine EW.eMove ?_; refine EW.eBuild (place := fun i => some (i * 1, 1)) ?_; refine EW.eBuild (place := fun i => some (i * 4, 4)) ?_; (first | refine EW.eStoreW (k := 16) ?_ | refine EW.eStore (k := 16) ?_); refine EW.eEnd ?_; (try refine EW.nm ?_))
  all_goals try ((first | refine EW.eRegL (id := 11) ?_ | refine EW.eReg (id := 11) ?_); refine EW.eMove ?_; refine EW.eBuild (place := fun i => some (i * 1, 1)) ?_; refine EW.eMove ?_; refine EW.eBuild (place := fun i => some (i * 1, 1)) ?_; refine EW.eMove ?_; refine EW.eBuild (place := fun i => some (i * 1, 1)) ?_; refine EW.eMove ?_; refine EW.eBuild (place := fun i => some (i * 1, 1)) ?_; refine EW.eBuild (place := fun i => some (i * 4, 4)) ?_; refine EW.eAlloc ?_; (first | refine EW.eStoreW (k := 16) ?_ | refine EW.eStore (k := 16) ?_); refine EW.eEnd ?_; (try refine EW.nm ?_))
  all_goals try ((first | refine EW.eRegL (id := 12) ?_ | refine EW.eReg (id := 12) ?_); refine EW.eMove ?_; refine EW.eRem ?_; refine EW.eAssign ?_; refine EW.eEnd ?_; (try refine EW.nm ?_))
  all_goals try ((first | refine EW.eRegL (id := 13) ?_ | refine EW.eReg (id := 13) ?_); refine EW.eMove ?_; refine EW.eLss ?_; refine EW.eEnd ?_; (try refine EW.nm ?_))
  all_goals try (first | refine EW.eYes (x := Operand.tmp 66) ?_ | refine EW.eNo (x := Operand.tmp 66) ?_ | (refine EW.eCond (x := Operand.tmp 66) ?_ ?_ <;> (intro hb hb'; (try dsimp only at hb'); (try (exfalso; first | omega | with_reducible exact absurd rfl hb')))))
  all_goals try (refine EW.nm ?_)
  all_goals try ((first | refine EW.eRegL (id := 14) ?_ | refine EW.eReg (id := 14) ?_); refine EW.eMove ?_; refine EW.eAdd ?_; refine EW.eAssign ?_; refine EW.eEnd ?_; (try refine EW.nm ?_))
  all_goals try ((first | refine EW.eRegL (id := 15) ?_ | refine EW.eReg (id := 15) ?_); refine EW.eAssign ?_; refine EW.eEnd ?_; (try refine EW.nm ?_))
  all_goals try (refine EW.eUnroll 6 ?_)
  all_goals try (refine EW.nm ?_)
  iterate 6 (
    all_goals try ((first | refine EW.eRegL (id := 16) ?_ | refine EW.eReg (id := 16) ?_); refine EW.eMove ?_; refine EW.eMove ?_; refine EW.eLss ?_; refine EW.eEnd ?_; (try refine EW.nm ?_))
    all_goals try (first | refine EW.eYes (x := Operand.tmp 71) ?_ | refine EW.eNo (x := Operand.tmp 71) ?_ | (refine EW.eCond (x := Operand.tmp 71) ?_ ?_ <;> (intro hb hb'; (try dsimp only at hb'); (try (exfalso; first | omega | with_reducible exact absurd rfl hb')))))
    all_goals try (refine EW.nm ?_)
    all_goals try ((first | refine EW.eRegL (id := 18) ?_ | refine EW.eReg (id := 18) ?_); refine EW.eLoadA (k := 16) ?_; refine EW.eLoadA (k := 16) ?_; fail "no contract of mullion/mullionref03.Mul"; refine EW.eMove ?_; (first | refine EW.eExtC ?_ | refine EW.eExtA ?_); (first | refine EW.eExtC ?_ | refine EW.eExtA ?_); (first | refine EW.eStoreW (k := 16) ?_ | refine EW.eStore (k := 16) ?_); refine EW.eEnd ?_; (try refine EW.nm ?_))
    all_goals try ((first | refine EW.eRegL (id := 17) ?_ | refine EW.eReg (id := 17) ?_); refine EW.eMove ?_; refine EW.eAdd ?_; refine EW.eAssign ?_; refine EW.eEnd ?_; (try refine EW.nm ?_)))
  all_goals try ((first | refine EW.eRegL (id := 19) ?_ | refine EW.eReg (id := 19) ?_); refine EW.eLoadA (k := 16) ?_; (first | refine EW.eStoreW (k := 16) ?_ | refine EW.eStore (k := 16) ?_); refine EW.eAssign ?_; refine EW.eEnd ?_; (try refine EW.nm ?_))
  all_goals (refine EW.eLeaveP ?_; intro w' hW; refine ⟨?_, hW⟩)
  all_goals rfl
set_option maxHeartbeats 4000000 in
theorem rturn0 (q s r : Int) (w : World) (hs : q.tmod 4 = s) (hs1 : -4 ≤ s ∧ s ≤ 4) (hr : r = if s < 0 then s + 4 else s) (h0 : 0 ≤ r ∧ r ≤ 3) : Calls Try.prog 13 #[I 0, I q] w fun e w' => e = .returned (.tuple #[A16 (turnL 0 r), I 0]) ∧ Below w.heap.size w w' := by
  obtain ⟨hs1, hs2⟩ := hs1
  obtain ⟨h0, h3⟩ := h0
  obtain ⟨m, hm⟩ : ∃ m, (if s < 0 then s + 4 else s) = m := ⟨_, rfl⟩
  obtain rfl : r = m := by rw [hr, hm]
  clear hr
  refine EW.eEnter Try.func13 rfl Try.ntmps13 ?_
  all_goals try (refine EW.nm ?_)
  all_goals try ((first | refine EW.eRegL (id := 0) ?_ | refine EW.eReg (id := 0) ?_); refine EW.eAlloc ?_; refine EW.eAssign ?_; refine EW.eEnd ?_; (try refine EW.nm ?_))
  all_goals try ((first | refine EW.eRegL (id := 1) ?_ | refine EW.eReg (id := 1) ?_); refine EW.eMove ?_; refine EW.eLss ?_; refine EW.eMove ?_)
  all_goals try (refine EW.eGuard (j := 2) (o := ⟨some 14, _, _, _, _, _⟩) ?_ ?_ <;> (intro hb hb'; (try dsimp only at hb'); (try (exfalso; first | omega | with_reducible exact absurd rfl hb'))))
  all_goals try ((first | refine EW.eSkipF (j := 2) ?_ | refine EW.eSkipU (j := 2) ?_ | refine EW.eMove ?_); (first | refine EW.eSkipF (j := 2) ?_ | refine EW.eSkipU (j := 2) ?_ | refine EW.eGtr ?_); (first | refine EW.ePickT ?_ | refine EW.ePickF ?_); refine EW.eEnd ?_; (try refine EW.nm ?_))
  all_goals try (first | refine EW.eYes (x := Operand.tmp 16) ?_ | refine EW.eNo (x := Operand.tmp 16) ?_ | (refine EW.eCond (x := Operand.tmp 16) ?_ ?_ <;> (intro hb hb'; (try dsimp only at hb'); (try (exfalso; first | omega | with_reducible exact absurd rfl hb')))))
  all_goals try (refine EW.nm ?_)
  all_goals try ((first | refine EW.eRegL (id := 2) ?_ | refine EW.eReg (id := 2) ?_); refine EW.eBuild (place := fun i => some (i * 4, 4)) ?_; (first | refine EW.eStoreW (k := 16) ?_ | refine EW.eStore (k := 16) ?_); refine EW.eAssign ?_; refine EW.eEnd ?_; (try refine EW.nm ?_))
  all_goals try ((first | refine EW.eRegL (id := 3) ?_ | refine EW.eReg (id := 3) ?_); refine EW.eAssign ?_; refine EW.eEnd ?_; (try refine EW.nm ?_))
  all_goals try ((first | refine EW.eRegL (id := 4) ?_ | refine EW.eReg (id := 4) ?_); refine EW.eBuild (place := fun i => some (i * 4, 4)) ?_; refine EW.eAlloc ?_; (first | refine EW.eStoreW (k := 16) ?_ | refine EW.eStore (k := 16) ?_); refine EW.eEnd ?_; (try refine EW.nm ?_))
  all_goals try ((first | refine EW.eRegL (id := 5) ?_ | refine EW.eReg (id := 5) ?_); refine EW.eMove ?_; refine EW.eEnd ?_; (try refine EW.nm ?_))
  all_goals try ((first | refine EW.eRegL (id := 7) ?_ | refine EW.eReg (id := 7) ?_); refine EW.eEql ?_; refine EW.eAssign ?_; refine EW.eEnd ?_; (try refine EW.nm ?_))
  all_goals try (first | refine EW.eYes (x := Operand.tmp 30) ?_ | refine EW.eNo (x := Operand.tmp 30) ?_ | (refine EW.eCond (x := Operand.tmp 30) ?_ ?_ <;> (intro hb hb'; (try dsimp only at hb'); (try (exfalso; first | omega | with_reducible exact absurd rfl hb')))))
  all_goals try (refine EW.nm ?_)
  all_goals try ((first | refine EW.eRegL (id := 8) ?_ | refine EW.eReg (id := 8) ?_); refine EW.eMove ?_; refine EW.eBuild (place := fun i => some (i * 1, 1)) ?_; refine EW.eMove ?_; refine EW.eNeg ?_; refine EW.eBuild (place := fun i => some (i * 1, 1)) ?_; refine EW.eMove ?_; refine EW.eBuild (place := fun i => some (i * 1, 1)) ?_; refine EW.eMove ?_; refine EW.eBuild (place := fun i => some (i * 1, 1)) ?_; refine EW.eBuild (place := fun i => some (i * 4, 4)) ?_; (first | refine EW.eStoreW (k := 16) ?_ | refine EW.eStore (k := 16) ?_); refine EW.eEnd ?_; (try refine EW.nm ?_))
  all_goals try ((first | refine EW.eRegL (id := 9) ?_ | refine EW.eReg (id := 9) ?_); refine EW.eEql ?_; refine EW.eAssign ?_; refine EW.eEnd ?_; (try refine EW.nm ?_))
  all_goals try (first | refine EW.eYes (x := Operand.tmp 42) ?_ | refine EW.eNo (x := Operand.tmp 42) ?_ | (refine EW.eCond (x := Operand.tmp 42) ?_ ?_ <;> (intro hb hb'; (try dsimp only at hb'); (try (exfalso; first | omega | with_reducible exact absurd rfl hb')))))
  all_goals try (refine EW.nm ?_)
  all_goals try ((first | refine EW.eRegL (id := 10) ?_ | refine EW.eReg (id := 10) ?_); refine EW.eMove ?_; refine EW.eBuild (place := fun i => some (i * 1, 1)) ?_; refine EW.eMove ?_; refine EW.eBuild (place := fun i => some (i * 1, 1)) ?_; refine EW.eMove ?_; refine EW.eNeg ?_; refine EW.eBuild (place := fun i => some (i * 1, 1)) ?_; refine EW.eMove ?_; refine EW.eBuild (place := fun i => some (i * 1, 1)) ?_; refine EW.eBuild (place := fun i => some (i * 4, 4)) ?_; (first | refine EW.eStoreW (k := 16) ?_ | refine EW.eStore (k := 16) ?_); refine EW.eEnd ?_; (try refine EW.nm ?_))
  all_goals try ((first | refine EW.eRegL (id := 6) ?_ | refine EW.eReg (id := 6) ?_); refine EW.eMove ?_; refine EW.eNeg ?_; refine EW.eBuild (place := fun i => some (i * 1, 1)) ?_; refine EW.eMove ?_; refine EW.eBuild (place := fun i => some (i * 1, 1)) ?_; refine EW.eMove ?_; refine EW.eBuild (place := fun i => some (i * 1, 1)) ?_; refine EW.eMove ?_; refine EW.eBuild (place := fun i => some (i * 1, 1)) ?_; refine EW.eBuild (place := fun i => some (i * 4, 4)) ?_; (first | refine EW.eStoreW (k := 16) ?_ | refine EW.eStore (k := 16) ?_); refine EW.eEnd ?_; (try refine EW.nm ?_))
  all_goals try ((first | refine EW.eRegL (id := 11) ?_ | refine EW.eReg (id := 11) ?_); refine EW.eMove ?_; refine EW.eBuild (place := fun i => some (i * 1, 1)) ?_; refine EW.eMove ?_; refine EW.eBuild (place := fun i => some (i * 1, 1)) ?_; refine EW.eMove ?_; refine EW.eBuild (place := fun i => some (i * 1, 1)) ?_; refine EW.eMove ?_; refine EW.eBuild (place := fun i => some (i * 1, 1)) ?_; refine EW.eBuild (place := fun i => some (i * 4, 4)) ?_; refine EW.eAlloc ?_; (first | refine EW.eStoreW (k := 16) ?_ | refine EW.eStore (k := 16) ?_); refine EW.eEnd ?_; (try refine EW.nm ?_))
  all_goals try ((first | refine EW.eRegL (id := 12) ?_ | refine EW.eReg (id := 12) ?_); refine EW.eMove ?_; refine EW.eRem ?_ (hr' := rm_is hs); refine EW.eAssign ?_; refine EW.eEnd ?_; (try refine EW.nm ?_))
  all_goals try ((first | refine EW.eRegL (id := 13) ?_ | refine EW.eReg (id := 13) ?_); refine EW.eMove ?_; refine EW.eLss ?_; refine EW.eEnd ?_; (try refine EW.nm ?_))
  all_goals try (first | refine EW.eYes (x := Operand.tmp 66) ?_ | refine EW.eNo (x := Operand.tmp 66) ?_ | (refine EW.eCond (x := Operand.tmp 66) ?_ ?_ <;> (intro hb hb'; (try dsimp only at hb'); (try (exfalso; first | omega | with_reducible exact absurd rfl hb')))))
  all_goals try (refine EW.nm ?_)
  all_goals try ((first | refine EW.eRegL (id := 14) ?_ | refine EW.eReg (id := 14) ?_); refine EW.eMove ?_; refine EW.eAdd ?_; refine EW.eAssign ?_; refine EW.eEnd ?_; (try refine EW.nm ?_))
  all_goals try ((first | refine EW.eRegL (id := 15) ?_ | refine EW.eReg (id := 15) ?_); refine EW.eAssign ?_; refine EW.eEnd ?_; (try refine EW.nm ?_))
  all_goals try (refine EW.eUnroll 4 ?_)
  all_goals try (refine EW.nm ?_)
  all_goals try ((first | refine EW.eRegL (id := 16) ?_ | refine EW.eReg (id := 16) ?_); refine EW.eMove ?_; refine EW.eMove ?_; refine EW.eLss ?_; refine EW.eEnd ?_; (try refine EW.nm ?_))
  all_goals try (first | refine EW.eYes (x := Operand.tmp 71) ?_ | refine EW.eNo (x := Operand.tmp 71) ?_ | (refine EW.eCond (x := Operand.tmp 71) ?_ ?_ <;> (intro hb hb'; (try dsimp only at hb'); (try (exfalso; first | omega | with_reducible exact absurd rfl hb')))))
  all_goals try (refine EW.nm ?_)
  all_goals try ((first | refine EW.eRegL (id := 18) ?_ | refine EW.eReg (id := 18) ?_); refine EW.eLoadA (k := 16) ?_; refine EW.eLoadA (k := 16) ?_; refine EW.eCall Try.call19 (fun w => rq 0 0 w (by omega) (by omega)) ?_; refine EW.eMove ?_; (first | refine EW.eExtC ?_ | refine EW.eExtA ?_); (first | refine EW.eExtC ?_ | refine EW.eExtA ?_); (first | refine EW.eStoreW (k := 16) ?_ | refine EW.eStore (k := 16) ?_); refine EW.eEnd ?_; (try refine EW.nm ?_))
  all_goals try ((first | refine EW.eRegL (id := 17) ?_ | refine EW.eReg (id := 17) ?_); refine EW.eMove ?_; refine EW.eAdd ?_; refine EW.eAssign ?_; refine EW.eEnd ?_; (try refine EW.nm ?_))
  all_goals try ((first | refine EW.eRegL (id := 16) ?_ | refine EW.eReg (id := 16) ?_); refine EW.eMove ?_; refine EW.eMove ?_; refine EW.eLss ?_; refine EW.eEnd ?_; (try refine EW.nm ?_))
  all_goals try (first | refine EW.eYes (x := Operand.tmp 71) ?_ | refine EW.eNo (x := Operand.tmp 71) ?_ | (refine EW.eCond (x := Operand.tmp 71) ?_ ?_ <;> (intro hb hb'; (try dsimp only at hb'); (try (exfalso; first | omega | with_reducible exact absurd rfl hb')))))
  all_goals try (refine EW.nm ?_)
  all_goals try ((first | refine EW.eRegL (id := 18) ?_ | refine EW.eReg (id := 18) ?_); refine EW.eLoadA (k := 16) ?_; refine EW.eLoadA (k := 16) ?_; refine EW.eCall Try.call19 (fun w => rq 0 1 w (by omega) (by omega)) ?_; refine EW.eMove ?_; (first | refine EW.eExtC ?_ | refine EW.eExtA ?_); (first | refine EW.eExtC ?_ | refine EW.eExtA ?_); (first | refine EW.eStoreW (k := 16) ?_ | refine EW.eStore (k := 16) ?_); refine EW.eEnd ?_; (try refine EW.nm ?_))
  all_goals try ((first | refine EW.eRegL (id := 17) ?_ | refine EW.eReg (id := 17) ?_); refine EW.eMove ?_; refine EW.eAdd ?_; refine EW.eAssign ?_; refine EW.eEnd ?_; (try refine EW.nm ?_))
  all_goals try ((first | refine EW.eRegL (id := 16) ?_ | refine EW.eReg (id := 16) ?_); refine EW.eMove ?_; refine EW.eMove ?_; refine EW.eLss ?_; refine EW.eEnd ?_; (try refine EW.nm ?_))
  all_goals try (first | refine EW.eYes (x := Operand.tmp 71) ?_ | refine EW.eNo (x := Operand.tmp 71) ?_ | (refine EW.eCond (x := Operand.tmp 71) ?_ ?_ <;> (intro hb hb'; (try dsimp only at hb'); (try (exfalso; first | omega | with_reducible exact absurd rfl hb')))))
  all_goals try (refine EW.nm ?_)
  all_goals try ((first | refine EW.eRegL (id := 18) ?_ | refine EW.eReg (id := 18) ?_); refine EW.eLoadA (k := 16) ?_; refine EW.eLoadA (k := 16) ?_; refine EW.eCall Try.call19 (fun w => rq 0 2 w (by omega) (by omega)) ?_; refine EW.eMove ?_; (first | refine EW.eExtC ?_ | refine EW.eExtA ?_); (first | refine EW.eExtC ?_ | refine EW.eExtA ?_); (first | refine EW.eStoreW (k := 16) ?_ | refine EW.eStore (k := 16) ?_); refine EW.eEnd ?_; (try refine EW.nm ?_))
  all_goals try ((first | refine EW.eRegL (id := 17) ?_ | refine EW.eReg (id := 17) ?_); refine EW.eMove ?_; refine EW.eAdd ?_; refine EW.eAssign ?_; refine EW.eEnd ?_; (try refine EW.nm ?_))
  all_goals try ((first | refine EW.eRegL (id := 16) ?_ | refine EW.eReg (id := 16) ?_); refine EW.eMove ?_; refine EW.eMove ?_; refine EW.eLss ?_; refine EW.eEnd ?_; (try refine EW.nm ?_))
  all_goals try (first | refine EW.eYes (x := Operand.tmp 71) ?_ | refine EW.eNo (x := Operand.tmp 71) ?_ | (refine EW.eCond (x := Operand.tmp 71) ?_ ?_ <;> (intro hb hb'; (try dsimp only at hb'); (try (exfalso; first | omega | with_reducible exact absurd rfl hb')))))
  all_goals try (refine EW.nm ?_)
  all_goals try ((first | refine EW.eRegL (id := 18) ?_ | refine EW.eReg (id := 18) ?_); refine EW.eLoadA (k := 16) ?_; refine EW.eLoadA (k := 16) ?_; refine EW.eCall Try.call19 (fun w => rq 0 3 w (by omega) (by omega)) ?_; refine EW.eMove ?_; (first | refine EW.eExtC ?_ | refine EW.eExtA ?_); (first | refine EW.eExtC ?_ | refine EW.eExtA ?_); (first | refine EW.eStoreW (k := 16) ?_ | refine EW.eStore (k := 16) ?_); refine EW.eEnd ?_; (try refine EW.nm ?_))
  all_goals try ((first | refine EW.eRegL (id := 17) ?_ | refine EW.eReg (id := 17) ?_); refine EW.eMove ?_; refine EW.eAdd ?_; refine EW.eAssign ?_; refine EW.eEnd ?_; (try refine EW.nm ?_))
  all_goals try ((first | refine EW.eRegL (id := 19) ?_ | refine EW.eReg (id := 19) ?_); refine EW.eLoadA (k := 16) ?_; (first | refine EW.eStoreW (k := 16) ?_ | refine EW.eStore (k := 16) ?_); refine EW.eAssign ?_; refine EW.eEnd ?_; (try refine EW.nm ?_))
  all_goals (refine EW.eLeaveP ?_; intro w' hW; refine ⟨?_, hW⟩)
  all_goals first | (obtain rfl : r = 0 := by (split at hm <;> omega)); rfl | (obtain rfl : r = 1 := by (split at hm <;> omega)); rfl | (obtain rfl : r = 2 := by (split at hm <;> omega)); rfl | (obtain rfl : r = 3 := by (split at hm <;> omega)); rfl
set_option maxHeartbeats 4000000 in
theorem rturn1 (q s r : Int) (w : World) (hs : q.tmod 4 = s) (hs1 : -4 ≤ s ∧ s ≤ 4) (hr : r = if s < 0 then s + 4 else s) (h0 : 0 ≤ r ∧ r ≤ 3) : Calls Try.prog 13 #[I 1, I q] w fun e w' => e = .returned (.tuple #[A16 (turnL 1 r), I 0]) ∧ Below w.heap.size w w' := by
  obtain ⟨hs1, hs2⟩ := hs1
  obtain ⟨h0, h3⟩ := h0
  obtain ⟨m, hm⟩ : ∃ m, (if s < 0 then s + 4 else s) = m := ⟨_, rfl⟩
  obtain rfl : r = m := by rw [hr, hm]
  clear hr
  refine EW.eEnter Try.func13 rfl Try.ntmps13 ?_
  all_goals try (refine EW.nm ?_)
  all_goals try ((first | refine EW.eRegL (id := 0) ?_ | refine EW.eReg (id := 0) ?_); refine EW.eAlloc ?_; refine EW.eAssign ?_; refine EW.eEnd ?_; (try refine EW.nm ?_))
  all_goals try ((first | refine EW.eRegL (id := 1) ?_ | refine EW.eReg (id := 1) ?_); refine EW.eMove ?_; refine EW.eLss ?_; refine EW.eMove ?_)
  all_goals try (refine EW.eGuard (j := 2) (o := ⟨some 14, _, _, _, _, _⟩) ?_ ?_ <;> (intro hb hb'; (try dsimp only at hb'); (try (exfalso; first | omega | with_reducible exact absurd rfl hb'))))
  all_goals try ((first | refine EW.eSkipF (j := 2) ?_ | refine EW.eSkipU (j := 2) ?_ | refine EW.eMove ?_); (first | refine EW.eSkipF (j := 2) ?_ | refine EW.eSkipU (j := 2) ?_ | refine EW.eGtr ?_); (first | refine EW.ePickT ?_ | refine EW.ePickF ?_); refine EW.eEnd ?_; (try refine EW.nm ?_))
  all_goals try (first | refine EW.eYes (x := Operand.tmp 16) ?_ | refine EW.eNo (x := Operand.tmp 16) ?_ | (refine EW.eCond (x := Operand.tmp 16) ?_ ?_ <;> (intro hb hb'; (try dsimp only at hb'); (try (exfalso; first | omega | with_reducible exact absurd rfl hb')))))
  all_goals try (refine EW.nm ?_)
  all_goals try ((first | refine EW.eRegL (id := 2) ?_ | refine EW.eReg (id := 2) ?_); refine EW.eBuild (place := fun i => some (i * 4, 4)) ?_; (first | refine EW.eStoreW (k := 16) ?_ | refine EW.eStore (k := 16) ?_); refine EW.eAssign ?_; refine EW.eEnd ?_; (try refine EW.nm ?_))
  all_goals try ((first | refine EW.eRegL (id := 3) ?_ | refine EW.eReg (id := 3) ?_); refine EW.eAssign ?_; refine EW.eEnd ?_; (try refine EW.nm ?_))
  all_goals try ((first | refine EW.eRegL (id := 4) ?_ | refine EW.eReg (id := 4) ?_); refine EW.eBuild (place := fun i => some (i * 4, 4)) ?_; refine EW.eAlloc ?_; (first | refine EW.eStoreW (k := 16) ?_ | refine EW.eStore (k := 16) ?_); refine EW.eEnd ?_; (try refine EW.nm ?_))
  all_goals try ((first | refine EW.eRegL (id := 5) ?_ | refine EW.eReg (id := 5) ?_); refine EW.eMove ?_; refine EW.eEnd ?_; (try refine EW.nm ?_))
  all_goals try ((first | refine EW.eRegL (id := 7) ?_ | refine EW.eReg (id := 7) ?_); refine EW.eEql ?_; refine EW.eAssign ?_; refine EW.eEnd ?_; (try refine EW.nm ?_))
  all_goals try (first | refine EW.eYes (x := Operand.tmp 30) ?_ | refine EW.eNo (x := Operand.tmp 30) ?_ | (refine EW.eCond (x := Operand.tmp 30) ?_ ?_ <;> (intro hb hb'; (try dsimp only at hb'); (try (exfalso; first | omega | with_reducible exact absurd rfl hb')))))
  all_goals try (refine EW.nm ?_)
  all_goals try ((first | refine EW.eRegL (id := 8) ?_ | refine EW.eReg (id := 8) ?_); refine EW.eMove ?_; refine EW.eBuild (place := fun i => some (i * 1, 1)) ?_; refine EW.eMove ?_; refine EW.eNeg ?_; refine EW.eBuild (place := fun i => some (i * 1, 1)) ?_; refine EW.eMove ?_; refine EW.eBuild (place := fun i => some (i * 1, 1)) ?_; refine EW.eMove ?_; refine EW.eBuild (place := fun i => some (i * 1, 1)) ?_; refine EW.eBuild (place := fun i => some (i * 4, 4)) ?_; (first | refine EW.eStoreW (k := 16) ?_ | refine EW.eStore (k := 16) ?_); refine EW.eEnd ?_; (try refine EW.nm ?_))
  all_goals try ((first | refine EW.eRegL (id := 9) ?_ | refine EW.eReg (id := 9) ?_); refine EW.eEql ?_; refine EW.eAssign ?_; refine EW.eEnd ?_; (try refine EW.nm ?_))
  all_goals try (first | refine EW.eYes (x := Operand.tmp 42) ?_ | refine EW.eNo (x := Operand.tmp 42) ?_ | (refine EW.eCond (x := Operand.tmp 42) ?_ ?_ <;> (intro hb hb'; (try dsimp only at hb'); (try (exfalso; first | omega | with_reducible exact absurd rfl hb')))))
  all_goals try (refine EW.nm ?_)
  all_goals try ((first | refine EW.eRegL (id := 10) ?_ | refine EW.eReg (id := 10) ?_); refine EW.eMove ?_; refine EW.eBuild (place := fun i => some (i * 1, 1)) ?_; refine EW.eMove ?_; refine EW.eBuild (place := fun i => some (i * 1, 1)) ?_; refine EW.eMove ?_; refine EW.eNeg ?_; refine EW.eBuild (place := fun i => some (i * 1, 1)) ?_; refine EW.eMove ?_; refine EW.eBuild (place := fun i => some (i * 1, 1)) ?_; refine EW.eBuild (place := fun i => some (i * 4, 4)) ?_; (first | refine EW.eStoreW (k := 16) ?_ | refine EW.eStore (k := 16) ?_); refine EW.eEnd ?_; (try refine EW.nm ?_))
  all_goals try ((first | refine EW.eRegL (id := 6) ?_ | refine EW.eReg (id := 6) ?_); refine EW.eMove ?_; refine EW.eNeg ?_; refine EW.eBuild (place := fun i => some (i * 1, 1)) ?_; refine EW.eMove ?_; refine EW.eBuild (place := fun i => some (i * 1, 1)) ?_; refine EW.eMove ?_; refine EW.eBuild (place := fun i => some (i * 1, 1)) ?_; refine EW.eMove ?_; refine EW.eBuild (place := fun i => some (i * 1, 1)) ?_; refine EW.eBuild (place := fun i => some (i * 4, 4)) ?_; (first | refine EW.eStoreW (k := 16) ?_ | refine EW.eStore (k := 16) ?_); refine EW.eEnd ?_; (try refine EW.nm ?_))
  all_goals try ((first | refine EW.eRegL (id := 11) ?_ | refine EW.eReg (id := 11) ?_); refine EW.eMove ?_; refine EW.eBuild (place := fun i => some (i * 1, 1)) ?_; refine EW.eMove ?_; refine EW.eBuild (place := fun i => some (i * 1, 1)) ?_; refine EW.eMove ?_; refine EW.eBuild (place := fun i => some (i * 1, 1)) ?_; refine EW.eMove ?_; refine EW.eBuild (place := fun i => some (i * 1, 1)) ?_; refine EW.eBuild (place := fun i => some (i * 4, 4)) ?_; refine EW.eAlloc ?_; (first | refine EW.eStoreW (k := 16) ?_ | refine EW.eStore (k := 16) ?_); refine EW.eEnd ?_; (try refine EW.nm ?_))
  all_goals try ((first | refine EW.eRegL (id := 12) ?_ | refine EW.eReg (id := 12) ?_); refine EW.eMove ?_; refine EW.eRem ?_ (hr' := rm_is hs); refine EW.eAssign ?_; refine EW.eEnd ?_; (try refine EW.nm ?_))
  all_goals try ((first | refine EW.eRegL (id := 13) ?_ | refine EW.eReg (id := 13) ?_); refine EW.eMove ?_; refine EW.eLss ?_; refine EW.eEnd ?_; (try refine EW.nm ?_))
  all_goals try (first | refine EW.eYes (x := Operand.tmp 66) ?_ | refine EW.eNo (x := Operand.tmp 66) ?_ | (refine EW.eCond (x := Operand.tmp 66) ?_ ?_ <;> (intro hb hb'; (try dsimp only at hb'); (try (exfalso; first | omega | with_reducible exact absurd rfl hb')))))
  all_goals try (refine EW.nm ?_)
  all_goals try ((first | refine EW.eRegL (id := 14) ?_ | refine EW.eReg (id := 14) ?_); refine EW.eMove ?_; refine EW.eAdd ?_; refine EW.eAssign ?_; refine EW.eEnd ?_; (try refine EW.nm ?_))
  all_goals try ((first | refine EW.eRegL (id := 15) ?_ | refine EW.eReg (id := 15) ?_); refine EW.eAssign ?_; refine EW.eEnd ?_; (try refine EW.nm ?_))
  all_goals try (refine EW.eUnroll 4 ?_)
  all_goals try (refine EW.nm ?_)
  all_goals try ((first | refine EW.eRegL (id := 16) ?_ | refine EW.eReg (id := 16) ?_); refine EW.eMove ?_; refine EW.eMove ?_; refine EW.eLss ?_; refine EW.eEnd ?_; (try refine EW.nm ?_))
  all_goals try (first | refine EW.eYes (x := Operand.tmp 71) ?_ | refine EW.eNo (x := Operand.tmp 71) ?_ | (refine EW.eCond (x := Operand.tmp 71) ?_ ?_ <;> (intro hb hb'; (try dsimp only at hb'); (try (exfalso; first | omega | with_reducible exact absurd rfl hb')))))
  all_goals try (refine EW.nm ?_)
  all_goals try ((first | refine EW.eRegL (id := 18) ?_ | refine EW.eReg (id := 18) ?_); refine EW.eLoadA (k := 16) ?_; refine EW.eLoadA (k := 16) ?_; refine EW.eCall Try.call19 (fun w => rq 1 0 w (by omega) (by omega)) ?_; refine EW.eMove ?_; (first | refine EW.eExtC ?_ | refine EW.eExtA ?_); (first | refine EW.eExtC ?_ | refine EW.eExtA ?_); (first | refine EW.eStoreW (k := 16) ?_ | refine EW.eStore (k := 16) ?_); refine EW.eEnd ?_; (try refine EW.nm ?_))
  all_goals try ((first | refine EW.eRegL (id := 17) ?_ | refine EW.eReg (id := 17) ?_); refine EW.eMove ?_; refine EW.eAdd ?_; refine EW.eAssign ?_; refine EW.eEnd ?_; (try refine EW.nm ?_))
  all_goals try ((first | refine EW.eRegL (id := 16) ?_ | refine EW.eReg (id := 16) ?_); refine EW.eMove ?_; refine EW.eMove ?_; refine EW.eLss ?_; refine EW.eEnd ?_; (try refine EW.nm ?_))
  all_goals try (first | refine EW.eYes (x := Operand.tmp 71) ?_ | refine EW.eNo (x := Operand.tmp 71) ?_ | (refine EW.eCond (x := Operand.tmp 71) ?_ ?_ <;> (intro hb hb'; (try dsimp only at hb'); (try (exfalso; first | omega | with_reducible exact absurd rfl hb')))))
  all_goals try (refine EW.nm ?_)
  all_goals try ((first | refine EW.eRegL (id := 18) ?_ | refine EW.eReg (id := 18) ?_); refine EW.eLoadA (k := 16) ?_; refine EW.eLoadA (k := 16) ?_; refine EW.eCall Try.call19 (fun w => rq 1 1 w (by omega) (by omega)) ?_; refine EW.eMove ?_; (first | refine EW.eExtC ?_ | refine EW.eExtA ?_); (first | refine EW.eExtC ?_ | refine EW.eExtA ?_); (first | refine EW.eStoreW (k := 16) ?_ | refine EW.eStore (k := 16) ?_); refine EW.eEnd ?_; (try refine EW.nm ?_))
  all_goals try ((first | refine EW.eRegL (id := 17) ?_ | refine EW.eReg (id := 17) ?_); refine EW.eMove ?_; refine EW.eAdd ?_; refine EW.eAssign ?_; refine EW.eEnd ?_; (try refine EW.nm ?_))
  all_goals try ((first | refine EW.eRegL (id := 16) ?_ | refine EW.eReg (id := 16) ?_); refine EW.eMove ?_; refine EW.eMove ?_; refine EW.eLss ?_; refine EW.eEnd ?_; (try refine EW.nm ?_))
  all_goals try (first | refine EW.eYes (x := Operand.tmp 71) ?_ | refine EW.eNo (x := Operand.tmp 71) ?_ | (refine EW.eCond (x := Operand.tmp 71) ?_ ?_ <;> (intro hb hb'; (try dsimp only at hb'); (try (exfalso; first | omega | with_reducible exact absurd rfl hb')))))
  all_goals try (refine EW.nm ?_)
  all_goals try ((first | refine EW.eRegL (id := 18) ?_ | refine EW.eReg (id := 18) ?_); refine EW.eLoadA (k := 16) ?_; refine EW.eLoadA (k := 16) ?_; refine EW.eCall Try.call19 (fun w => rq 1 2 w (by omega) (by omega)) ?_; refine EW.eMove ?_; (first | refine EW.eExtC ?_ | refine EW.eExtA ?_); (first | refine EW.eExtC ?_ | refine EW.eExtA ?_); (first | refine EW.eStoreW (k := 16) ?_ | refine EW.eStore (k := 16) ?_); refine EW.eEnd ?_; (try refine EW.nm ?_))
  all_goals try ((first | refine EW.eRegL (id := 17) ?_ | refine EW.eReg (id := 17) ?_); refine EW.eMove ?_; refine EW.eAdd ?_; refine EW.eAssign ?_; refine EW.eEnd ?_; (try refine EW.nm ?_))
  all_goals try ((first | refine EW.eRegL (id := 16) ?_ | refine EW.eReg (id := 16) ?_); refine EW.eMove ?_; refine EW.eMove ?_; refine EW.eLss ?_; refine EW.eEnd ?_; (try refine EW.nm ?_))
  all_goals try (first | refine EW.eYes (x := Operand.tmp 71) ?_ | refine EW.eNo (x := Operand.tmp 71) ?_ | (refine EW.eCond (x := Operand.tmp 71) ?_ ?_ <;> (intro hb hb'; (try dsimp only at hb'); (try (exfalso; first | omega | with_reducible exact absurd rfl hb')))))
  all_goals try (refine EW.nm ?_)
  all_goals try ((first | refine EW.eRegL (id := 18) ?_ | refine EW.eReg (id := 18) ?_); refine EW.eLoadA (k := 16) ?_; refine EW.eLoadA (k := 16) ?_; refine EW.eCall Try.call19 (fun w => rq 1 3 w (by omega) (by omega)) ?_; refine EW.eMove ?_; (first | refine EW.eExtC ?_ | refine EW.eExtA ?_); (first | refine EW.eExtC ?_ | refine EW.eExtA ?_); (first | refine EW.eStoreW (k := 16) ?_ | refine EW.eStore (k := 16) ?_); refine EW.eEnd ?_; (try refine EW.nm ?_))
  all_goals try ((first | refine EW.eRegL (id := 17) ?_ | refine EW.eReg (id := 17) ?_); refine EW.eMove ?_; refine EW.eAdd ?_; refine EW.eAssign ?_; refine EW.eEnd ?_; (try refine EW.nm ?_))
  all_goals try ((first | refine EW.eRegL (id := 19) ?_ | refine EW.eReg (id := 19) ?_); refine EW.eLoadA (k := 16) ?_; (first | refine EW.eStoreW (k := 16) ?_ | refine EW.eStore (k := 16) ?_); refine EW.eAssign ?_; refine EW.eEnd ?_; (try refine EW.nm ?_))
  all_goals (refine EW.eLeaveP ?_; intro w' hW; refine ⟨?_, hW⟩)
  all_goals first | (obtain rfl : r = 0 := by (split at hm <;> omega)); rfl | (obtain rfl : r = 1 := by (split at hm <;> omega)); rfl | (obtain rfl : r = 2 := by (split at hm <;> omega)); rfl | (obtain rfl : r = 3 := by (split at hm <;> omega)); rfl
set_option maxHeartbeats 4000000 in
theorem rturn2 (q s r : Int) (w : World) (hs : q.tmod 4 = s) (hs1 : -4 ≤ s ∧ s ≤ 4) (hr : r = if s < 0 then s + 4 else s) (h0 : 0 ≤ r ∧ r ≤ 3) : Calls Try.prog 13 #[I 2, I q] w fun e w' => e = .returned (.tuple #[A16 (turnL 2 r), I 0]) ∧ Below w.heap.size w w' := by
  obtain ⟨hs1, hs2⟩ := hs1
  obtain ⟨h0, h3⟩ := h0
  obtain ⟨m, hm⟩ : ∃ m, (if s < 0 then s + 4 else s) = m := ⟨_, rfl⟩
  obtain rfl : r = m := by rw [hr, hm]
  clear hr
  refine EW.eEnter Try.func13 rfl Try.ntmps13 ?_
  all_goals try (refine EW.nm ?_)
  all_goals try ((first | refine EW.eRegL (id := 0) ?_ | refine EW.eReg (id := 0) ?_); refine EW.eAlloc ?_; refine EW.eAssign ?_; refine EW.eEnd ?_; (try refine EW.nm ?_))
  all_goals try ((first | refine EW.eRegL (id := 1) ?_ | refine EW.eReg (id := 1) ?_); refine EW.eMove ?_; refine EW.eLss ?_; refine EW.eMove ?_)
  all_goals try (refine EW.eGuard (j := 2) (o := ⟨some 14, _, _, _, _, _⟩) ?_ ?_ <;> (intro hb hb'; (try dsimp only at hb'); (try (exfalso; first | omega | with_reducible exact absurd rfl hb'))))
  all_goals try ((first | refine EW.eSkipF (j := 2) ?_ | refine EW.eSkipU (j := 2) ?_ | refine EW.eMove ?_); (first | refine EW.eSkipF (j := 2) ?_ | refine EW.eSkipU (j := 2) ?_ | refine EW.eGtr ?_); (first | refine EW.ePickT ?_ | refine EW.ePickF ?_); refine EW.eEnd ?_; (try refine EW.nm ?_))
  all_goals try (first | refine EW.eYes (x := Operand.tmp 16) ?_ | refine EW.eNo (x := Operand.tmp 16) ?_ | (refine EW.eCond (x := Operand.tmp 16) ?_ ?_ <;> (intro hb hb'; (try dsimp only at hb'); (try (exfalso; first | omega | with_reducible exact absurd rfl hb')))))
  all_goals try (refine EW.nm ?_)
  all_goals try ((first | refine EW.eRegL (id := 2) ?_ | refine EW.eReg (id := 2) ?_); refine EW.eBuild (place := fun i => some (i * 4, 4)) ?_; (first | refine EW.eStoreW (k := 16) ?_ | refine EW.eStore (k := 16) ?_); refine EW.eAssign ?_; refine EW.eEnd ?_; (try refine EW.nm ?_))
  all_goals try ((first | refine EW.eRegL (id := 3) ?_ | refine EW.eReg (id := 3) ?_); refine EW.eAssign ?_; refine EW.eEnd ?_; (try refine EW.nm ?_))
  all_goals try ((first | refine EW.eRegL (id := 4) ?_ | refine EW.eReg (id := 4) ?_); refine EW.eBuild (place := fun i => some (i * 4, 4)) ?_; refine EW.eAlloc ?_; (first | refine EW.eStoreW (k := 16) ?_ | refine EW.eStore (k := 16) ?_); refine EW.eEnd ?_; (try refine EW.nm ?_))
  all_goals try ((first | refine EW.eRegL (id := 5) ?_ | refine EW.eReg (id := 5) ?_); refine EW.eMove ?_; refine EW.eEnd ?_; (try refine EW.nm ?_))
  all_goals try ((first | refine EW.eRegL (id := 7) ?_ | refine EW.eReg (id := 7) ?_); refine EW.eEql ?_; refine EW.eAssign ?_; refine EW.eEnd ?_; (try refine EW.nm ?_))
  all_goals try (first | refine EW.eYes (x := Operand.tmp 30) ?_ | refine EW.eNo (x := Operand.tmp 30) ?_ | (refine EW.eCond (x := Operand.tmp 30) ?_ ?_ <;> (intro hb hb'; (try dsimp only at hb'); (try (exfalso; first | omega | with_reducible exact absurd rfl hb')))))
  all_goals try (refine EW.nm ?_)
  all_goals try ((first | refine EW.eRegL (id := 8) ?_ | refine EW.eReg (id := 8) ?_); refine EW.eMove ?_; refine EW.eBuild (place := fun i => some (i * 1, 1)) ?_; refine EW.eMove ?_; refine EW.eNeg ?_; refine EW.eBuild (place := fun i => some (i * 1, 1)) ?_; refine EW.eMove ?_; refine EW.eBuild (place := fun i => some (i * 1, 1)) ?_; refine EW.eMove ?_; refine EW.eBuild (place := fun i => some (i * 1, 1)) ?_; refine EW.eBuild (place := fun i => some (i * 4, 4)) ?_; (first | refine EW.eStoreW (k := 16) ?_ | refine EW.eStore (k := 16) ?_); refine EW.eEnd ?_; (try refine EW.nm ?_))
  all_goals try ((first | refine EW.eRegL (id := 9) ?_ | refine EW.eReg (id := 9) ?_); refine EW.eEql ?_; refine EW.eAssign ?_; refine EW.eEnd ?_; (try refine EW.nm ?_))
  all_goals try (first | refine EW.eYes (x := Operand.tmp 42) ?_ | refine EW.eNo (x := Operand.tmp 42) ?_ | (refine EW.eCond (x := Operand.tmp 42) ?_ ?_ <;> (intro hb hb'; (try dsimp only at hb'); (try (exfalso; first | omega | with_reducible exact absurd rfl hb')))))
  all_goals try (refine EW.nm ?_)
  all_goals try ((first | refine EW.eRegL (id := 10) ?_ | refine EW.eReg (id := 10) ?_); refine EW.eMove ?_; refine EW.eBuild (place := fun i => some (i * 1, 1)) ?_; refine EW.eMove ?_; refine EW.eBuild (place := fun i => some (i * 1, 1)) ?_; refine EW.eMove ?_; refine EW.eNeg ?_; refine EW.eBuild (place := fun i => some (i * 1, 1)) ?_; refine EW.eMove ?_; refine EW.eBuild (place := fun i => some (i * 1, 1)) ?_; refine EW.eBuild (place := fun i => some (i * 4, 4)) ?_; (first | refine EW.eStoreW (k := 16) ?_ | refine EW.eStore (k := 16) ?_); refine EW.eEnd ?_; (try refine EW.nm ?_))
  all_goals try ((first | refine EW.eRegL (id := 6) ?_ | refine EW.eReg (id := 6) ?_); refine EW.eMove ?_; refine EW.eNeg ?_; refine EW.eBuild (place := fun i => some (i * 1, 1)) ?_; refine EW.eMove ?_; refine EW.eBuild (place := fun i => some (i * 1, 1)) ?_; refine EW.eMove ?_; refine EW.eBuild (place := fun i => some (i * 1, 1)) ?_; refine EW.eMove ?_; refine EW.eBuild (place := fun i => some (i * 1, 1)) ?_; refine EW.eBuild (place := fun i => some (i * 4, 4)) ?_; (first | refine EW.eStoreW (k := 16) ?_ | refine EW.eStore (k := 16) ?_); refine EW.eEnd ?_; (try refine EW.nm ?_))
  all_goals try ((first | refine EW.eRegL (id := 11) ?_ | refine EW.eReg (id := 11) ?_); refine EW.eMove ?_; refine EW.eBuild (place := fun i => some (i * 1, 1)) ?_; refine EW.eMove ?_; refine EW.eBuild (place := fun i => some (i * 1, 1)) ?_; refine EW.eMove ?_; refine EW.eBuild (place := fun i => some (i * 1, 1)) ?_; refine EW.eMove ?_; refine EW.eBuild (place := fun i => some (i * 1, 1)) ?_; refine EW.eBuild (place := fun i => some (i * 4, 4)) ?_; refine EW.eAlloc ?_; (first | refine EW.eStoreW (k := 16) ?_ | refine EW.eStore (k := 16) ?_); refine EW.eEnd ?_; (try refine EW.nm ?_))
  all_goals try ((first | refine EW.eRegL (id := 12) ?_ | refine EW.eReg (id := 12) ?_); refine EW.eMove ?_; refine EW.eRem ?_ (hr' := rm_is hs); refine EW.eAssign ?_; refine EW.eEnd ?_; (try refine EW.nm ?_))
  all_goals try ((first | refine EW.eRegL (id := 13) ?_ | refine EW.eReg (id := 13) ?_); refine EW.eMove ?_; refine EW.eLss ?_; refine EW.eEnd ?_; (try refine EW.nm ?_))
  all_goals try (first | refine EW.eYes (x := Operand.tmp 66) ?_ | refine EW.eNo (x := Operand.tmp 66) ?_ | (refine EW.eCond (x := Operand.tmp 66) ?_ ?_ <;> (intro hb hb'; (try dsimp only at hb'); (try (exfalso; first | omega | with_reducible exact absurd rfl hb')))))
  all_goals try (refine EW.nm ?_)
  all_goals try ((first | refine EW.eRegL (id := 14) ?_ | refine EW.eReg (id := 14) ?_); refine EW.eMove ?_; refine EW.eAdd ?_; refine EW.eAssign ?_; refine EW.eEnd ?_; (try refine EW.nm ?_))
  all_goals try ((first | refine EW.eRegL (id := 15) ?_ | refine EW.eReg (id := 15) ?_); refine EW.eAssign ?_; refine EW.eEnd ?_; (try refine EW.nm ?_))
  all_goals try (refine EW.eUnroll 4 ?_)
  all_goals try (refine EW.nm ?_)
  all_goals try ((first | refine EW.eRegL (id := 16) ?_ | refine EW.eReg (id := 16) ?_); refine EW.eMove ?_; refine EW.eMove ?_; refine EW.eLss ?_; refine EW.eEnd ?_; (try refine EW.nm ?_))
  all_goals try (first | refine EW.eYes (x := Operand.tmp 71) ?_ | refine EW.eNo (x := Operand.tmp 71) ?_ | (refine EW.eCond (x := Operand.tmp 71) ?_ ?_ <;> (intro hb hb'; (try dsimp only at hb'); (try (exfalso; first | omega | with_reducible exact absurd rfl hb')))))
  all_goals try (refine EW.nm ?_)
  all_goals try ((first | refine EW.eRegL (id := 18) ?_ | refine EW.eReg (id := 18) ?_); refine EW.eLoadA (k := 16) ?_; refine EW.eLoadA (k := 16) ?_; refine EW.eCall Try.call19 (fun w => rq 2 0 w (by omega) (by omega)) ?_; refine EW.eMove ?_; (first | refine EW.eExtC ?_ | refine EW.eExtA ?_); (first | refine EW.eExtC ?_ | refine EW.eExtA ?_); (first | refine EW.eStoreW (k := 16) ?_ | refine EW.eStore (k := 16) ?_); refine EW.eEnd ?_; (try refine EW.nm ?_))
  all_goals try ((first | refine EW.eRegL (id := 17) ?_ | refine EW.eReg (id := 17) ?_); refine EW.eMove ?_; refine EW.eAdd ?_; refine EW.eAssign ?_; refine EW.eEnd ?_; (try refine EW.nm ?_))
  all_goals try ((first | refine EW.eRegL (id := 16) ?_ | refine EW.eReg (id := 16) ?_); refine EW.eMove ?_; refine EW.eMove ?_; refine EW.eLss ?_; refine EW.eEnd ?_; (try refine EW.nm ?_))
  all_goals try (first | refine EW.eYes (x := Operand.tmp 71) ?_ | refine EW.eNo (x := Operand.tmp 71) ?_ | (refine EW.eCond (x := Operand.tmp 71) ?_ ?_ <;> (intro hb hb'; (try dsimp only at hb'); (try (exfalso; first | omega | with_reducible exact absurd rfl hb')))))
  all_goals try (refine EW.nm ?_)
  all_goals try ((first | refine EW.eRegL (id := 18) ?_ | refine EW.eReg (id := 18) ?_); refine EW.eLoadA (k := 16) ?_; refine EW.eLoadA (k := 16) ?_; refine EW.eCall Try.call19 (fun w => rq 2 1 w (by omega) (by omega)) ?_; refine EW.eMove ?_; (first | refine EW.eExtC ?_ | refine EW.eExtA ?_); (first | refine EW.eExtC ?_ | refine EW.eExtA ?_); (first | refine EW.eStoreW (k := 16) ?_ | refine EW.eStore (k := 16) ?_); refine EW.eEnd ?_; (try refine EW.nm ?_))
  all_goals try ((first | refine EW.eRegL (id := 17) ?_ | refine EW.eReg (id := 17) ?_); refine EW.eMove ?_; refine EW.eAdd ?_; refine EW.eAssign ?_; refine EW.eEnd ?_; (try refine EW.nm ?_))
  all_goals try ((first | refine EW.eRegL (id := 16) ?_ | refine EW.eReg (id := 16) ?_); refine EW.eMove ?_; refine EW.eMove ?_; refine EW.eLss ?_; refine EW.eEnd ?_; (try refine EW.nm ?_))
  all_goals try (first | refine EW.eYes (x := Operand.tmp 71) ?_ | refine EW.eNo (x := Operand.tmp 71) ?_ | (refine EW.eCond (x := Operand.tmp 71) ?_ ?_ <;> (intro hb hb'; (try dsimp only at hb'); (try (exfalso; first | omega | with_reducible exact absurd rfl hb')))))
  all_goals try (refine EW.nm ?_)
  all_goals try ((first | refine EW.eRegL (id := 18) ?_ | refine EW.eReg (id := 18) ?_); refine EW.eLoadA (k := 16) ?_; refine EW.eLoadA (k := 16) ?_; refine EW.eCall Try.call19 (fun w => rq 2 2 w (by omega) (by omega)) ?_; refine EW.eMove ?_; (first | refine EW.eExtC ?_ | refine EW.eExtA ?_); (first | refine EW.eExtC ?_ | refine EW.eExtA ?_); (first | refine EW.eStoreW (k := 16) ?_ | refine EW.eStore (k := 16) ?_); refine EW.eEnd ?_; (try refine EW.nm ?_))
  all_goals try ((first | refine EW.eRegL (id := 17) ?_ | refine EW.eReg (id := 17) ?_); refine EW.eMove ?_; refine EW.eAdd ?_; refine EW.eAssign ?_; refine EW.eEnd ?_; (try refine EW.nm ?_))
  all_goals try ((first | refine EW.eRegL (id := 16) ?_ | refine EW.eReg (id := 16) ?_); refine EW.eMove ?_; refine EW.eMove ?_; refine EW.eLss ?_; refine EW.eEnd ?_; (try refine EW.nm ?_))
  all_goals try (first | refine EW.eYes (x := Operand.tmp 71) ?_ | refine EW.eNo (x := Operand.tmp 71) ?_ | (refine EW.eCond (x := Operand.tmp 71) ?_ ?_ <;> (intro hb hb'; (try dsimp only at hb'); (try (exfalso; first | omega | with_reducible exact absurd rfl hb')))))
  all_goals try (refine EW.nm ?_)
  all_goals try ((first | refine EW.eRegL (id := 18) ?_ | refine EW.eReg (id := 18) ?_); refine EW.eLoadA (k := 16) ?_; refine EW.eLoadA (k := 16) ?_; refine EW.eCall Try.call19 (fun w => rq 2 3 w (by omega) (by omega)) ?_; refine EW.eMove ?_; (first | refine EW.eExtC ?_ | refine EW.eExtA ?_); (first | refine EW.eExtC ?_ | refine EW.eExtA ?_); (first | refine EW.eStoreW (k := 16) ?_ | refine EW.eStore (k := 16) ?_); refine EW.eEnd ?_; (try refine EW.nm ?_))
  all_goals try ((first | refine EW.eRegL (id := 17) ?_ | refine EW.eReg (id := 17) ?_); refine EW.eMove ?_; refine EW.eAdd ?_; refine EW.eAssign ?_; refine EW.eEnd ?_; (try refine EW.nm ?_))
  all_goals try ((first | refine EW.eRegL (id := 19) ?_ | refine EW.eReg (id := 19) ?_); refine EW.eLoadA (k := 16) ?_; (first | refine EW.eStoreW (k := 16) ?_ | refine EW.eStore (k := 16) ?_); refine EW.eAssign ?_; refine EW.eEnd ?_; (try refine EW.nm ?_))
  all_goals (refine EW.eLeaveP ?_; intro w' hW; refine ⟨?_, hW⟩)
  all_goals first | (obtain rfl : r = 0 := by (split at hm <;> omega)); rfl | (obtain rfl : r = 1 := by (split at hm <;> omega)); rfl | (obtain rfl : r = 2 := by (split at hm <;> omega)); rfl | (obtain rfl : r = 3 := by (split at hm <;> omega)); rfl
theorem rturn_any (a q s r : Int) (w : World) (ha : a = 0 ∨ a = 1 ∨ a = 2) (hs : q.tmod 4 = s) (hs1 : -4 ≤ s ∧ s ≤ 4) (hr : r = if s < 0 then s + 4 else s) (h0 : 0 ≤ r ∧ r ≤ 3) : Calls Try.prog 13 #[I a, I q] w fun e w' => e = .returned (.tuple #[Nm (turnL a r), I 0]) ∧ Below w.heap.size w w' := by
  rcases ha with rfl | rfl | rfl
  · exact rturn0 q s r w hs hs1 hr h0
  · exact rturn1 q s r w hs hs1 hr h0
  · exact rturn2 q s r w hs hs1 hr h0
theorem mturn_any (a q s r : Int) (w : World) (ha : a = 0 ∨ a = 1 ∨ a = 2) (hs : q.tmod 4 = s) (hs1 : -4 ≤ s ∧ s ≤ 4) (hr : (s + 4).tmod 4 = r) (h0 : 0 ≤ r ∧ r ≤ 3) : Calls Try.prog 12 #[I a, I q] w fun e w' => e = .returned (.tuple #[Nm (turnL a r), I 0]) ∧ Below w.heap.size w w' := mturn a q s r w ha hs hs1 hr h0
end Go.Proofs.Ytgjbhocahpplbaa
