/- Package matrix: Turn. -/
import Derived.Test.YtgjbhocahpplbaaMk1
namespace Go.Proofs.Ytgjbhocahpplbaa
set_option linter.unusedSimpArgs false
set_option linter.unusedVariables false
open Go.RowKit EV
open SX (Wr Tv Qu Rm Sh Is conjP eqs_iff eqs_false)
open EW (PlL PlT PlV PlVs LfV Mm Bt Opn GV YT lpOf)
set_option maxRecDepth 20000
def idL : List Int := [65536, 0, 0, 0, 0, 65536, 0, 0, 0, 0, 65536, 0, 0, 0, 0, 65536]
/-- A quarter more about an axis. -/
def quarterL (a : Int) : List Int → List Int
  | [a0, a1, a2, a3, a4, a5, a6, a7, a8, a9, aa, ab, ac, ad, ae, af] =>
    if a = 0 then [a0, a1, a2, a3, 0 - a8, 0 - a9, 0 - aa, 0 - ab, a4, a5, a6, a7, ac, ad, ae, af]
    else if a = 1 then [a8, a9, aa, ab, a4, a5, a6, a7, 0 - a0, 0 - a1, 0 - a2, 0 - a3, ac, ad, ae, af]
    else [0 - a4, 0 - a5, 0 - a6, 0 - a7, a0, a1, a2, a3, a8, a9, aa, ab, ac, ad, ae, af]
  | l => l
def turnL (a r : Int) : List Int :=
  if r = 0 then idL else if r = 1 then quarterL a idL else if r = 2 then quarterL a (quarterL a idL) else quarterL a (quarterL a (quarterL a idL))
theorem rm_is {a b r : Int} (h : a.tmod b = r) : Rm a b r := ⟨h⟩
theorem mturn_no (a q : Int) (w : World) (h : a < 0 ∨ 2 < a) : Calls Try.prog 12 #[I a, I q] w fun e w' => e = .returned (.tuple #[A16 [0, 0, 0, 0, 0, 0, 0, 0, 0, 0, 0, 0, 0, 0, 0, 0], I 2]) ∧ Below w.heap.size w w' := by
  refine EW.eEnter Try.func12 rfl Try.ntmps12 ?_
  all_goals try (refine EW.nm ?_)
  all_goals try ((first | refine EW.eRegL (id := 0) ?_ | refine EW.eReg (id := 0) ?_); refine EW.eAlloc ?_; refine EW.eAssign ?_; refine EW.eEnd ?_; (try refine EW.nm ?_))
  all_goals try ((first | refine EW.eRegL (id := 1) ?_ | refine EW.eReg (id := 1) ?_); refine EW.eMove ?_; refine EW.eLss ?_; refine EW.eMove ?_)
  all_goals try (refine EW.eGuard (j := 2) (o := ⟨some 12, _, _, _, _, _⟩) ?_ ?_ <;> (intro hb hb'; (try dsimp only at hb'); (try (exfalso; first | omega | with_reducible exact absurd rfl hb'))))
  all_goals try ((first | refine EW.eSkipF (j := 2) ?_ | refine EW.eSkipU (j := 2) ?_ | refine EW.eMove ?_); (first | refine EW.eSkipF (j := 2) ?_ | refine EW.eSkipU (j := 2) ?_ | refine EW.eGeq ?_); (first | refine EW.ePickT ?_ | refine EW.ePickF ?_); refine EW.eEnd ?_; (try refine EW.nm ?_))
  all_goals try (first | refine EW.eYes (x := Operand.tmp 14) ?_ | refine EW.eNo (x := Operand.tmp 14) ?_ | (refine EW.eCond (x := Operand.tmp 14) ?_ ?_ <;> (intro hb hb'; (try dsimp only at hb'); (try (exfalso; first | omega | with_reducible exact absurd rfl hb')))))
  all_goals try (refine EW.nm ?_)
  all_goals try ((first | refine EW.eRegL (id := 2) ?_ | refine EW.eReg (id := 2) ?_); refine EW.eBuild (place := fun i => some (i * 4, 4)) ?_; (first | refine EW.eStoreW (k := 16) ?_ | refine EW.eStore (k := 16) ?_); refine EW.eAssign ?_; refine EW.eEnd ?_; (try refine EW.nm ?_))
  all_goals try ((first | refine EW.eRegL (id := 3) ?_ | refine EW.eReg (id := 3) ?_); refine EW.eMove ?_; refine EW.eAdd ?_; refine EW.eRem ?_; refine EW.eMove ?_; refine EW.eAdd ?_; refine EW.eRem ?_; refine EW.eAssign ?_; refine EW.eAssign ?_; refine EW.eEnd ?_; (try refine EW.nm ?_))
  all_goals try ((first | refine EW.eRegL (id := 4) ?_ | refine EW.eReg (id := 4) ?_); fail "no contract of mullion/matrix.Identity"; refine EW.eAlloc ?_; (first | refine EW.eStoreW (k := 16) ?_ | refine EW.eStore (k := 16) ?_); refine EW.eEnd ?_; (try refine EW.nm ?_))
  all_goals try ((first | refine EW.eRegL (id := 5) ?_ | refine EW.eReg (id := 5) ?_); refine EW.eMove ?_; refine EW.eRem ?_; refine EW.eAdd ?_; refine EW.eRem ?_; refine EW.eMove ?_; refine EW.eEnd ?_; (try refine EW.nm ?_))
  all_goals try (refine EW.eUnroll 6 ?_)
  all_goals try (refine EW.nm ?_)
  iterate 6 (
    all_goals try ((first | refine EW.eRegL (id := 6) ?_ | refine EW.eReg (id := 6) ?_); refine EW.eLss ?_; refine EW.eEnd ?_; (try refine EW.nm ?_))
    all_goals try (first | refine EW.eYes (x := Operand.tmp 28) ?_ | refine EW.eNo (x := Operand.tmp 28) ?_ | (refine EW.eCond (x := Operand.tmp 28) ?_ ?_ <;> (intro hb hb'; (try dsimp only at hb'); (try (exfalso; first | omega | with_reducible exact absurd rfl hb')))))
    all_goals try (refine EW.nm ?_)
    all_goals try ((first | refine EW.eRegL (id := 7) ?_ | refine EW.eReg (id := 7) ?_); refine EW.eMove ?_; refine EW.eMove ?_; refine EW.eMove ?_; refine EW.eIndexAddr (z := 4) ?_; refine EW.eLoadA (k := 4) ?_; fail "no contract of mullion/matrix.negated"; refine EW.eMove ?_; refine EW.eIndexAddr (z := 4) ?_; refine EW.eLoadA (k := 4) ?_; refine EW.eIndexAddr (z := 4) ?_; (first | refine EW.eStoreW (k := 4) ?_ | refine EW.eStore (k := 4) ?_); refine EW.eIndexAddr (z := 4) ?_; (first | refine EW.eStoreW (k := 4) ?_ | refine EW.eStore (k := 4) ?_); refine EW.eDraw ?_; (try refine EW.nm ?_))
    all_goals try ((first | refine EW.eRegL (id := 8) ?_ | refine EW.eReg (id := 8) ?_); refine EW.eAdd ?_; refine EW.eMove ?_; refine EW.eEnd ?_; (try refine EW.nm ?_)))
  all_goals try ((first | refine EW.eRegL (id := 9) ?_ | refine EW.eReg (id := 9) ?_); refine EW.eLoadA (k := 16) ?_; (first | refine EW.eStoreW (k := 16) ?_ | refine EW.eStore (k := 16) ?_); refine EW.eAssign ?_; refine EW.eEnd ?_; (try refine EW.nm ?_))
  all_goals (refine EW.eLeaveP ?_; intro w' hW; refine ⟨?_, hW⟩)
  all_goals rfl
theorem mnegated_any (a b c d : Int) (w : World) : Calls Try.prog 23 #[A16 [a, b, c, d]] w fun e w' => e = .returned (A16 [IntKind.i64.wrap (0 - a), IntKind.i64.wrap (0 - b), IntKind.i64.wrap (0 - c), IntKind.i64.wrap (0 - d)]) ∧ Below w.heap.size w w' := by
  refine EW.eEnter Try.func23 rfl Try.ntmps23 ?_
  all_goals try (refine EW.nm ?_)
  all_goals try ((first | refine EW.eRegL (id := 0) ?_ | refine EW.eReg (id := 0) ?_); refine EW.eBox ?_; refine EW.eAlloc ?_; refine EW.eEnd ?_; (try refine EW.nm ?_))
  all_goals try ((first | refine EW.eRegL (id := 1) ?_ | refine EW.eReg (id := 1) ?_); refine EW.eMove ?_; refine EW.eEnd ?_; (try refine EW.nm ?_))
  all_goals try (refine EW.eUnroll 5 ?_)
  all_goals try (refine EW.nm ?_)
  iterate 5 (
    all_goals try ((first | refine EW.eRegL (id := 2) ?_ | refine EW.eReg (id := 2) ?_); refine EW.eLss ?_; refine EW.eEnd ?_; (try refine EW.nm ?_))
    all_goals try (first | refine EW.eYes (x := Operand.tmp 5) ?_ | refine EW.eNo (x := Operand.tmp 5) ?_ | (refine EW.eCond (x := Operand.tmp 5) ?_ ?_ <;> (intro hb hb'; (try dsimp only at hb'); (try (exfalso; first | omega | with_reducible exact absurd rfl hb')))))
    all_goals try (refine EW.nm ?_)
    all_goals try ((first | refine EW.eRegL (id := 3) ?_ | refine EW.eReg (id := 3) ?_); refine EW.eMove ?_; refine EW.eAssign ?_; refine EW.eEnd ?_; (try refine EW.nm ?_))
    all_goals try ((first | refine EW.eRegL (id := 4) ?_ | refine EW.eReg (id := 4) ?_); refine EW.eMove ?_; refine EW.eMove ?_; refine EW.eIndexAddr (z := 1) ?_; refine EW.eLoad1 ?_; refine EW.eNeg ?_; refine EW.eIndexAddr (z := 1) ?_; (first | refine EW.eStoreW (k := 1) ?_ | refine EW.eStore (k := 1) ?_); refine EW.eEnd ?_; (try refine EW.nm ?_))
    all_goals try ((first | refine EW.eRegL (id := 5) ?_ | refine EW.eReg (id := 5) ?_); refine EW.eAdd ?_; refine EW.eMove ?_; refine EW.eEnd ?_; (try refine EW.nm ?_)))
  all_goals try ((first | refine EW.eRegL (id := 6) ?_ | refine EW.eReg (id := 6) ?_); refine EW.eLoadA (k := 4) ?_; (first | refine EW.eStoreW (k := 4) ?_ | refine EW.eStore (k := 4) ?_); refine EW.eEnd ?_; (try refine EW.nm ?_))
  all_goals (refine EW.eLeaveP ?_; intro w' hW; refine ⟨?_, hW⟩)
  all_goals rfl
theorem mturn (a q s r : Int) (w : World) (ha : a = 0 ∨ a = 1 ∨ a = 2) (hs : q.tmod 4 = s) (hs1 : -4 ≤ s ∧ s ≤ 4) (hr : (s + 4).tmod 4 = r) (h0 : 0 ≤ r ∧ r ≤ 3) : Calls Try.prog 12 #[I a, I q] w fun e w' => e = .returned (.tuple #[A16 (turnL a r), I 0]) ∧ Below w.heap.size w w' := by
  obtain ⟨hs1, hs2⟩ := hs1
  obtain ⟨h0, h3⟩ := h0
  rcases ha with rfl | rfl | rfl
  all_goals
    refine EW.eEnter Try.func12 rfl Try.ntmps12 ?_
    all_goals try (refine EW.nm ?_)
    all_goals try ((first | refine EW.eRegL (id := 0) ?_ | refine EW.eReg (id := 0) ?_); refine EW.eAlloc ?_; refine EW.eAssign ?_; refine EW.eEnd ?_; (try refine EW.nm ?_))
    all_goals try ((first | refine EW.eRegL (id := 1) ?_ | refine EW.eReg (id := 1) ?_); refine EW.eMove ?_; refine EW.eLss ?_; refine EW.eMove ?_)
    all_goals try (refine EW.eGuard (j := 2) (o := ⟨some 12, _, _, _, _, _⟩) ?_ ?_ <;> (intro hb hb'; (try dsimp only at hb'); (try (exfalso; first | omega | with_reducible exact absurd rfl hb'))))
    all_goals try ((first | refine EW.eSkipF (j := 2) ?_ | refine EW.eSkipU (j := 2) ?_ | refine EW.eMove ?_); (first | refine EW.eSkipF (j := 2) ?_ | refine EW.eSkipU (j := 2) ?_ | refine EW.eGeq ?_); (first | refine EW.ePickT ?_ | refine EW.ePickF ?_); refine EW.eEnd ?_; (try refine EW.nm ?_))
    all_goals try (first | refine EW.eYes (x := Operand.tmp 14) ?_ | refine EW.eNo (x := Operand.tmp 14) ?_ | (refine EW.eCond (x := Operand.tmp 14) ?_ ?_ <;> (intro hb hb'; (try dsimp only at hb'); (try (exfalso; first | omega | with_reducible exact absurd rfl hb')))))
    all_goals try (refine EW.nm ?_)
    all_goals try ((first | refine EW.eRegL (id := 2) ?_ | refine EW.eReg (id := 2) ?_); refine EW.eBuild (place := fun i => some (i * 4, 4)) ?_; (first | refine EW.eStoreW (k := 16) ?_ | refine EW.eStore (k := 16) ?_); refine EW.eAssign ?_; refine EW.eEnd ?_; (try refine EW.nm ?_))
    all_goals try ((first | refine EW.eRegL (id := 3) ?_ | refine EW.eReg (id := 3) ?_); refine EW.eMove ?_; refine EW.eAdd ?_; refine EW.eRem ?_; refine EW.eMove ?_; refine EW.eAdd ?_; refine EW.eRem ?_; refine EW.eAssign ?_; refine EW.eAssign ?_; refine EW.eEnd ?_; (try refine EW.nm ?_))
    all_goals try ((first | refine EW.eRegL (id := 4) ?_ | refine EW.eReg (id := 4) ?_); refine EW.eCall Try.call11 (fun w => mident w) ?_; refine EW.eAlloc ?_; (first | refine EW.eStoreW (k := 16) ?_ | refine EW.eStore (k := 16) ?_); refine EW.eEnd ?_; (try refine EW.nm ?_))
    all_goals try ((first | refine EW.eRegL (id := 5) ?_ | refine EW.eReg (id := 5) ?_); refine EW.eMove ?_; refine EW.eRem ?_ (hr' := rm_is hs); refine EW.eAdd ?_; refine EW.eRem ?_ (hr' := rm_is hr); refine EW.eMove ?_; refine EW.eEnd ?_; (try refine EW.nm ?_))
    all_goals try (refine EW.eUnroll 5 ?_)
    all_goals try (refine EW.nm ?_)
    iterate 5 (
      all_goals try ((first | refine EW.eRegL (id := 6) ?_ | refine EW.eReg (id := 6) ?_); refine EW.eLss ?_; refine EW.eEnd ?_; (try refine EW.nm ?_))
      all_goals try (first | refine EW.eYes (x := Operand.tmp 28) ?_ | refine EW.eNo (x := Operand.tmp 28) ?_ | (refine EW.eCond (x := Operand.tmp 28) ?_ ?_ <;> (intro hb hb'; (try dsimp only at hb'); (try (exfalso; first | omega | with_reducible exact absurd rfl hb')))))
      all_goals try (refine EW.nm ?_)
      all_goals try ((first | refine EW.eRegL (id := 7) ?_ | refine EW.eReg (id := 7) ?_); refine EW.eMove ?_; refine EW.eMove ?_; refine EW.eMove ?_; refine EW.eIndexAddr (z := 4) ?_; refine EW.eLoadA (k := 4) ?_; refine EW.eCall Try.call23 (fun w => mnegated_any _ _ _ _ w) ?_; refine EW.eMove ?_; refine EW.eIndexAddr (z := 4) ?_; refine EW.eLoadA (k := 4) ?_; refine EW.eIndexAddr (z := 4) ?_; (first | refine EW.eStoreW (k := 4) ?_ | refine EW.eStore (k := 4) ?_); refine EW.eIndexAddr (z := 4) ?_; (first | refine EW.eStoreW (k := 4) ?_ | refine EW.eStore (k := 4) ?_); refine EW.eDraw ?_; (try refine EW.nm ?_))
      all_goals try ((first | refine EW.eRegL (id := 8) ?_ | refine EW.eReg (id := 8) ?_); refine EW.eAdd ?_; refine EW.eMove ?_; refine EW.eEnd ?_; (try refine EW.nm ?_)))
    all_goals try ((first | refine EW.eRegL (id := 9) ?_ | refine EW.eReg (id := 9) ?_); refine EW.eLoadA (k := 16) ?_; (first | refine EW.eStoreW (k := 16) ?_ | refine EW.eStore (k := 16) ?_); refine EW.eAssign ?_; refine EW.eEnd ?_; (try refine EW.nm ?_))
  all_goals (refine EW.eLeaveP ?_; intro w' hW; refine ⟨?_, hW⟩)
  all_goals first | (obtain rfl : r = 0 := by omega); rfl | (obtain rfl : r = 1 := by omega); rfl | (obtain rfl : r = 2 := by omega); rfl | (obtain rfl : r = 3 := by omega); rfl
end Go.Proofs.Ytgjbhocahpplbaa
