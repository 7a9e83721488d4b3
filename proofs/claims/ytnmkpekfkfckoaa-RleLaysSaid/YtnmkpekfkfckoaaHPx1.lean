/- Package pixel: what pixels are; Cmp, Near, Check, Empty, Of; the document's. -/
import Derived.Test.YtnmkpekfkfckoaaHZD
import Derived.Test.YtnmkpekfkfckoaaRows
namespace Go.Proofs.Ytnmkpekfkfckoaa
set_option linter.unusedSimpArgs false
set_option linter.unusedVariables false
open Go.RowKit EV
open SX (Wr Tv Qu Rm Sh Is conjP eqs_iff eqs_false)
open EW (PlL PlT PlV PlVs LfV Mm Bt Opn GV)
structure Px where
  z : Int
  o : Int
  t : Int
  c : Int
  deriving DecidableEq
abbrev Px.val (p : Px) : Value := .agg #[.int .u32 p.z, .int .i64 p.o, .int .i64 p.t, .int .u32 p.c]
/-- Which of two numbers is the greater one. -/
def cmpI (a b : Int) : Int := if a < b then -1 else if b < a then 1 else 0
def or4 (a b c d : Int) : Int := if a ≠ 0 then a else if b ≠ 0 then b else if c ≠ 0 then c else d
def Px.cmp (a b : Px) : Int := or4 (cmpI a.z b.z) (cmpI a.o b.o) (cmpI a.t b.t) (cmpI a.c b.c)
set_option maxRecDepth 20000
theorem nan32 (a : Int) (w : World) : Calls Try.prog 107 #[.int .u32 a] w fun e w' => e = .returned (.bool false) ∧ Below w.heap.size w w' := by
  refine EW.eEnter Try.func107 rfl Try.ntmps107 ?_
  all_goals try (refine EW.nm ?_)
  all_goals try (refine EW.eReg (id := 0) ?_; refine EW.eAssign ?_; refine EW.eEnd ?_; (try refine EW.nm ?_))
  all_goals try (refine EW.eReg (id := 1) ?_; refine EW.eMove ?_; refine EW.eMove ?_; refine EW.eNeq ?_; refine EW.eAssign ?_; refine EW.eEnd ?_; (try refine EW.nm ?_))
  all_goals try (with_reducible refine EW.parkK ?_)
  all_goals try (refine EW.Park.mk ?_)
  all_goals (refine EW.eLeaveP ?_; intro w' hW; refine ⟨?_, hW⟩)
  all_goals rfl
theorem nan64 (a : Int) (w : World) : Calls Try.prog 108 #[.int .i64 a] w fun e w' => e = .returned (.bool false) ∧ Below w.heap.size w w' := by
  refine EW.eEnter Try.func108 rfl Try.ntmps108 ?_
  all_goals try (refine EW.nm ?_)
  all_goals try (refine EW.eReg (id := 0) ?_; refine EW.eAssign ?_; refine EW.eEnd ?_; (try refine EW.nm ?_))
  all_goals try (refine EW.eReg (id := 1) ?_; refine EW.eMove ?_; refine EW.eMove ?_; refine EW.eNeq ?_; refine EW.eAssign ?_; refine EW.eEnd ?_; (try refine EW.nm ?_))
  all_goals try (with_reducible refine EW.parkK ?_)
  all_goals try (refine EW.Park.mk ?_)
  all_goals (refine EW.eLeaveP ?_; intro w' hW; refine ⟨?_, hW⟩)
  all_goals rfl
theorem cmp32 (a b : Int) (w : World) : Calls Try.prog 104 #[.int .u32 a, .int .u32 b] w fun e w' => e = .returned (.int .i64 (cmpI a b)) ∧ Below w.heap.size w w' := by
  unfold cmpI
  refine EW.eEnter Try.func104 rfl Try.ntmps104 ?_
  all_goals try (refine EW.nm ?_)
  all_goals try (refine EW.eReg (id := 0) ?_; refine EW.eAssign ?_; refine EW.eEnd ?_; (try refine EW.nm ?_))
  all_goals try (refine EW.eReg (id := 1) ?_; refine EW.eMove ?_; refine EW.eCall Try.call107 (fun w => nan32 _ w) ?_; refine EW.eAssign ?_; refine EW.eEnd ?_; (try refine EW.nm ?_))
  all_goals try (refine EW.eReg (id := 2) ?_; refine EW.eMove ?_; refine EW.eCall Try.call107 (fun w => nan32 _ w) ?_; refine EW.eAssign ?_; refine EW.eEnd ?_; (try refine EW.nm ?_))
  all_goals try (refine EW.eReg (id := 3) ?_; refine EW.eMove ?_; refine EW.eEnd ?_; (try refine EW.nm ?_))
  all_goals try (first | refine EW.eYes (x := .tmp 11) ?_ | refine EW.eNo (x := .tmp 11) ?_ | (refine EW.eCond (x := .tmp 11) ?_ ?_ <;> (intro hb hb'; (try dsimp only at hb'); (try (exfalso; first | omega | with_reducible exact absurd rfl hb')))))
  all_goals try (refine EW.nm ?_)
  all_goals try (refine EW.eReg (id := 4) ?_; refine EW.eMove ?_; refine EW.eEnd ?_; (try refine EW.nm ?_))
  all_goals try (first | refine EW.eYes (x := .tmp 12) ?_ | refine EW.eNo (x := .tmp 12) ?_ | (refine EW.eCond (x := .tmp 12) ?_ ?_ <;> (intro hb hb'; (try dsimp only at hb'); (try (exfalso; first | omega | with_reducible exact absurd rfl hb')))))
  all_goals try (refine EW.nm ?_)
  all_goals try (refine EW.eReg (id := 5) ?_; refine EW.eAssign ?_; refine EW.eEnd ?_; (try refine EW.nm ?_))
  all_goals try (with_reducible refine EW.parkK ?_)
  all_goals try (refine EW.eReg (id := 6) ?_; refine EW.eAssign ?_; refine EW.eEnd ?_; (try refine EW.nm ?_))
  all_goals try (with_reducible refine EW.parkK ?_)
  all_goals try (refine EW.eReg (id := 7) ?_; refine EW.eMove ?_; refine EW.eEnd ?_; (try refine EW.nm ?_))
  all_goals try (first | refine EW.eYes (x := .tmp 13) ?_ | refine EW.eNo (x := .tmp 13) ?_ | (refine EW.eCond (x := .tmp 13) ?_ ?_ <;> (intro hb hb'; (try dsimp only at hb'); (try (exfalso; first | omega | with_reducible exact absurd rfl hb')))))
  all_goals try (refine EW.nm ?_)
  all_goals try (refine EW.eReg (id := 8) ?_; refine EW.eAssign ?_; refine EW.eEnd ?_; (try refine EW.nm ?_))
  all_goals try (with_reducible refine EW.parkK ?_)
  all_goals try (refine EW.eReg (id := 9) ?_; refine EW.eMove ?_; refine EW.eMove ?_; refine EW.eLss ?_; refine EW.eEnd ?_; (try refine EW.nm ?_))
  all_goals try (first | refine EW.eYes (x := .tmp 16) ?_ | refine EW.eNo (x := .tmp 16) ?_ | (refine EW.eCond (x := .tmp 16) ?_ ?_ <;> (intro hb hb'; (try dsimp only at hb'); (try (exfalso; first | omega | with_reducible exact absurd rfl hb')))))
  all_goals try (refine EW.nm ?_)
  all_goals try (refine EW.eReg (id := 10) ?_; refine EW.eAssign ?_; refine EW.eEnd ?_; (try refine EW.nm ?_))
  all_goals try (with_reducible refine EW.parkK ?_)
  all_goals try (refine EW.eReg (id := 11) ?_; refine EW.eMove ?_; refine EW.eMove ?_; refine EW.eGtr ?_; refine EW.eEnd ?_; (try refine EW.nm ?_))
  all_goals try (first | refine EW.eYes (x := .tmp 19) ?_ | refine EW.eNo (x := .tmp 19) ?_ | (refine EW.eCond (x := .tmp 19) ?_ ?_ <;> (intro hb hb'; (try dsimp only at hb'); (try (exfalso; first | omega | with_reducible exact absurd rfl hb')))))
  all_goals try (refine EW.nm ?_)
  all_goals try (refine EW.eReg (id := 12) ?_; refine EW.eAssign ?_; refine EW.eEnd ?_; (try refine EW.nm ?_))
  all_goals try (with_reducible refine EW.parkK ?_)
  all_goals try (refine EW.eReg (id := 13) ?_; refine EW.eAssign ?_; refine EW.eEnd ?_; (try refine EW.nm ?_))
  all_goals try (with_reducible refine EW.parkK ?_)
  all_goals try (refine EW.Park.mk ?_)
  all_goals (refine EW.eLeaveP ?_; intro w' hW; refine ⟨?_, hW⟩)
  all_goals (first | rfl | (refine congrArg Ending.returned ?_; simp only [Value.int.injEq, Value.bool.injEq, true_and]; (repeat' split) <;> first | rfl | omega))
theorem cmp64 (a b : Int) (w : World) : Calls Try.prog 105 #[.int .i64 a, .int .i64 b] w fun e w' => e = .returned (.int .i64 (cmpI a b)) ∧ Below w.heap.size w w' := by
  unfold cmpI
  refine EW.eEnter Try.func105 rfl Try.ntmps105 ?_
  all_goals try (refine EW.nm ?_)
  all_goals try (refine EW.eReg (id := 0) ?_; refine EW.eAssign ?_; refine EW.eEnd ?_; (try refine EW.nm ?_))
  all_goals try (refine EW.eReg (id := 1) ?_; refine EW.eMove ?_; refine EW.eCall Try.call108 (fun w => nan64 _ w) ?_; refine EW.eAssign ?_; refine EW.eEnd ?_; (try refine EW.nm ?_))
  all_goals try (refine EW.eReg (id := 2) ?_; refine EW.eMove ?_; refine EW.eCall Try.call108 (fun w => nan64 _ w) ?_; refine EW.eAssign ?_; refine EW.eEnd ?_; (try refine EW.nm ?_))
  all_goals try (refine EW.eReg (id := 3) ?_; refine EW.eMove ?_; refine EW.eEnd ?_; (try refine EW.nm ?_))
  all_goals try (first | refine EW.eYes (x := .tmp 11) ?_ | refine EW.eNo (x := .tmp 11) ?_ | (refine EW.eCond (x := .tmp 11) ?_ ?_ <;> (intro hb hb'; (try dsimp only at hb'); (try (exfalso; first | omega | with_reducible exact absurd rfl hb')))))
  all_goals try (refine EW.nm ?_)
  all_goals try (refine EW.eReg (id := 4) ?_; refine EW.eMove ?_; refine EW.eEnd ?_; (try refine EW.nm ?_))
  all_goals try (first | refine EW.eYes (x := .tmp 12) ?_ | refine EW.eNo (x := .tmp 12) ?_ | (refine EW.eCond (x := .tmp 12) ?_ ?_ <;> (intro hb hb'; (try dsimp only at hb'); (try (exfalso; first | omega | with_reducible exact absurd rfl hb')))))
  all_goals try (refine EW.nm ?_)
  all_goals try (refine EW.eReg (id := 5) ?_; refine EW.eAssign ?_; refine EW.eEnd ?_; (try refine EW.nm ?_))
  all_goals try (with_reducible refine EW.parkK ?_)
  all_goals try (refine EW.eReg (id := 6) ?_; refine EW.eAssign ?_; refine EW.eEnd ?_; (try refine EW.nm ?_))
  all_goals try (with_reducible refine EW.parkK ?_)
  all_goals try (refine EW.eReg (id := 7) ?_; refine EW.eMove ?_; refine EW.eEnd ?_; (try refine EW.nm ?_))
  all_goals try (first | refine EW.eYes (x := .tmp 13) ?_ | refine EW.eNo (x := .tmp 13) ?_ | (refine EW.eCond (x := .tmp 13) ?_ ?_ <;> (intro hb hb'; (try dsimp only at hb'); (try (exfalso; first | omega | with_reducible exact absurd rfl hb')))))
  all_goals try (refine EW.nm ?_)
  all_goals try (refine EW.eReg (id := 8) ?_; refine EW.eAssign ?_; refine EW.eEnd ?_; (try refine EW.nm ?_))
  all_goals try (with_reducible refine EW.parkK ?_)
  all_goals try (refine EW.eReg (id := 9) ?_; refine EW.eMove ?_; refine EW.eMove ?_; refine EW.eLss ?_; refine EW.eEnd ?_; (try refine EW.nm ?_))
  all_goals try (first | refine EW.eYes (x := .tmp 16) ?_ | refine EW.eNo (x := .tmp 16) ?_ | (refine EW.eCond (x := .tmp 16) ?_ ?_ <;> (intro hb hb'; (try dsimp only at hb'); (try (exfalso; first | omega | with_reducible exact absurd rfl hb')))))
  all_goals try (refine EW.nm ?_)
  all_goals try (refine EW.eReg (id := 10) ?_; refine EW.eAssign ?_; refine EW.eEnd ?_; (try refine EW.nm ?_))
  all_goals try (with_reducible refine EW.parkK ?_)
  all_goals try (refine EW.eReg (id := 11) ?_; refine EW.eMove ?_; refine EW.eMove ?_; refine EW.eGtr ?_; refine EW.eEnd ?_; (try refine EW.nm ?_))
  all_goals try (first | refine EW.eYes (x := .tmp 19) ?_ | refine EW.eNo (x := .tmp 19) ?_ | (refine EW.eCond (x := .tmp 19) ?_ ?_ <;> (intro hb hb'; (try dsimp only at hb'); (try (exfalso; first | omega | with_reducible exact absurd rfl hb')))))
  all_goals try (refine EW.nm ?_)
  all_goals try (refine EW.eReg (id := 12) ?_; refine EW.eAssign ?_; refine EW.eEnd ?_; (try refine EW.nm ?_))
  all_goals try (with_reducible refine EW.parkK ?_)
  all_goals try (refine EW.eReg (id := 13) ?_; refine EW.eAssign ?_; refine EW.eEnd ?_; (try refine EW.nm ?_))
  all_goals try (with_reducible refine EW.parkK ?_)
  all_goals try (refine EW.Park.mk ?_)
  all_goals (refine EW.eLeaveP ?_; intro w' hW; refine ⟨?_, hW⟩)
  all_goals (first | rfl | (refine congrArg Ending.returned ?_; simp only [Value.int.injEq, Value.bool.injEq, true_and]; (repeat' split) <;> first | rfl | omega))
theorem pempty (w : World) : Calls Try.prog 31 #[] w fun e w' => e = .returned (Px.val ⟨16777216, 0, 0, 0⟩) ∧ Below w.heap.size w w' := by
  refine EW.eEnter Try.func31 rfl Try.ntmps31 ?_
  all_goals try (refine EW.nm ?_)
  all_goals try (refine EW.eReg (id := 0) ?_; refine EW.eAlloc ?_; refine EW.eEnd ?_; (try refine EW.nm ?_))
  all_goals try (refine EW.eReg (id := 1) ?_; refine EW.eBuild (place := fun i => [(0, 1), (1, 1), (2, 1), (3, 1)][i]?) ?_; (first | refine EW.eStoreW (k := 4) ?_ | refine EW.eStore (k := 4) ?_); refine EW.eEnd ?_; (try refine EW.nm ?_))
  all_goals try (with_reducible refine EW.parkK ?_)
  all_goals try (refine EW.Park.mk ?_)
  all_goals (refine EW.eLeaveP ?_; intro w' hW; refine ⟨?_, hW⟩)
  all_goals rfl
def Px.may (p : Px) : Prop := (p.z ≤ 16777215 ∧ 1 ≤ p.o ∧ p.o ≤ 65535 ∧ 0 ≤ p.t ∧ p.t < 64) ∨ (p.z = 16777216 ∧ p.o = 0 ∧ p.t = 0 ∧ p.c = 0)
instance (p : Px) : Decidable p.may := by unfold Px.may; infer_instance
theorem pcheck (p : Px) (w : World) : Calls Try.prog 62 #[p.val] w fun e w' => e = .returned (.int .i64 (if p.may then 0 else 130)) ∧ Below w.heap.size w w' := by
  obtain ⟨z, o, t, c⟩ := p
  unfold Px.may
  refine EW.eEnter Try.func62 rfl Try.ntmps62 ?_
  all_goals try (refine EW.nm ?_)
  all_goals try (refine EW.eReg (id := 0) ?_; refine EW.eBox ?_; refine EW.eAssign ?_; refine EW.eEnd ?_; (try refine EW.nm ?_))
  all_goals try (refine EW.eReg (id := 1) ?_; refine EW.eFieldAddr (k := 1) ?_; refine EW.eLoad1 ?_; refine EW.eLeq ?_; refine EW.eMove ?_)
  all_goals try (refine EW.eGuard (j := 3) (o := ⟨some 8, _, _, _, _, _⟩) ?_ ?_ <;> (intro hb hb'; (try dsimp only at hb'); (try (exfalso; first | omega | with_reducible exact absurd rfl hb'))))
  all_goals try ((first | refine EW.eSkipT (j := 3) ?_ | refine EW.eSkipU (j := 3) ?_ | refine EW.eFieldAddr (k := 1) ?_); (first | refine EW.eSkipT (j := 3) ?_ | refine EW.eSkipU (j := 3) ?_ | refine EW.eLoad1 ?_); (first | refine EW.eSkipT (j := 3) ?_ | refine EW.eSkipU (j := 3) ?_ | refine EW.eGeq ?_); (first | refine EW.ePickT ?_ | refine EW.ePickF ?_); refine EW.eMove ?_)
  all_goals try (refine EW.eGuard (j := 8) (o := ⟨some 13, _, _, _, _, _⟩) ?_ ?_ <;> (intro hb hb'; (try dsimp only at hb'); (try (exfalso; first | omega | with_reducible exact absurd rfl hb'))))
  all_goals try ((first | refine EW.eSkipT (j := 8) ?_ | refine EW.eSkipU (j := 8) ?_ | refine EW.eFieldAddr (k := 1) ?_); (first | refine EW.eSkipT (j := 8) ?_ | refine EW.eSkipU (j := 8) ?_ | refine EW.eLoad1 ?_); (first | refine EW.eSkipT (j := 8) ?_ | refine EW.eSkipU (j := 8) ?_ | refine EW.eLeq ?_); (first | refine EW.ePickT ?_ | refine EW.ePickF ?_); refine EW.eMove ?_)
  all_goals try (refine EW.eGuard (j := 13) (o := ⟨some 18, _, _, _, _, _⟩) ?_ ?_ <;> (intro hb hb'; (try dsimp only at hb'); (try (exfalso; first | omega | with_reducible exact absurd rfl hb'))))
  all_goals try ((first | refine EW.eSkipT (j := 13) ?_ | refine EW.eSkipU (j := 13) ?_ | refine EW.eFieldAddr (k := 1) ?_); (first | refine EW.eSkipT (j := 13) ?_ | refine EW.eSkipU (j := 13) ?_ | refine EW.eLoad1 ?_); (first | refine EW.eSkipT (j := 13) ?_ | refine EW.eSkipU (j := 13) ?_ | refine EW.eGeq ?_); (first | refine EW.ePickT ?_ | refine EW.ePickF ?_); refine EW.eMove ?_)
  all_goals try (refine EW.eGuard (j := 18) (o := ⟨some 23, _, _, _, _, _⟩) ?_ ?_ <;> (intro hb hb'; (try dsimp only at hb'); (try (exfalso; first | omega | with_reducible exact absurd rfl hb'))))
  all_goals try ((first | refine EW.eSkipT (j := 18) ?_ | refine EW.eSkipU (j := 18) ?_ | refine EW.eFieldAddr (k := 1) ?_); (first | refine EW.eSkipT (j := 18) ?_ | refine EW.eSkipU (j := 18) ?_ | refine EW.eLoad1 ?_); (first | refine EW.eSkipT (j := 18) ?_ | refine EW.eSkipU (j := 18) ?_ | refine EW.eLss ?_); (first | refine EW.ePickT ?_ | refine EW.ePickF ?_); refine EW.eAssign ?_; refine EW.eEnd ?_; (try refine EW.nm ?_))
  all_goals try (refine EW.eReg (id := 2) ?_; refine EW.eMove ?_; refine EW.eMove ?_)
  all_goals try (refine EW.eGuard (j := 1) (o := ⟨some 29, _, _, _, _, _⟩) ?_ ?_ <;> (intro hb hb'; (try dsimp only at hb'); (try (exfalso; first | omega | with_reducible exact absurd rfl hb'))))
  all_goals try ((first | refine EW.eSkipF (j := 1) ?_ | refine EW.eSkipU (j := 1) ?_ | refine EW.eLoadA (k := 4) ?_); (first | refine EW.eSkipF (j := 1) ?_ | refine EW.eSkipU (j := 1) ?_ | refine EW.eCall Try.call31 (fun w => pempty w) ?_); (first | refine EW.eSkipF (j := 1) ?_ | refine EW.eSkipU (j := 1) ?_ | refine EW.eEqlA ?_); (first | refine EW.ePickT ?_ | refine EW.ePickF ?_); refine EW.eDraw ?_; (try refine EW.nm ?_))
  all_goals try (first | refine EW.eYes (x := .tmp 32) ?_ | refine EW.eNo (x := .tmp 32) ?_ | (refine EW.eCond (x := .tmp 32) ?_ ?_ <;> (intro hb hb'; (try dsimp only at hb'); (try (exfalso; first | omega | with_reducible exact absurd rfl hb')))))
  all_goals try (refine EW.nm ?_)
  all_goals try (refine EW.eReg (id := 3) ?_; refine EW.eAssign ?_; refine EW.eEnd ?_; (try refine EW.nm ?_))
  all_goals try (with_reducible refine EW.parkK ?_)
  all_goals try (refine EW.eReg (id := 4) ?_; refine EW.eAssign ?_; refine EW.eEnd ?_; (try refine EW.nm ?_))
  all_goals try (with_reducible refine EW.parkK ?_)
  all_goals try (refine EW.Park.mk ?_)
  all_goals (refine EW.eLeaveP ?_; intro w' hW; refine ⟨?_, hW⟩)
  all_goals (first | rfl | (refine congrArg Ending.returned ?_; simp only [Value.int.injEq, Value.bool.injEq, true_and]; (repeat' split) <;> first | rfl | omega))
theorem rmay (p : Px) (w : World) : Calls Try.prog 63 #[p.val] w fun e w' => e = .returned (.bool (decide p.may)) ∧ Below w.heap.size w w' := by
  obtain ⟨z, o, t, c⟩ := p
  unfold Px.may
  refine EW.eEnter Try.func63 rfl Try.ntmps63 ?_
  all_goals try (refine EW.nm ?_)
  all_goals try (refine EW.eReg (id := 0) ?_; refine EW.eBox ?_; refine EW.eAssign ?_; refine EW.eEnd ?_; (try refine EW.nm ?_))
  all_goals try (refine EW.eReg (id := 1) ?_; refine EW.eFieldAddr (k := 1) ?_; refine EW.eLoad1 ?_; refine EW.eEql ?_; refine EW.eEnd ?_; (try refine EW.nm ?_))
  all_goals try (first | refine EW.eYes (x := .tmp 5) ?_ | refine EW.eNo (x := .tmp 5) ?_ | (refine EW.eCond (x := .tmp 5) ?_ ?_ <;> (intro hb hb'; (try dsimp only at hb'); (try (exfalso; first | omega | with_reducible exact absurd rfl hb')))))
  all_goals try (refine EW.nm ?_)
  all_goals try (refine EW.eReg (id := 2) ?_; refine EW.eFieldAddr (k := 1) ?_; refine EW.eLoad1 ?_; refine EW.eEql ?_; refine EW.eMove ?_)
  all_goals try (refine EW.eGuard (j := 3) (o := ⟨some 10, _, _, _, _, _⟩) ?_ ?_ <;> (intro hb hb'; (try dsimp only at hb'); (try (exfalso; first | omega | with_reducible exact absurd rfl hb'))))
  all_goals try ((first | refine EW.eSkipT (j := 3) ?_ | refine EW.eSkipU (j := 3) ?_ | refine EW.eFieldAddr (k := 1) ?_); (first | refine EW.eSkipT (j := 3) ?_ | refine EW.eSkipU (j := 3) ?_ | refine EW.eLoad1 ?_); (first | refine EW.eSkipT (j := 3) ?_ | refine EW.eSkipU (j := 3) ?_ | refine EW.eEql ?_); (first | refine EW.ePickT ?_ | refine EW.ePickF ?_); refine EW.eMove ?_)
  all_goals try (refine EW.eGuard (j := 8) (o := ⟨some 15, _, _, _, _, _⟩) ?_ ?_ <;> (intro hb hb'; (try dsimp only at hb'); (try (exfalso; first | omega | with_reducible exact absurd rfl hb'))))
  all_goals try ((first | refine EW.eSkipT (j := 8) ?_ | refine EW.eSkipU (j := 8) ?_ | refine EW.eFieldAddr (k := 1) ?_); (first | refine EW.eSkipT (j := 8) ?_ | refine EW.eSkipU (j := 8) ?_ | refine EW.eLoad1 ?_); (first | refine EW.eSkipT (j := 8) ?_ | refine EW.eSkipU (j := 8) ?_ | refine EW.eEql ?_); (first | refine EW.ePickT ?_ | refine EW.ePickF ?_); refine EW.eAssign ?_; refine EW.eEnd ?_; (try refine EW.nm ?_))
  all_goals try (with_reducible refine EW.parkK ?_)
  all_goals try (refine EW.eReg (id := 3) ?_; refine EW.eFieldAddr (k := 1) ?_; refine EW.eLoad1 ?_; refine EW.eLss ?_; refine EW.eMove ?_)
  all_goals try (refine EW.eGuard (j := 3) (o := ⟨some 23, _, _, _, _, _⟩) ?_ ?_ <;> (intro hb hb'; (try dsimp only at hb'); (try (exfalso; first | omega | with_reducible exact absurd rfl hb'))))
  all_goals try ((first | refine EW.eSkipT (j := 3) ?_ | refine EW.eSkipU (j := 3) ?_ | refine EW.eFieldAddr (k := 1) ?_); (first | refine EW.eSkipT (j := 3) ?_ | refine EW.eSkipU (j := 3) ?_ | refine EW.eLoad1 ?_); (first | refine EW.eSkipT (j := 3) ?_ | refine EW.eSkipU (j := 3) ?_ | refine EW.eGeq ?_); (first | refine EW.ePickT ?_ | refine EW.ePickF ?_); refine EW.eMove ?_)
  all_goals try (refine EW.eGuard (j := 8) (o := ⟨some 28, _, _, _, _, _⟩) ?_ ?_ <;> (intro hb hb'; (try dsimp only at hb'); (try (exfalso; first | omega | with_reducible exact absurd rfl hb'))))
  all_goals try ((first | refine EW.eSkipT (j := 8) ?_ | refine EW.eSkipU (j := 8) ?_ | refine EW.eFieldAddr (k := 1) ?_); (first | refine EW.eSkipT (j := 8) ?_ | refine EW.eSkipU (j := 8) ?_ | refine EW.eLoad1 ?_); (first | refine EW.eSkipT (j := 8) ?_ | refine EW.eSkipU (j := 8) ?_ | refine EW.eLeq ?_); (first | refine EW.ePickT ?_ | refine EW.ePickF ?_); refine EW.eMove ?_)
  all_goals try (refine EW.eGuard (j := 13) (o := ⟨some 33, _, _, _, _, _⟩) ?_ ?_ <;> (intro hb hb'; (try dsimp only at hb'); (try (exfalso; first | omega | with_reducible exact absurd rfl hb'))))
  all_goals try ((first | refine EW.eSkipT (j := 13) ?_ | refine EW.eSkipU (j := 13) ?_ | refine EW.eFieldAddr (k := 1) ?_); (first | refine EW.eSkipT (j := 13) ?_ | refine EW.eSkipU (j := 13) ?_ | refine EW.eLoad1 ?_); (first | refine EW.eSkipT (j := 13) ?_ | refine EW.eSkipU (j := 13) ?_ | refine EW.eGeq ?_); (first | refine EW.ePickT ?_ | refine EW.ePickF ?_); refine EW.eMove ?_)
  all_goals try (refine EW.eGuard (j := 18) (o := ⟨some 38, _, _, _, _, _⟩) ?_ ?_ <;> (intro hb hb'; (try dsimp only at hb'); (try (exfalso; first | omega | with_reducible exact absurd rfl hb'))))
  all_goals try ((first | refine EW.eSkipT (j := 18) ?_ | refine EW.eSkipU (j := 18) ?_ | refine EW.eFieldAddr (k := 1) ?_); (first | refine EW.eSkipT (j := 18) ?_ | refine EW.eSkipU (j := 18) ?_ | refine EW.eLoad1 ?_); (first | refine EW.eSkipT (j := 18) ?_ | refine EW.eSkipU (j := 18) ?_ | refine EW.eLeq ?_); (first | refine EW.ePickT ?_ | refine EW.ePickF ?_); refine EW.eAssign ?_; refine EW.eEnd ?_; (try refine EW.nm ?_))
  all_goals try (with_reducible refine EW.parkK ?_)
  all_goals try (refine EW.Park.mk ?_)
  all_goals (refine EW.eLeaveP ?_; intro w' hW; refine ⟨?_, hW⟩)
  all_goals
    refine congrArg (fun b => Ending.returned (.bool b)) ?_
    first | exact (decide_eq_true (by dsimp only; omega)).symm | exact (decide_eq_false (by dsimp only; omega)).symm | exact decide_eq_decide.2 (by dsimp only; omega)
def Px.ahead (a b : Px) : Prop := a.z < b.z ∨ (a.z = b.z ∧ (a.o < b.o ∨ (a.o = b.o ∧ (a.t < b.t ∨ (a.t = b.t ∧ a.c < b.c)))))
instance (a b : Px) : Decidable (a.ahead b) := by unfold Px.ahead; infer_instance
theorem rahead (a b : Px) (w : World) : Calls Try.prog 93 #[a.val, b.val] w fun e w' => e = .returned (.bool (decide (a.ahead b))) ∧ Below w.heap.size w w' := by
  obtain ⟨z, o, t, c⟩ := a
  obtain ⟨z', o', t', c'⟩ := b
  unfold Px.ahead
  refine EW.eEnter Try.func93 rfl Try.ntmps93 ?_
  all_goals try (refine EW.nm ?_)
  all_goals try (refine EW.eReg (id := 0) ?_; refine EW.eBox ?_; refine EW.eBox ?_; refine EW.eAssign ?_; refine EW.eEnd ?_; (try refine EW.nm ?_))
  all_goals try (refine EW.eReg (id := 1) ?_; refine EW.eFieldAddr (k := 1) ?_; refine EW.eLoad1 ?_; refine EW.eFieldAddr (k := 1) ?_; refine EW.eLoad1 ?_; refine EW.eNeq ?_; refine EW.eEnd ?_; (try refine EW.nm ?_))
  all_goals try (first | refine EW.eYes (x := .tmp 9) ?_ | refine EW.eNo (x := .tmp 9) ?_ | (refine EW.eCond (x := .tmp 9) ?_ ?_ <;> (intro hb hb'; (try dsimp only at hb'); (try (exfalso; first | omega | with_reducible exact absurd rfl hb')))))
  all_goals try (refine EW.nm ?_)
  all_goals try (refine EW.eReg (id := 2) ?_; refine EW.eFieldAddr (k := 1) ?_; refine EW.eLoad1 ?_; refine EW.eFieldAddr (k := 1) ?_; refine EW.eLoad1 ?_; refine EW.eLss ?_; refine EW.eAssign ?_; refine EW.eEnd ?_; (try refine EW.nm ?_))
  all_goals try (with_reducible refine EW.parkK ?_)
  all_goals try (refine EW.eReg (id := 3) ?_; refine EW.eFieldAddr (k := 1) ?_; refine EW.eLoad1 ?_; refine EW.eFieldAddr (k := 1) ?_; refine EW.eLoad1 ?_; refine EW.eNeq ?_; refine EW.eEnd ?_; (try refine EW.nm ?_))
  all_goals try (first | refine EW.eYes (x := .tmp 19) ?_ | refine EW.eNo (x := .tmp 19) ?_ | (refine EW.eCond (x := .tmp 19) ?_ ?_ <;> (intro hb hb'; (try dsimp only at hb'); (try (exfalso; first | omega | with_reducible exact absurd rfl hb')))))
  all_goals try (refine EW.nm ?_)
  all_goals try (refine EW.eReg (id := 4) ?_; refine EW.eFieldAddr (k := 1) ?_; refine EW.eLoad1 ?_; refine EW.eFieldAddr (k := 1) ?_; refine EW.eLoad1 ?_; refine EW.eLss ?_; refine EW.eAssign ?_; refine EW.eEnd ?_; (try refine EW.nm ?_))
  all_goals try (with_reducible refine EW.parkK ?_)
  all_goals try (refine EW.eReg (id := 5) ?_; refine EW.eFieldAddr (k := 1) ?_; refine EW.eLoad1 ?_; refine EW.eFieldAddr (k := 1) ?_; refine EW.eLoad1 ?_; refine EW.eNeq ?_; refine EW.eEnd ?_; (try refine EW.nm ?_))
  all_goals try (first | refine EW.eYes (x := .tmp 29) ?_ | refine EW.eNo (x := .tmp 29) ?_ | (refine EW.eCond (x := .tmp 29) ?_ ?_ <;> (intro hb hb'; (try dsimp only at hb'); (try (exfalso; first | omega | with_reducible exact absurd rfl hb')))))
  all_goals try (refine EW.nm ?_)
  all_goals try (refine EW.eReg (id := 6) ?_; refine EW.eFieldAddr (k := 1) ?_; refine EW.eLoad1 ?_; refine EW.eFieldAddr (k := 1) ?_; refine EW.eLoad1 ?_; refine EW.eLss ?_; refine EW.eAssign ?_; refine EW.eEnd ?_; (try refine EW.nm ?_))
  all_goals try (with_reducible refine EW.parkK ?_)
  all_goals try (refine EW.eReg (id := 7) ?_; refine EW.eFieldAddr (k := 1) ?_; refine EW.eLoad1 ?_; refine EW.eFieldAddr (k := 1) ?_; refine EW.eLoad1 ?_; refine EW.eLss ?_; refine EW.eAssign ?_; refine EW.eEnd ?_; (try refine EW.nm ?_))
  all_goals try (with_reducible refine EW.parkK ?_)
  all_goals try (refine EW.Park.mk ?_)
  all_goals (refine EW.eLeaveP ?_; intro w' hW; refine ⟨?_, hW⟩)
  all_goals
    refine congrArg (fun b => Ending.returned (.bool b)) ?_
    first | exact (decide_eq_true (by dsimp only; omega)).symm | exact (decide_eq_false (by dsimp only; omega)).symm | exact decide_eq_decide.2 (by dsimp only; omega)
def Px.rcmp (a b : Px) : Int := if a.ahead b then -1 else if b.ahead a then 1 else 0
end Go.Proofs.Ytnmkpekfkfckoaa
