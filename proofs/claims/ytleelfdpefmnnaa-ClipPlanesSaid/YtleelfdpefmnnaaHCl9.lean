/- The document's clip: Cross, Cut, Clip, Same; package clip: Fan. -/
import Derived.Test.YtleelfdpefmnnaaHCl8
namespace Go.Proofs.Ytleelfdpefmnnaa
set_option linter.unusedSimpArgs false
set_option linter.unusedVariables false
open Go.RowKit EV
open SX (Wr Tv Qu Rm Sh Is conjP eqs_iff eqs_false)
open EW (PlL PlT PlV PlVs LfV Mm Bt Opn GV YT lpOf nums)
set_option maxRecDepth 20000
abbrev RCR (p : Int) (A B X : Value) (e : Int) : Prop := ∀ w : World, Calls Try.prog 17 #[I p, A, B] w fun x w' => x = .returned (.tuple #[X, I e]) ∧ Below w.heap.size w w'
section
variable (p a0 a1 a2 a3 b0 b1 b2 b3 d f e x0 x1 x2 x3 : Int)
theorem dst_arg (h : p < 0 ∨ 7 ≤ p) : DST p (V4 a0 a1 a2 a3) 0 2 := by
  intro w
  refine EW.eEnter Try.func11 rfl Try.ntmps11 ?_
  all_goals try (refine EW.nm ?_)
  all_goals try ((first | refine EW.eRegL (id := 0) ?_ | refine EW.eReg (id := 0) ?_); refine EW.eBox ?_; refine EW.eAssign ?_; refine EW.eAssign ?_; refine EW.eEnd ?_; (try refine EW.nm ?_))
  all_goals try ((first | refine EW.eRegL (id := 1) ?_ | refine EW.eReg (id := 1) ?_); refine EW.eMove ?_; refine EW.eLss ?_; refine EW.eMove ?_)
  all_goals try (refine EW.eGuard (j := 2) (o := ⟨some 10, _, _, _, _, _⟩) ?_ ?_ <;> (intro hb hb'; (try dsimp only at hb'); (try (exfalso; first | omega | with_reducible exact absurd rfl hb'))))
  all_goals try ((first | refine EW.eSkipF (j := 2) ?_ | refine EW.eSkipU (j := 2) ?_ | refine EW.eMove ?_); (first | refine EW.eSkipF (j := 2) ?_ | refine EW.eSkipU (j := 2) ?_ | refine EW.eGeq ?_); (first | refine EW.ePickT ?_ | refine EW.ePickF ?_); refine EW.eAssign ?_; refine EW.eEnd ?_; (try refine EW.nm ?_))
  all_goals try (first | refine EW.eYes (x := Operand.tmp 6) ?_ | refine EW.eNo (x := Operand.tmp 6) ?_ | (refine EW.eCond (x := Operand.tmp 6) ?_ ?_ <;> (intro hb hb'; (try dsimp only at hb'); (try (exfalso; first | omega | with_reducible exact absurd rfl hb')))))
  all_goals try (refine EW.nm ?_)
  all_goals try ((first | refine EW.eRegL (id := 2) ?_ | refine EW.eReg (id := 2) ?_); refine EW.eAssign ?_; refine EW.eAssign ?_; refine EW.eEnd ?_; (try refine EW.nm ?_))
  all_goals try ((first | refine EW.eRegL (id := 3) ?_ | refine EW.eReg (id := 3) ?_); refine EW.eLoadA (k := 4) ?_; fail "no contract of mullion/clip.May"; refine EW.eNot ?_; refine EW.eAssign ?_; refine EW.eEnd ?_; (try refine EW.nm ?_))
  all_goals try (first | refine EW.eYes (x := Operand.tmp 13) ?_ | refine EW.eNo (x := Operand.tmp 13) ?_ | (refine EW.eCond (x := Operand.tmp 13) ?_ ?_ <;> (intro hb hb'; (try dsimp only at hb'); (try (exfalso; first | omega | with_reducible exact absurd rfl hb')))))
  all_goals try (refine EW.nm ?_)
  all_goals try ((first | refine EW.eRegL (id := 4) ?_ | refine EW.eReg (id := 4) ?_); refine EW.eAssign ?_; refine EW.eAssign ?_; refine EW.eEnd ?_; (try refine EW.nm ?_))
  all_goals try ((first | refine EW.eRegL (id := 5) ?_ | refine EW.eReg (id := 5) ?_); refine EW.eMove ?_; refine EW.eLoadA (k := 4) ?_; fail "no contract of mullion/clip.dist"; refine EW.eAssign ?_; refine EW.eAssign ?_; refine EW.eEnd ?_; (try refine EW.nm ?_))
  all_goals (refine EW.eLeaveP ?_; intro w' hW; refine ⟨?_, hW⟩)
  all_goals rfl
theorem Cross_arg (hA : DST p (V4 a0 a1 a2 a3) 0 2) (hB : DST p (V4 b0 b1 b2 b3) 0 2) : CRS p (V4 a0 a1 a2 a3) (V4 b0 b1 b2 b3) (V4 0 0 0 0) 2 := by
  intro w
  refine EW.eEnter Try.func10 rfl Try.ntmps10 ?_
  all_goals try (refine EW.nm ?_)
  all_goals try ((first | refine EW.eRegL (id := 0) ?_ | refine EW.eReg (id := 0) ?_); refine EW.eBox ?_; refine EW.eBox ?_; refine EW.eAlloc ?_; refine EW.eAssign ?_; refine EW.eEnd ?_; (try refine EW.nm ?_))
  all_goals try ((first | refine EW.eRegL (id := 1) ?_ | refine EW.eReg (id := 1) ?_); refine EW.eMove ?_; refine EW.eLoadA (k := 4) ?_; (first | refine EW.eCall Try.call11 (fun w => hA w) ?_ | refine EW.eCall Try.call11 (fun w => hB w) ?_); refine EW.eMove ?_; (first | refine EW.eExtC ?_ | refine EW.eExtA ?_); (first | refine EW.eExtC ?_ | refine EW.eExtA ?_); refine EW.eAssign ?_; refine EW.eAssign ?_; refine EW.eEnd ?_; (try refine EW.nm ?_))
  all_goals try ((first | refine EW.eRegL (id := 2) ?_ | refine EW.eReg (id := 2) ?_); refine EW.eMove ?_; refine EW.eLoadA (k := 4) ?_; (first | refine EW.eCall Try.call11 (fun w => hA w) ?_ | refine EW.eCall Try.call11 (fun w => hB w) ?_); refine EW.eMove ?_; (first | refine EW.eExtC ?_ | refine EW.eExtA ?_); (first | refine EW.eExtC ?_ | refine EW.eExtA ?_); refine EW.eAssign ?_; refine EW.eAssign ?_; refine EW.eEnd ?_; (try refine EW.nm ?_))
  all_goals try ((first | refine EW.eRegL (id := 3) ?_ | refine EW.eReg (id := 3) ?_); refine EW.eMove ?_; refine EW.eNeq ?_; refine EW.eAssign ?_; refine EW.eEnd ?_; (try refine EW.nm ?_))
  all_goals try (first | refine EW.eYes (x := Operand.tmp 24) ?_ | refine EW.eNo (x := Operand.tmp 24) ?_ | (refine EW.eCond (x := Operand.tmp 24) ?_ ?_ <;> (intro hb hb'; (try dsimp only at hb'); (try (exfalso; first | omega | with_reducible exact absurd rfl hb')))))
  all_goals try (refine EW.nm ?_)
  all_goals try ((first | refine EW.eRegL (id := 4) ?_ | refine EW.eReg (id := 4) ?_); refine EW.eBuild (place := fun i => some (i * 1, 1)) ?_; refine EW.eMove ?_; (first | refine EW.eStoreW (k := 4) ?_ | refine EW.eStore (k := 4) ?_); refine EW.eAssign ?_; refine EW.eEnd ?_; (try refine EW.nm ?_))
  all_goals try ((first | refine EW.eRegL (id := 5) ?_ | refine EW.eReg (id := 5) ?_); refine EW.eMove ?_; refine EW.eNeq ?_; refine EW.eAssign ?_; refine EW.eEnd ?_; (try refine EW.nm ?_))
  all_goals try (first | refine EW.eYes (x := Operand.tmp 29) ?_ | refine EW.eNo (x := Operand.tmp 29) ?_ | (refine EW.eCond (x := Operand.tmp 29) ?_ ?_ <;> (intro hb hb'; (try dsimp only at hb'); (try (exfalso; first | omega | with_reducible exact absurd rfl hb')))))
  all_goals try (refine EW.nm ?_)
  all_goals try ((first | refine EW.eRegL (id := 6) ?_ | refine EW.eReg (id := 6) ?_); refine EW.eBuild (place := fun i => some (i * 1, 1)) ?_; refine EW.eMove ?_; (first | refine EW.eStoreW (k := 4) ?_ | refine EW.eStore (k := 4) ?_); refine EW.eAssign ?_; refine EW.eEnd ?_; (try refine EW.nm ?_))
  all_goals try ((first | refine EW.eRegL (id := 7) ?_ | refine EW.eReg (id := 7) ?_); refine EW.eMove ?_; refine EW.eLss ?_; refine EW.eMove ?_; refine EW.eLss ?_; refine EW.eEqlB ?_; refine EW.eAssign ?_; refine EW.eEnd ?_; (try refine EW.nm ?_))
  all_goals try (first | refine EW.eYes (x := Operand.tmp 34) ?_ | refine EW.eNo (x := Operand.tmp 34) ?_ | (refine EW.eCond (x := Operand.tmp 34) ?_ ?_ <;> (intro hb hb'; (try dsimp only at hb'); (try (exfalso; first | omega | with_reducible exact absurd rfl hb')))))
  all_goals try (refine EW.nm ?_)
  all_goals try ((first | refine EW.eRegL (id := 8) ?_ | refine EW.eReg (id := 8) ?_); refine EW.eBuild (place := fun i => some (i * 1, 1)) ?_; (first | refine EW.eStoreW (k := 4) ?_ | refine EW.eStore (k := 4) ?_); refine EW.eAssign ?_; refine EW.eEnd ?_; (try refine EW.nm ?_))
  all_goals try ((first | refine EW.eRegL (id := 9) ?_ | refine EW.eReg (id := 9) ?_); refine EW.eMove ?_; refine EW.eLss ?_; refine EW.eAssign ?_; refine EW.eEnd ?_; (try refine EW.nm ?_))
  all_goals try (first | refine EW.eYes (x := Operand.tmp 41) ?_ | refine EW.eNo (x := Operand.tmp 41) ?_ | (refine EW.eCond (x := Operand.tmp 41) ?_ ?_ <;> (intro hb hb'; (try dsimp only at hb'); (try (exfalso; first | omega | with_reducible exact absurd rfl hb')))))
  all_goals try (refine EW.nm ?_)
  all_goals try ((first | refine EW.eRegL (id := 10) ?_ | refine EW.eReg (id := 10) ?_); refine EW.eLoadA (k := 4) ?_; refine EW.eLoadA (k := 4) ?_; (first | refine EW.eStoreW (k := 4) ?_ | refine EW.eStore (k := 4) ?_); (first | refine EW.eStoreW (k := 4) ?_ | refine EW.eStore (k := 4) ?_); refine EW.eEnd ?_; (try refine EW.nm ?_))
  all_goals try ((first | refine EW.eRegL (id := 11) ?_ | refine EW.eReg (id := 11) ?_); refine EW.eMove ?_; refine EW.eLoadA (k := 4) ?_; refine EW.eLoadA (k := 4) ?_; fail "no contract of mullion/clip.cross"; (first | refine EW.eStoreW (k := 4) ?_ | refine EW.eStore (k := 4) ?_); refine EW.eAssign ?_; refine EW.eEnd ?_; (try refine EW.nm ?_))
  all_goals (refine EW.eLeaveP ?_; intro w' hW; refine ⟨?_, hW⟩)
  all_goals rfl
theorem rCross_e1 (he : e ≠ 0) (hA : RDS p (V4 a0 a1 a2 a3) d e) : RCR p (V4 a0 a1 a2 a3) (V4 b0 b1 b2 b3) (V4 0 0 0 0) e := by
  intro w
  refine EW.eEnter Try.func17 rfl Try.ntmps17 ?_
  all_goals try (refine EW.nm ?_)
  all_goals try ((first | refine EW.eRegL (id := 0) ?_ | refine EW.eReg (id := 0) ?_); refine EW.eBox ?_; refine EW.eBox ?_; refine EW.eAlloc ?_; refine EW.eAssign ?_; refine EW.eEnd ?_; (try refine EW.nm ?_))
  all_goals try ((first | refine EW.eRegL (id := 1) ?_ | refine EW.eReg (id := 1) ?_); refine EW.eMove ?_; refine EW.eLoadA (k := 4) ?_; refine EW.eCall Try.call16 (fun w => hA w) ?_; refine EW.eMove ?_; (first | refine EW.eExtC ?_ | refine EW.eExtA ?_); (first | refine EW.eExtC ?_ | refine EW.eExtA ?_); refine EW.eAssign ?_; refine EW.eAssign ?_; refine EW.eEnd ?_; (try refine EW.nm ?_))
  all_goals try ((first | refine EW.eRegL (id := 2) ?_ | refine EW.eReg (id := 2) ?_); refine EW.eMove ?_; refine EW.eNeq ?_; refine EW.eEnd ?_; (try refine EW.nm ?_))
  all_goals try (first | refine EW.eYes (x := Operand.tmp 19) ?_ | refine EW.eNo (x := Operand.tmp 19) ?_ | (refine EW.eCond (x := Operand.tmp 19) ?_ ?_ <;> (intro hb hb'; (try dsimp only at hb'); (try (exfalso; first | omega | with_reducible exact absurd rfl hb')))))
  all_goals try (refine EW.nm ?_)
  all_goals try ((first | refine EW.eRegL (id := 3) ?_ | refine EW.eReg (id := 3) ?_); refine EW.eBuild (place := fun i => some (i * 1, 1)) ?_; refine EW.eMove ?_; (first | refine EW.eStoreW (k := 4) ?_ | refine EW.eStore (k := 4) ?_); refine EW.eAssign ?_; refine EW.eEnd ?_; (try refine EW.nm ?_))
  all_goals try ((first | refine EW.eRegL (id := 4) ?_ | refine EW.eReg (id := 4) ?_); refine EW.eMove ?_; refine EW.eLoadA (k := 4) ?_; refine EW.eCall Try.call16 (fun w => hA w) ?_; refine EW.eMove ?_; (first | refine EW.eExtC ?_ | refine EW.eExtA ?_); (first | refine EW.eExtC ?_ | refine EW.eExtA ?_); refine EW.eAssign ?_; refine EW.eAssign ?_; refine EW.eEnd ?_; (try refine EW.nm ?_))
  all_goals try ((first | refine EW.eRegL (id := 5) ?_ | refine EW.eReg (id := 5) ?_); refine EW.eMove ?_; refine EW.eNeq ?_; refine EW.eEnd ?_; (try refine EW.nm ?_))
  all_goals try (first | refine EW.eYes (x := Operand.tmp 29) ?_ | refine EW.eNo (x := Operand.tmp 29) ?_ | (refine EW.eCond (x := Operand.tmp 29) ?_ ?_ <;> (intro hb hb'; (try dsimp only at hb'); (try (exfalso; first | omega | with_reducible exact absurd rfl hb')))))
  all_goals try (refine EW.nm ?_)
  all_goals try ((first | refine EW.eRegL (id := 6) ?_ | refine EW.eReg (id := 6) ?_); refine EW.eBuild (place := fun i => some (i * 1, 1)) ?_; refine EW.eMove ?_; (first | refine EW.eStoreW (k := 4) ?_ | refine EW.eStore (k := 4) ?_); refine EW.eAssign ?_; refine EW.eEnd ?_; (try refine EW.nm ?_))
  all_goals try ((first | refine EW.eRegL (id := 7) ?_ | refine EW.eReg (id := 7) ?_); refine EW.eMove ?_; refine EW.eGeq ?_; refine EW.eMove ?_)
  all_goals try (refine EW.eGuard (j := 2) (o := ⟨some 35, _, _, _, _, _⟩) ?_ ?_ <;> (intro hb hb'; (try dsimp only at hb'); (try (exfalso; first | omega | with_reducible exact absurd rfl hb'))))
  all_goals try ((first | refine EW.eSkipT (j := 2) ?_ | refine EW.eSkipU (j := 2) ?_ | refine EW.eMove ?_); (first | refine EW.eSkipT (j := 2) ?_ | refine EW.eSkipU (j := 2) ?_ | refine EW.eLss ?_); (first | refine EW.ePickT ?_ | refine EW.ePickF ?_); refine EW.eEnd ?_; (try refine EW.nm ?_))
  all_goals try (first | refine EW.eYes (x := Operand.tmp 37) ?_ | refine EW.eNo (x := Operand.tmp 37) ?_ | (refine EW.eCond (x := Operand.tmp 37) ?_ ?_ <;> (intro hb hb'; (try dsimp only at hb'); (try (exfalso; first | omega | with_reducible exact absurd rfl hb')))))
  all_goals try (refine EW.nm ?_)
  all_goals try ((first | refine EW.eRegL (id := 8) ?_ | refine EW.eReg (id := 8) ?_); refine EW.eMove ?_; refine EW.eLoadA (k := 4) ?_; refine EW.eLoadA (k := 4) ?_; fail "no contract of mullion/mullionref09.cross"; (first | refine EW.eStoreW (k := 4) ?_ | refine EW.eStore (k := 4) ?_); refine EW.eAssign ?_; refine EW.eEnd ?_; (try refine EW.nm ?_))
  all_goals try ((first | refine EW.eRegL (id := 9) ?_ | refine EW.eReg (id := 9) ?_); refine EW.eMove ?_; refine EW.eGeq ?_; refine EW.eMove ?_)
  all_goals try (refine EW.eGuard (j := 2) (o := ⟨some 45, _, _, _, _, _⟩) ?_ ?_ <;> (intro hb hb'; (try dsimp only at hb'); (try (exfalso; first | omega | with_reducible exact absurd rfl hb'))))
  all_goals try ((first | refine EW.eSkipT (j := 2) ?_ | refine EW.eSkipU (j := 2) ?_ | refine EW.eMove ?_); (first | refine EW.eSkipT (j := 2) ?_ | refine EW.eSkipU (j := 2) ?_ | refine EW.eLss ?_); (first | refine EW.ePickT ?_ | refine EW.ePickF ?_); refine EW.eEnd ?_; (try refine EW.nm ?_))
  all_goals try (first | refine EW.eYes (x := Operand.tmp 47) ?_ | refine EW.eNo (x := Operand.tmp 47) ?_ | (refine EW.eCond (x := Operand.tmp 47) ?_ ?_ <;> (intro hb hb'; (try dsimp only at hb'); (try (exfalso; first | omega | with_reducible exact absurd rfl hb')))))
  all_goals try (refine EW.nm ?_)
  all_goals try ((first | refine EW.eRegL (id := 10) ?_ | refine EW.eReg (id := 10) ?_); refine EW.eMove ?_; refine EW.eLoadA (k := 4) ?_; refine EW.eLoadA (k := 4) ?_; fail "no contract of mullion/mullionref09.cross"; (first | refine EW.eStoreW (k := 4) ?_ | refine EW.eStore (k := 4) ?_); refine EW.eAssign ?_; refine EW.eEnd ?_; (try refine EW.nm ?_))
  all_goals try ((first | refine EW.eRegL (id := 11) ?_ | refine EW.eReg (id := 11) ?_); refine EW.eBuild (place := fun i => some (i * 1, 1)) ?_; (first | refine EW.eStoreW (k := 4) ?_ | refine EW.eStore (k := 4) ?_); refine EW.eAssign ?_; refine EW.eEnd ?_; (try refine EW.nm ?_))
  all_goals (refine EW.eLeaveP ?_; intro w' hW; refine ⟨?_, hW⟩)
  all_goals rfl
theorem rCross_e2 (he : e ≠ 0) (hA : RDS p (V4 a0 a1 a2 a3) d 0) (hB : RDS p (V4 b0 b1 b2 b3) f e) : RCR p (V4 a0 a1 a2 a3) (V4 b0 b1 b2 b3) (V4 0 0 0 0) e := by
  intro w
  refine EW.eEnter Try.func17 rfl Try.ntmps17 ?_
  all_goals try (refine EW.nm ?_)
  all_goals try ((first | refine EW.eRegL (id := 0) ?_ | refine EW.eReg (id := 0) ?_); refine EW.eBox ?_; refine EW.eBox ?_; refine EW.eAlloc ?_; refine EW.eAssign ?_; refine EW.eEnd ?_; (try refine EW.nm ?_))
  all_goals try ((first | refine EW.eRegL (id := 1) ?_ | refine EW.eReg (id := 1) ?_); refine EW.eMove ?_; refine EW.eLoadA (k := 4) ?_; (first | refine EW.eCall Try.call16 (fun w => hA w) ?_ | refine EW.eCall Try.call16 (fun w => hB w) ?_); refine EW.eMove ?_; (first | refine EW.eExtC ?_ | refine EW.eExtA ?_); (first | refine EW.eExtC ?_ | refine EW.eExtA ?_); refine EW.eAssign ?_; refine EW.eAssign ?_; refine EW.eEnd ?_; (try refine EW.nm ?_))
  all_goals try ((first | refine EW.eRegL (id := 2) ?_ | refine EW.eReg (id := 2) ?_); refine EW.eMove ?_; refine EW.eNeq ?_; refine EW.eEnd ?_; (try refine EW.nm ?_))
  all_goals try (first | refine EW.eYes (x := Operand.tmp 19) ?_ | refine EW.eNo (x := Operand.tmp 19) ?_ | (refine EW.eCond (x := Operand.tmp 19) ?_ ?_ <;> (intro hb hb'; (try dsimp only at hb'); (try (exfalso; first | omega | with_reducible exact absurd rfl hb')))))
  all_goals try (refine EW.nm ?_)
  all_goals try ((first | refine EW.eRegL (id := 3) ?_ | refine EW.eReg (id := 3) ?_); refine EW.eBuild (place := fun i => some (i * 1, 1)) ?_; refine EW.eMove ?_; (first | refine EW.eStoreW (k := 4) ?_ | refine EW.eStore (k := 4) ?_); refine EW.eAssign ?_; refine EW.eEnd ?_; (try refine EW.nm ?_))
  all_goals try ((first | refine EW.eRegL (id := 4) ?_ | refine EW.eReg (id := 4) ?_); refine EW.eMove ?_; refine EW.eLoadA (k := 4) ?_; (first | refine EW.eCall Try.call16 (fun w => hA w) ?_ | refine EW.eCall Try.call16 (fun w => hB w) ?_); refine EW.eMove ?_; (first | refine EW.eExtC ?_ | refine EW.eExtA ?_); (first | refine EW.eExtC ?_ | refine EW.eExtA ?_); refine EW.eAssign ?_; refine EW.eAssign ?_; refine EW.eEnd ?_; (try refine EW.nm ?_))
  all_goals try ((first | refine EW.eRegL (id := 5) ?_ | refine EW.eReg (id := 5) ?_); refine EW.eMove ?_; refine EW.eNeq ?_; refine EW.eEnd ?_; (try refine EW.nm ?_))
  all_goals try (first | refine EW.eYes (x := Operand.tmp 29) ?_ | refine EW.eNo (x := Operand.tmp 29) ?_ | (refine EW.eCond (x := Operand.tmp 29) ?_ ?_ <;> (intro hb hb'; (try dsimp only at hb'); (try (exfalso; first | omega | with_reducible exact absurd rfl hb')))))
  all_goals try (refine EW.nm ?_)
  all_goals try ((first | refine EW.eRegL (id := 6) ?_ | refine EW.eReg (id := 6) ?_); refine EW.eBuild (place := fun i => some (i * 1, 1)) ?_; refine EW.eMove ?_; (first | refine EW.eStoreW (k := 4) ?_ | refine EW.eStore (k := 4) ?_); refine EW.eAssign ?_; refine EW.eEnd ?_; (try refine EW.nm ?_))
  all_goals try ((first | refine EW.eRegL (id := 7) ?_ | refine EW.eReg (id := 7) ?_); refine EW.eMove ?_; refine EW.eGeq ?_; refine EW.eMove ?_)
  all_goals try (refine EW.eGuard (j := 2) (o := ⟨some 35, _, _, _, _, _⟩) ?_ ?_ <;> (intro hb hb'; (try dsimp only at hb'); (try (exfalso; first | omega | with_reducible exact absurd rfl hb'))))
  all_goals try ((first | refine EW.eSkipT (j := 2) ?_ | refine EW.eSkipU (j := 2) ?_ | refine EW.eMove ?_); (first | refine EW.eSkipT (j := 2) ?_ | refine EW.eSkipU (j := 2) ?_ | refine EW.eLss ?_); (first | refine EW.ePickT ?_ | refine EW.ePickF ?_); refine EW.eEnd ?_; (try refine EW.nm ?_))
  all_goals try (first | refine EW.eYes (x := Operand.tmp 37) ?_ | refine EW.eNo (x := Operand.tmp 37) ?_ | (refine EW.eCond (x := Operand.tmp 37) ?_ ?_ <;> (intro hb hb'; (try dsimp only at hb'); (try (exfalso; first | omega | with_reducible exact absurd rfl hb')))))
  all_goals try (refine EW.nm ?_)
  all_goals try ((first | refine EW.eRegL (id := 8) ?_ | refine EW.eReg (id := 8) ?_); refine EW.eMove ?_; refine EW.eLoadA (k := 4) ?_; refine EW.eLoadA (k := 4) ?_; fail "no contract of mullion/mullionref09.cross"; (first | refine EW.eStoreW (k := 4) ?_ | refine EW.eStore (k := 4) ?_); refine EW.eAssign ?_; refine EW.eEnd ?_; (try refine EW.nm ?_))
  all_goals try ((first | refine EW.eRegL (id := 9) ?_ | refine EW.eReg (id := 9) ?_); refine EW.eMove ?_; refine EW.eGeq ?_; refine EW.eMove ?_)
  all_goals try (refine EW.eGuard (j := 2) (o := ⟨some 45, _, _, _, _, _⟩) ?_ ?_ <;> (intro hb hb'; (try dsimp only at hb'); (try (exfalso; first | omega | with_reducible exact absurd rfl hb'))))
  all_goals try ((first | refine EW.eSkipT (j := 2) ?_ | refine EW.eSkipU (j := 2) ?_ | refine EW.eMove ?_); (first | refine EW.eSkipT (j := 2) ?_ | refine EW.eSkipU (j := 2) ?_ | refine EW.eLss ?_); (first | refine EW.ePickT ?_ | refine EW.ePickF ?_); refine EW.eEnd ?_; (try refine EW.nm ?_))
  all_goals try (first | refine EW.eYes (x := Operand.tmp 47) ?_ | refine EW.eNo (x := Operand.tmp 47) ?_ | (refine EW.eCond (x := Operand.tmp 47) ?_ ?_ <;> (intro hb hb'; (try dsimp only at hb'); (try (exfalso; first | omega | with_reducible exact absurd rfl hb')))))
  all_goals try (refine EW.nm ?_)
  all_goals try ((first | refine EW.eRegL (id := 10) ?_ | refine EW.eReg (id := 10) ?_); refine EW.eMove ?_; refine EW.eLoadA (k := 4) ?_; refine EW.eLoadA (k := 4) ?_; fail "no contract of mullion/mullionref09.cross"; (first | refine EW.eStoreW (k := 4) ?_ | refine EW.eStore (k := 4) ?_); refine EW.eAssign ?_; refine EW.eEnd ?_; (try refine EW.nm ?_))
  all_goals try ((first | refine EW.eRegL (id := 11) ?_ | refine EW.eReg (id := 11) ?_); refine EW.eBuild (place := fun i => some (i * 1, 1)) ?_; (first | refine EW.eStoreW (k := 4) ?_ | refine EW.eStore (k := 4) ?_); refine EW.eAssign ?_; refine EW.eEnd ?_; (try refine EW.nm ?_))
  all_goals (refine EW.eLeaveP ?_; intro w' hW; refine ⟨?_, hW⟩)
  all_goals rfl
theorem rCross_same (hA : RDS p (V4 a0 a1 a2 a3) d 0) (hB : RDS p (V4 b0 b1 b2 b3) f 0) (h : d < 0 ↔ f < 0) : RCR p (V4 a0 a1 a2 a3) (V4 b0 b1 b2 b3) (V4 0 0 0 0) 2 := by
  intro w
  rcases Int.lt_or_le d 0 with h1 | h1 <;> rcases Int.lt_or_le f 0 with h2 | h2 <;> first | (exfalso; omega) | skip
  all_goals refine EW.eEnter Try.func17 rfl Try.ntmps17 ?_
  all_goals try (refine EW.nm ?_)
  all_goals try ((first | refine EW.eRegL (id := 0) ?_ | refine EW.eReg (id := 0) ?_); refine EW.eBox ?_; refine EW.eBox ?_; refine EW.eAlloc ?_; refine EW.eAssign ?_; refine EW.eEnd ?_; (try refine EW.nm ?_))
  all_goals try ((first | refine EW.eRegL (id := 1) ?_ | refine EW.eReg (id := 1) ?_); refine EW.eMove ?_; refine EW.eLoadA (k := 4) ?_; (first | refine EW.eCall Try.call16 (fun w => hA w) ?_ | refine EW.eCall Try.call16 (fun w => hB w) ?_); refine EW.eMove ?_; (first | refine EW.eExtC ?_ | refine EW.eExtA ?_); (first | refine EW.eExtC ?_ | refine EW.eExtA ?_); refine EW.eAssign ?_; refine EW.eAssign ?_; refine EW.eEnd ?_; (try refine EW.nm ?_))
  all_goals try ((first | refine EW.eRegL (id := 2) ?_ | refine EW.eReg (id := 2) ?_); refine EW.eMove ?_; refine EW.eNeq ?_; refine EW.eEnd ?_; (try refine EW.nm ?_))
  all_goals try (first | refine EW.eYes (x := Operand.tmp 19) ?_ | refine EW.eNo (x := Operand.tmp 19) ?_ | (refine EW.eCond (x := Operand.tmp 19) ?_ ?_ <;> (intro hb hb'; (try dsimp only at hb'); (try (exfalso; first | omega | with_reducible exact absurd rfl hb')))))
  all_goals try (refine EW.nm ?_)
  all_goals try ((first | refine EW.eRegL (id := 3) ?_ | refine EW.eReg (id := 3) ?_); refine EW.eBuild (place := fun i => some (i * 1, 1)) ?_; refine EW.eMove ?_; (first | refine EW.eStoreW (k := 4) ?_ | refine EW.eStore (k := 4) ?_); refine EW.eAssign ?_; refine EW.eEnd ?_; (try refine EW.nm ?_))
  all_goals try ((first | refine EW.eRegL (id := 4) ?_ | refine EW.eReg (id := 4) ?_); refine EW.eMove ?_; refine EW.eLoadA (k := 4) ?_; (first | refine EW.eCall Try.call16 (fun w => hA w) ?_ | refine EW.eCall Try.call16 (fun w => hB w) ?_); refine EW.eMove ?_; (first | refine EW.eExtC ?_ | refine EW.eExtA ?_); (first | refine EW.eExtC ?_ | refine EW.eExtA ?_); refine EW.eAssign ?_; refine EW.eAssign ?_; refine EW.eEnd ?_; (try refine EW.nm ?_))
  all_goals try ((first | refine EW.eRegL (id := 5) ?_ | refine EW.eReg (id := 5) ?_); refine EW.eMove ?_; refine EW.eNeq ?_; refine EW.eEnd ?_; (try refine EW.nm ?_))
  all_goals try (first | refine EW.eYes (x := Operand.tmp 29) ?_ | refine EW.eNo (x := Operand.tmp 29) ?_ | (refine EW.eCond (x := Operand.tmp 29) ?_ ?_ <;> (intro hb hb'; (try dsimp only at hb'); (try (exfalso; first | omega | with_reducible exact absurd rfl hb')))))
  all_goals try (refine EW.nm ?_)
  all_goals try ((first | refine EW.eRegL (id := 6) ?_ | refine EW.eReg (id := 6) ?_); refine EW.eBuild (place := fun i => some (i * 1, 1)) ?_; refine EW.eMove ?_; (first | refine EW.eStoreW (k := 4) ?_ | refine EW.eStore (k := 4) ?_); refine EW.eAssign ?_; refine EW.eEnd ?_; (try refine EW.nm ?_))
  all_goals try ((first | refine EW.eRegL (id := 7) ?_ | refine EW.eReg (id := 7) ?_); refine EW.eMove ?_; refine EW.eGeq ?_; refine EW.eMove ?_)
  all_goals try (refine EW.eGuard (j := 2) (o := ⟨some 35, _, _, _, _, _⟩) ?_ ?_ <;> (intro hb hb'; (try dsimp only at hb'); (try (exfalso; first | omega | with_reducible exact absurd rfl hb'))))
  all_goals try ((first | refine EW.eSkipT (j := 2) ?_ | refine EW.eSkipU (j := 2) ?_ | refine EW.eMove ?_); (first | refine EW.eSkipT (j := 2) ?_ | refine EW.eSkipU (j := 2) ?_ | refine EW.eLss ?_); (first | refine EW.ePickT ?_ | refine EW.ePickF ?_); refine EW.eEnd ?_; (try refine EW.nm ?_))
  all_goals try (first | refine EW.eYes (x := Operand.tmp 37) ?_ | refine EW.eNo (x := Operand.tmp 37) ?_ | (refine EW.eCond (x := Operand.tmp 37) ?_ ?_ <;> (intro hb hb'; (try dsimp only at hb'); (try (exfalso; first | omega | with_reducible exact absurd rfl hb')))))
  all_goals try (refine EW.nm ?_)
  all_goals try ((first | refine EW.eRegL (id := 8) ?_ | refine EW.eReg (id := 8) ?_); refine EW.eMove ?_; refine EW.eLoadA (k := 4) ?_; refine EW.eLoadA (k := 4) ?_; fail "no contract of mullion/mullionref09.cross"; (first | refine EW.eStoreW (k := 4) ?_ | refine EW.eStore (k := 4) ?_); refine EW.eAssign ?_; refine EW.eEnd ?_; (try refine EW.nm ?_))
  all_goals try ((first | refine EW.eRegL (id := 9) ?_ | refine EW.eReg (id := 9) ?_); refine EW.eMove ?_; refine EW.eGeq ?_; refine EW.eMove ?_)
  all_goals try (refine EW.eGuard (j := 2) (o := ⟨some 45, _, _, _, _, _⟩) ?_ ?_ <;> (intro hb hb'; (try dsimp only at hb'); (try (exfalso; first | omega | with_reducible exact absurd rfl hb'))))
  all_goals try ((first | refine EW.eSkipT (j := 2) ?_ | refine EW.eSkipU (j := 2) ?_ | refine EW.eMove ?_); (first | refine EW.eSkipT (j := 2) ?_ | refine EW.eSkipU (j := 2) ?_ | refine EW.eLss ?_); (first | refine EW.ePickT ?_ | refine EW.ePickF ?_); refine EW.eEnd ?_; (try refine EW.nm ?_))
  all_goals try (first | refine EW.eYes (x := Operand.tmp 47) ?_ | refine EW.eNo (x := Operand.tmp 47) ?_ | (refine EW.eCond (x := Operand.tmp 47) ?_ ?_ <;> (intro hb hb'; (try dsimp only at hb'); (try (exfalso; first | omega | with_reducible exact absurd rfl hb')))))
  all_goals try (refine EW.nm ?_)
  all_goals try ((first | refine EW.eRegL (id := 10) ?_ | refine EW.eReg (id := 10) ?_); refine EW.eMove ?_; refine EW.eLoadA (k := 4) ?_; refine EW.eLoadA (k := 4) ?_; fail "no contract of mullion/mullionref09.cross"; (first | refine EW.eStoreW (k := 4) ?_ | refine EW.eStore (k := 4) ?_); refine EW.eAssign ?_; refine EW.eEnd ?_; (try refine EW.nm ?_))
  all_goals try ((first | refine EW.eRegL (id := 11) ?_ | refine EW.eReg (id := 11) ?_); refine EW.eBuild (place := fun i => some (i * 1, 1)) ?_; (first | refine EW.eStoreW (k := 4) ?_ | refine EW.eStore (k := 4) ?_); refine EW.eAssign ?_; refine EW.eEnd ?_; (try refine EW.nm ?_))
  all_goals (refine EW.eLeaveP ?_; intro w' hW; refine ⟨?_, hW⟩)
  all_goals rfl
theorem rCross_pos (hA : RDS p (V4 a0 a1 a2 a3) d 0) (hB : RDS p (V4 b0 b1 b2 b3) f 0) (h1 : 0 ≤ d) (h2 : f < 0) (hC : ∀ w : World, Calls Try.prog 28 #[I p, V4 a0 a1 a2 a3, V4 b0 b1 b2 b3] w fun x w' => x = .returned (V4 x0 x1 x2 x3) ∧ Below w.heap.size w w') : RCR p (V4 a0 a1 a2 a3) (V4 b0 b1 b2 b3) (V4 x0 x1 x2 x3) 0 := by
  intro w
  refine EW.eEnter Try.func17 rfl Try.ntmps17 ?_
  all_goals try (refine EW.nm ?_)
  all_goals try ((first | refine EW.eRegL (id := 0) ?_ | refine EW.eReg (id := 0) ?_); refine EW.eBox ?_; refine EW.eBox ?_; refine EW.eAlloc ?_; refine EW.eAssign ?_; refine EW.eEnd ?_; (try refine EW.nm ?_))
  all_goals try ((first | refine EW.eRegL (id := 1) ?_ | refine EW.eReg (id := 1) ?_); refine EW.eMove ?_; refine EW.eLoadA (k := 4) ?_; (first | refine EW.eCall Try.call16 (fun w => hA w) ?_ | refine EW.eCall Try.call16 (fun w => hB w) ?_); refine EW.eMove ?_; (first | refine EW.eExtC ?_ | refine EW.eExtA ?_); (first | refine EW.eExtC ?_ | refine EW.eExtA ?_); refine EW.eAssign ?_; refine EW.eAssign ?_; refine EW.eEnd ?_; (try refine EW.nm ?_))
  all_goals try ((first | refine EW.eRegL (id := 2) ?_ | refine EW.eReg (id := 2) ?_); refine EW.eMove ?_; refine EW.eNeq ?_; refine EW.eEnd ?_; (try refine EW.nm ?_))
  all_goals try (first | refine EW.eYes (x := Operand.tmp 19) ?_ | refine EW.eNo (x := Operand.tmp 19) ?_ | (refine EW.eCond (x := Operand.tmp 19) ?_ ?_ <;> (intro hb hb'; (try dsimp only at hb'); (try (exfalso; first | omega | with_reducible exact absurd rfl hb')))))
  all_goals try (refine EW.nm ?_)
  all_goals try ((first | refine EW.eRegL (id := 3) ?_ | refine EW.eReg (id := 3) ?_); refine EW.eBuild (place := fun i => some (i * 1, 1)) ?_; refine EW.eMove ?_; (first | refine EW.eStoreW (k := 4) ?_ | refine EW.eStore (k := 4) ?_); refine EW.eAssign ?_; refine EW.eEnd ?_; (try refine EW.nm ?_))
  all_goals try ((first | refine EW.eRegL (id := 4) ?_ | refine EW.eReg (id := 4) ?_); refine EW.eMove ?_; refine EW.eLoadA (k := 4) ?_; (first | refine EW.eCall Try.call16 (fun w => hA w) ?_ | refine EW.eCall Try.call16 (fun w => hB w) ?_); refine EW.eMove ?_; (first | refine EW.eExtC ?_ | refine EW.eExtA ?_); (first | refine EW.eExtC ?_ | refine EW.eExtA ?_); refine EW.eAssign ?_; refine EW.eAssign ?_; refine EW.eEnd ?_; (try refine EW.nm ?_))
  all_goals try ((first | refine EW.eRegL (id := 5) ?_ | refine EW.eReg (id := 5) ?_); refine EW.eMove ?_; refine EW.eNeq ?_; refine EW.eEnd ?_; (try refine EW.nm ?_))
  all_goals try (first | refine EW.eYes (x := Operand.tmp 29) ?_ | refine EW.eNo (x := Operand.tmp 29) ?_ | (refine EW.eCond (x := Operand.tmp 29) ?_ ?_ <;> (intro hb hb'; (try dsimp only at hb'); (try (exfalso; first | omega | with_reducible exact absurd rfl hb')))))
  all_goals try (refine EW.nm ?_)
  all_goals try ((first | refine EW.eRegL (id := 6) ?_ | refine EW.eReg (id := 6) ?_); refine EW.eBuild (place := fun i => some (i * 1, 1)) ?_; refine EW.eMove ?_; (first | refine EW.eStoreW (k := 4) ?_ | refine EW.eStore (k := 4) ?_); refine EW.eAssign ?_; refine EW.eEnd ?_; (try refine EW.nm ?_))
  all_goals try ((first | refine EW.eRegL (id := 7) ?_ | refine EW.eReg (id := 7) ?_); refine EW.eMove ?_; refine EW.eGeq ?_; refine EW.eMove ?_)
  all_goals try (refine EW.eGuard (j := 2) (o := ⟨some 35, _, _, _, _, _⟩) ?_ ?_ <;> (intro hb hb'; (try dsimp only at hb'); (try (exfalso; first | omega | with_reducible exact absurd rfl hb'))))
  all_goals try ((first | refine EW.eSkipT (j := 2) ?_ | refine EW.eSkipU (j := 2) ?_ | refine EW.eMove ?_); (first | refine EW.eSkipT (j := 2) ?_ | refine EW.eSkipU (j := 2) ?_ | refine EW.eLss ?_); (first | refine EW.ePickT ?_ | refine EW.ePickF ?_); refine EW.eEnd ?_; (try refine EW.nm ?_))
  all_goals try (first | refine EW.eYes (x := Operand.tmp 37) ?_ | refine EW.eNo (x := Operand.tmp 37) ?_ | (refine EW.eCond (x := Operand.tmp 37) ?_ ?_ <;> (intro hb hb'; (try dsimp only at hb'); (try (exfalso; first | omega | with_reducible exact absurd rfl hb')))))
  all_goals try (refine EW.nm ?_)
  all_goals try ((first | refine EW.eRegL (id := 8) ?_ | refine EW.eReg (id := 8) ?_); refine EW.eMove ?_; refine EW.eLoadA (k := 4) ?_; refine EW.eLoadA (k := 4) ?_; refine EW.eCall Try.call28 (fun w => hC w) ?_; (first | refine EW.eStoreW (k := 4) ?_ | refine EW.eStore (k := 4) ?_); refine EW.eAssign ?_; refine EW.eEnd ?_; (try refine EW.nm ?_))
  all_goals try ((first | refine EW.eRegL (id := 9) ?_ | refine EW.eReg (id := 9) ?_); refine EW.eMove ?_; refine EW.eGeq ?_; refine EW.eMove ?_)
  all_goals try (refine EW.eGuard (j := 2) (o := ⟨some 45, _, _, _, _, _⟩) ?_ ?_ <;> (intro hb hb'; (try dsimp only at hb'); (try (exfalso; first | omega | with_reducible exact absurd rfl hb'))))
  all_goals try ((first | refine EW.eSkipT (j := 2) ?_ | refine EW.eSkipU (j := 2) ?_ | refine EW.eMove ?_); (first | refine EW.eSkipT (j := 2) ?_ | refine EW.eSkipU (j := 2) ?_ | refine EW.eLss ?_); (first | refine EW.ePickT ?_ | refine EW.ePickF ?_); refine EW.eEnd ?_; (try refine EW.nm ?_))
  all_goals try (first | refine EW.eYes (x := Operand.tmp 47) ?_ | refine EW.eNo (x := Operand.tmp 47) ?_ | (refine EW.eCond (x := Operand.tmp 47) ?_ ?_ <;> (intro hb hb'; (try dsimp only at hb'); (try (exfalso; first | omega | with_reducible exact absurd rfl hb')))))
  all_goals try (refine EW.nm ?_)
  all_goals try ((first | refine EW.eRegL (id := 10) ?_ | refine EW.eReg (id := 10) ?_); refine EW.eMove ?_; refine EW.eLoadA (k := 4) ?_; refine EW.eLoadA (k := 4) ?_; refine EW.eCall Try.call28 (fun w => hC w) ?_; (first | refine EW.eStoreW (k := 4) ?_ | refine EW.eStore (k := 4) ?_); refine EW.eAssign ?_; refine EW.eEnd ?_; (try refine EW.nm ?_))
  all_goals try ((first | refine EW.eRegL (id := 11) ?_ | refine EW.eReg (id := 11) ?_); refine EW.eBuild (place := fun i => some (i * 1, 1)) ?_; (first | refine EW.eStoreW (k := 4) ?_ | refine EW.eStore (k := 4) ?_); refine EW.eAssign ?_; refine EW.eEnd ?_; (try refine EW.nm ?_))
  all_goals (refine EW.eLeaveP ?_; intro w' hW; refine ⟨?_, hW⟩)
  all_goals rfl
theorem rCross_neg (hA : RDS p (V4 a0 a1 a2 a3) d 0) (hB : RDS p (V4 b0 b1 b2 b3) f 0) (h1 : d < 0) (h2 : 0 ≤ f) (hC : ∀ w : World, Calls Try.prog 28 #[I p, V4 b0 b1 b2 b3, V4 a0 a1 a2 a3] w fun x w' => x = .returned (V4 x0 x1 x2 x3) ∧ Below w.heap.size w w') : RCR p (V4 a0 a1 a2 a3) (V4 b0 b1 b2 b3) (V4 x0 x1 x2 x3) 0 := by
  intro w
  refine EW.eEnter Try.func17 rfl Try.ntmps17 ?_
  all_goals try (refine EW.nm ?_)
  all_goals try ((first | refine EW.eRegL (id := 0) ?_ | refine EW.eReg (id := 0) ?_); refine EW.eBox ?_; refine EW.eBox ?_; refine EW.eAlloc ?_; refine EW.eAssign ?_; refine EW.eEnd ?_; (try refine EW.nm ?_))
  all_goals try ((first | refine EW.eRegL (id := 1) ?_ | refine EW.eReg (id := 1) ?_); refine EW.eMove ?_; refine EW.eLoadA (k := 4) ?_; (first | refine EW.eCall Try.call16 (fun w => hA w) ?_ | refine EW.eCall Try.call16 (fun w => hB w) ?_); refine EW.eMove ?_; (first | refine EW.eExtC ?_ | refine EW.eExtA ?_); (first | refine EW.eExtC ?_ | refine EW.eExtA ?_); refine EW.eAssign ?_; refine EW.eAssign ?_; refine EW.eEnd ?_; (try refine EW.nm ?_))
  all_goals try ((first | refine EW.eRegL (id := 2) ?_ | refine EW.eReg (id := 2) ?_); refine EW.eMove ?_; refine EW.eNeq ?_; refine EW.eEnd ?_; (try refine EW.nm ?_))
  all_goals try (first | refine EW.eYes (x := Operand.tmp 19) ?_ | refine EW.eNo (x := Operand.tmp 19) ?_ | (refine EW.eCond (x := Operand.tmp 19) ?_ ?_ <;> (intro hb hb'; (try dsimp only at hb'); (try (exfalso; first | omega | with_reducible exact absurd rfl hb')))))
  all_goals try (refine EW.nm ?_)
  all_goals try ((first | refine EW.eRegL (id := 3) ?_ | refine EW.eReg (id := 3) ?_); refine EW.eBuild (place := fun i => some (i * 1, 1)) ?_; refine EW.eMove ?_; (first | refine EW.eStoreW (k := 4) ?_ | refine EW.eStore (k := 4) ?_); refine EW.eAssign ?_; refine EW.eEnd ?_; (try refine EW.nm ?_))
  all_goals try ((first | refine EW.eRegL (id := 4) ?_ | refine EW.eReg (id := 4) ?_); refine EW.eMove ?_; refine EW.eLoadA (k := 4) ?_; (first | refine EW.eCall Try.call16 (fun w => hA w) ?_ | refine EW.eCall Try.call16 (fun w => hB w) ?_); refine EW.eMove ?_; (first | refine EW.eExtC ?_ | refine EW.eExtA ?_); (first | refine EW.eExtC ?_ | refine EW.eExtA ?_); refine EW.eAssign ?_; refine EW.eAssign ?_; refine EW.eEnd ?_; (try refine EW.nm ?_))
  all_goals try ((first | refine EW.eRegL (id := 5) ?_ | refine EW.eReg (id := 5) ?_); refine EW.eMove ?_; refine EW.eNeq ?_; refine EW.eEnd ?_; (try refine EW.nm ?_))
  all_goals try (first | refine EW.eYes (x := Operand.tmp 29) ?_ | refine EW.eNo (x := Operand.tmp 29) ?_ | (refine EW.eCond (x := Operand.tmp 29) ?_ ?_ <;> (intro hb hb'; (try dsimp only at hb'); (try (exfalso; first | omega | with_reducible exact absurd rfl hb')))))
  all_goals try (refine EW.nm ?_)
  all_goals try ((first | refine EW.eRegL (id := 6) ?_ | refine EW.eReg (id := 6) ?_); refine EW.eBuild (place := fun i => some (i * 1, 1)) ?_; refine EW.eMove ?_; (first | refine EW.eStoreW (k := 4) ?_ | refine EW.eStore (k := 4) ?_); refine EW.eAssign ?_; refine EW.eEnd ?_; (try refine EW.nm ?_))
  all_goals try ((first | refine EW.eRegL (id := 7) ?_ | refine EW.eReg (id := 7) ?_); refine EW.eMove ?_; refine EW.eGeq ?_; refine EW.eMove ?_)
  all_goals try (refine EW.eGuard (j := 2) (o := ⟨some 35, _, _, _, _, _⟩) ?_ ?_ <;> (intro hb hb'; (try dsimp only at hb'); (try (exfalso; first | omega | with_reducible exact absurd rfl hb'))))
  all_goals try ((first | refine EW.eSkipT (j := 2) ?_ | refine EW.eSkipU (j := 2) ?_ | refine EW.eMove ?_); (first | refine EW.eSkipT (j := 2) ?_ | refine EW.eSkipU (j := 2) ?_ | refine EW.eLss ?_); (first | refine EW.ePickT ?_ | refine EW.ePickF ?_); refine EW.eEnd ?_; (try refine EW.nm ?_))
  all_goals try (first | refine EW.eYes (x := Operand.tmp 37) ?_ | refine EW.eNo (x := Operand.tmp 37) ?_ | (refine EW.eCond (x := Operand.tmp 37) ?_ ?_ <;> (intro hb hb'; (try dsimp only at hb'); (try (exfalso; first | omega | with_reducible exact absurd rfl hb')))))
  all_goals try (refine EW.nm ?_)
  all_goals try ((first | refine EW.eRegL (id := 8) ?_ | refine EW.eReg (id := 8) ?_); refine EW.eMove ?_; refine EW.eLoadA (k := 4) ?_; refine EW.eLoadA (k := 4) ?_; refine EW.eCall Try.call28 (fun w => hC w) ?_; (first | refine EW.eStoreW (k := 4) ?_ | refine EW.eStore (k := 4) ?_); refine EW.eAssign ?_; refine EW.eEnd ?_; (try refine EW.nm ?_))
  all_goals try ((first | refine EW.eRegL (id := 9) ?_ | refine EW.eReg (id := 9) ?_); refine EW.eMove ?_; refine EW.eGeq ?_; refine EW.eMove ?_)
  all_goals try (refine EW.eGuard (j := 2) (o := ⟨some 45, _, _, _, _, _⟩) ?_ ?_ <;> (intro hb hb'; (try dsimp only at hb'); (try (exfalso; first | omega | with_reducible exact absurd rfl hb'))))
  all_goals try ((first | refine EW.eSkipT (j := 2) ?_ | refine EW.eSkipU (j := 2) ?_ | refine EW.eMove ?_); (first | refine EW.eSkipT (j := 2) ?_ | refine EW.eSkipU (j := 2) ?_ | refine EW.eLss ?_); (first | refine EW.ePickT ?_ | refine EW.ePickF ?_); refine EW.eEnd ?_; (try refine EW.nm ?_))
  all_goals try (first | refine EW.eYes (x := Operand.tmp 47) ?_ | refine EW.eNo (x := Operand.tmp 47) ?_ | (refine EW.eCond (x := Operand.tmp 47) ?_ ?_ <;> (intro hb hb'; (try dsimp only at hb'); (try (exfalso; first | omega | with_reducible exact absurd rfl hb')))))
  all_goals try (refine EW.nm ?_)
  all_goals try ((first | refine EW.eRegL (id := 10) ?_ | refine EW.eReg (id := 10) ?_); refine EW.eMove ?_; refine EW.eLoadA (k := 4) ?_; refine EW.eLoadA (k := 4) ?_; refine EW.eCall Try.call28 (fun w => hC w) ?_; (first | refine EW.eStoreW (k := 4) ?_ | refine EW.eStore (k := 4) ?_); refine EW.eAssign ?_; refine EW.eEnd ?_; (try refine EW.nm ?_))
  all_goals try ((first | refine EW.eRegL (id := 11) ?_ | refine EW.eReg (id := 11) ?_); refine EW.eBuild (place := fun i => some (i * 1, 1)) ?_; (first | refine EW.eStoreW (k := 4) ?_ | refine EW.eStore (k := 4) ?_); refine EW.eAssign ?_; refine EW.eEnd ?_; (try refine EW.nm ?_))
  all_goals (refine EW.eLeaveP ?_; intro w' hW; refine ⟨?_, hW⟩)
  all_goals rfl
end
theorem list_of_getD {α : Type} {d : α} {xs ys : List α} (h : xs.length = ys.length) (hp : ∀ q, q < xs.length → xs.getD q d = ys.getD q d) : xs = ys := by
  refine List.ext_getElem h fun i h1 h2 => ?_
  have := hp i h1
  simpa [List.getD_eq_getElem?_getD, List.getElem?_eq_getElem h1, List.getElem?_eq_getElem h2] using this
theorem less_succ {p : Nat → Prop} {i : Nat} (h : ∀ q, q < i → p q) (hi : p i) : ∀ q, q < i + 1 → p q := fun q hq => by
  rcases Nat.lt_or_ge q i with h1 | h1
  · exact h q h1
  · rw [show q = i by omega]; exact hi
abbrev WV2 (o o' : Bool) (xs ys : List Vx) : Ws := [(.l 0, .l true), (.b 0, .b (.w o (vvs xs))), (.l 1, .l true), (.b 1, .b (.w o' (vvs ys)))]
theorem vsame (o o' : Bool) (xs ys : List Vx) (hxs : xs.length ≤ 100000) : CT Try.prog 15 [.c (.g 0 0 xs.length xs.length 4), .c (.g 1 0 ys.length ys.length 4)] (upd EW.emp (WV2 o o' xs ys)) 2 2 (.c (.v (.bool (decide (xs = ys))))) (upd (upd EW.emp (WV2 o o' xs ys)) []) := by
  refine EW.ctEnter [10, 20, 30, 40, 50, 60, 70, 80, 90, 100, 110, 120, 130, 140, 150, 160, 170, 180, 190, 200, 210, 220, 230, 240, 250, 260, 270, 280, 290, 300, 310, 320, 330, 340, 350, 360, 370, 380, 390, 400, 410, 420, 430, 440, 450, 460, 470, 480, 490, 500, 510, 520, 530, 540, 550, 560, 570, 580, 590, 600] Try.func15 rfl Try.ntmps15 rfl (by (((repeat (first | exact EW.NL.emp | (refine EW.NL.upd ?_ rfl) | refine EW.NL.drp ?_ | refine EW.NL.hp ?_ | refine EW.NL.argS ?_ | refine EW.NL.mix ?_)); (first | done | fail)))) ?_; intro w0 tch ini R hR
  all_goals try (refine EW.nm ?_)
  all_goals try ((first | refine EW.eRegL (id := 0) ?_ | refine EW.eReg (id := 0) ?_); refine EW.eAssign ?_; refine EW.eEnd ?_; (try refine EW.nm ?_))
  all_goals try ((first | refine EW.eRegL (id := 1) ?_ | refine EW.eReg (id := 1) ?_); refine EW.eMove ?_; (first | refine EW.eLenS ?_ | refine EW.eLenG ?_ | refine EW.eLenN ?_); refine EW.eMove ?_; (first | refine EW.eLenS ?_ | refine EW.eLenG ?_ | refine EW.eLenN ?_); refine EW.eNeq ?_; refine EW.eEnd ?_; (try refine EW.nm ?_))
  all_goals try (first | refine EW.eYes (x := Operand.tmp 10) ?_ | refine EW.eNo (x := Operand.tmp 10) ?_ | (refine EW.eCond (x := Operand.tmp 10) ?_ ?_ <;> (intro hb hb'; (try dsimp only at hb'); (try (exfalso; first | omega | with_reducible exact absurd rfl hb')))))
  all_goals try (refine EW.nm ?_)
  all_goals try ((first | refine EW.eRegL (id := 2) ?_ | refine EW.eReg (id := 2) ?_); refine EW.eAssign ?_; refine EW.eEnd ?_; (try refine EW.nm ?_))
  all_goals try ((first | refine EW.eRegL (id := 3) ?_ | refine EW.eReg (id := 3) ?_); refine EW.eAssign ?_; refine EW.eEnd ?_; (try refine EW.nm ?_))
  all_goals first | (fail_if_success (refine EW.eUnroll 1 ?_)) | (refine EW.eLoopD [4, 5, 11, 12, 13, 14, 15, 16, 17, 18, 19, 20, 21, 22, 23, 24, 25] 1000000 (fun j : {i : Nat // i ≤ xs.length ∧ xs.length = ys.length ∧ ∀ q, q < i → xs.getD q Vx.zero = ys.getD q Vx.zero} => [(.t 5, .v (.c (.v (.int .i64 j.1))))]) (fun j => xs.length - j.1) (⟨0, by omega, by omega, fun q h => absurd h (by omega)⟩) (by ((repeat (first | exact EW.subW.nil | refine EW.subW.cons rfl ?_ | refine EW.subW.conv rfl ?_)); (first | done | fail))) ?_; rintro hcl4 ⟨i, hi, hl, hp⟩; (try dsimp only))
  all_goals try (refine EW.nm ?_)
  all_goals try ((first | refine EW.eRegL (id := 4) ?_ | refine EW.eReg (id := 4) ?_); refine EW.eMove ?_; refine EW.eMove ?_; (first | refine EW.eLenS ?_ | refine EW.eLenG ?_ | refine EW.eLenN ?_); refine EW.eLss ?_; refine EW.eEnd ?_; (try refine EW.nm ?_))
  all_goals try (first | refine EW.eYes (x := Operand.tmp 14) ?_ | refine EW.eNo (x := Operand.tmp 14) ?_ | (refine EW.eCond (x := Operand.tmp 14) ?_ ?_ <;> (intro hb hb'; (try dsimp only at hb'); (try (exfalso; first | omega | with_reducible exact absurd rfl hb')))))
  all_goals try (refine EW.nm ?_)
  all_goals try ((first | refine EW.eRegL (id := 6) ?_ | refine EW.eReg (id := 6) ?_); refine EW.eMove ?_; refine EW.eMove ?_; (first | refine EW.eIndexAddrS (z := 4) ?_ | refine EW.eIndexAddrG (z := 4) ?_); refine EW.eLoadA (k := 4) ?_; refine EW.eMove ?_; refine EW.eMove ?_; (first | refine EW.eIndexAddrS (z := 4) ?_ | refine EW.eIndexAddrG (z := 4) ?_); refine EW.eLoadA (k := 4) ?_; refine EW.eNeqA ?_; refine EW.eDraw ?_; (try refine EW.nm ?_))
  all_goals try (first | refine EW.eYes (x := Operand.tmp 25) ?_ | refine EW.eNo (x := Operand.tmp 25) ?_ | (refine EW.eCond (x := Operand.tmp 25) ?_ ?_ <;> (intro hb hb'; (try dsimp only at hb'); (try (exfalso; first | omega | with_reducible exact absurd rfl hb')))))
  all_goals try (refine EW.nm ?_)
  all_goals try ((first | refine EW.eRegL (id := 7) ?_ | refine EW.eReg (id := 7) ?_); refine EW.eAssign ?_; refine EW.eEnd ?_; (try refine EW.nm ?_))
  all_goals try ((first | refine EW.eRegL (id := 5) ?_ | refine EW.eReg (id := 5) ?_); refine EW.eMove ?_; refine EW.eAdd ?_; refine EW.eAssign ?_; refine EW.eEnd ?_; (try refine EW.nm ?_))
  all_goals first | (fail_if_success (with_reducible refine EW.isLater ?_)) | (refine EW.eLaterD (⟨i + 1, by omega, hl, less_succ hp (Vx.ext4 hb')⟩) (by dsimp only; omega) (by ((repeat (first | exact EW.subW.nil | refine EW.subW.cons rfl ?_ | refine EW.subW.conv rfl ?_)); (first | done | fail))) hcl4)
  all_goals try (refine EW.nm ?_)
  all_goals try ((first | refine EW.eRegL (id := 8) ?_ | refine EW.eReg (id := 8) ?_); refine EW.eAssign ?_; refine EW.eEnd ?_; (try refine EW.nm ?_))
  all_goals (refine EW.eLeaveN [] hR (by first | exact .inl rfl | exact .inr rfl) (by rfl) (by rfl) ?_ ?_ rfl rfl (by (((repeat (first | exact EW.NL.emp | (refine EW.NL.upd ?_ rfl) | refine EW.NL.drp ?_ | refine EW.NL.hp ?_ | refine EW.NL.argS ?_ | refine EW.NL.mix ?_)); (first | done | fail)))) rfl rfl; rotate_left 1; (· ((repeat (first | exact EW.atE.nil | refine EW.atE.lt rfl ?_ | refine EW.atE.lf ?_ | refine EW.atE.b rfl EW.SameB.refl ?_ | (refine EW.atE.b rfl ?_ ?_; rotate_left 1))))))
  all_goals refine congrArg (fun b => V.c (C.v (Value.bool b))) ?_
  all_goals first | exact (decide_eq_true (list_of_getD hl fun q hq => hp q (by omega))).symm | (refine (decide_eq_false fun h => ?_).symm; subst h; omega) | (refine (decide_eq_false fun h => ?_).symm; subst h; exact hb' ⟨rfl, rfl, rfl, rfl⟩)
theorem vsame_self (o o' : Bool) (l : List Vx) (hl : l.length ≤ 100000) : CT Try.prog 15 [.c (.g 0 0 l.length l.length 4), .c (.g 1 0 l.length l.length 4)] (upd EW.emp (WV2 o o' l l)) 2 2 (.c (.v (.bool true))) (upd (upd EW.emp (WV2 o o' l l)) []) := by
  have := vsame o o' l l hl; rwa [decide_eq_true (rfl : l = l)] at this
theorem vsame_nil (w : World) : Calls Try.prog 15 #[.slice none 0 0, .slice none 0 0] w fun e w' => e = .returned (.bool true) ∧ Below w.heap.size w w' := by
  refine EW.eEnter Try.func15 rfl Try.ntmps15 ?_
  all_goals try (refine EW.nm ?_)
  all_goals try ((first | refine EW.eRegL (id := 0) ?_ | refine EW.eReg (id := 0) ?_); refine EW.eAssign ?_; refine EW.eEnd ?_; (try refine EW.nm ?_))
  all_goals try ((first | refine EW.eRegL (id := 1) ?_ | refine EW.eReg (id := 1) ?_); refine EW.eMove ?_; (first | refine EW.eLenS ?_ | refine EW.eLenG ?_ | refine EW.eLenN ?_); refine EW.eMove ?_; (first | refine EW.eLenS ?_ | refine EW.eLenG ?_ | refine EW.eLenN ?_); refine EW.eNeq ?_; refine EW.eEnd ?_; (try refine EW.nm ?_))
  all_goals try (first | refine EW.eYes (x := Operand.tmp 10) ?_ | refine EW.eNo (x := Operand.tmp 10) ?_ | (refine EW.eCond (x := Operand.tmp 10) ?_ ?_ <;> (intro hb hb'; (try dsimp only at hb'); (try (exfalso; first | omega | with_reducible exact absurd rfl hb')))))
  all_goals try (refine EW.nm ?_)
  all_goals try ((first | refine EW.eRegL (id := 2) ?_ | refine EW.eReg (id := 2) ?_); refine EW.eAssign ?_; refine EW.eEnd ?_; (try refine EW.nm ?_))
  all_goals try ((first | refine EW.eRegL (id := 3) ?_ | refine EW.eReg (id := 3) ?_); refine EW.eAssign ?_; refine EW.eEnd ?_; (try refine EW.nm ?_))
  all_goals try (refine EW.eUnroll 1 ?_)
  all_goals try (refine EW.nm ?_)
  iterate 1 (
    all_goals try ((first | refine EW.eRegL (id := 4) ?_ | refine EW.eReg (id := 4) ?_); refine EW.eMove ?_; refine EW.eMove ?_; (first | refine EW.eLenS ?_ | refine EW.eLenG ?_ | refine EW.eLenN ?_); refine EW.eLss ?_; refine EW.eEnd ?_; (try refine EW.nm ?_))
    all_goals try (first | refine EW.eYes (x := Operand.tmp 14) ?_ | refine EW.eNo (x := Operand.tmp 14) ?_ | (refine EW.eCond (x := Operand.tmp 14) ?_ ?_ <;> (intro hb hb'; (try dsimp only at hb'); (try (exfalso; first | omega | with_reducible exact absurd rfl hb')))))
    all_goals try (refine EW.nm ?_)
    all_goals try ((first | refine EW.eRegL (id := 6) ?_ | refine EW.eReg (id := 6) ?_); refine EW.eMove ?_; refine EW.eMove ?_; (first | refine EW.eIndexAddrS (z := 4) ?_ | refine EW.eIndexAddrG (z := 4) ?_); refine EW.eLoadA (k := 4) ?_; refine EW.eMove ?_; refine EW.eMove ?_; (first | refine EW.eIndexAddrS (z := 4) ?_ | refine EW.eIndexAddrG (z := 4) ?_); refine EW.eLoadA (k := 4) ?_; refine EW.eNeqA ?_; refine EW.eDraw ?_; (try refine EW.nm ?_))
    all_goals try (first | refine EW.eYes (x := Operand.tmp 25) ?_ | refine EW.eNo (x := Operand.tmp 25) ?_ | (refine EW.eCond (x := Operand.tmp 25) ?_ ?_ <;> (intro hb hb'; (try dsimp only at hb'); (try (exfalso; first | omega | with_reducible exact absurd rfl hb')))))
    all_goals try (refine EW.nm ?_)
    all_goals try ((first | refine EW.eRegL (id := 7) ?_ | refine EW.eReg (id := 7) ?_); refine EW.eAssign ?_; refine EW.eEnd ?_; (try refine EW.nm ?_))
    all_goals try ((first | refine EW.eRegL (id := 5) ?_ | refine EW.eReg (id := 5) ?_); refine EW.eMove ?_; refine EW.eAdd ?_; refine EW.eAssign ?_; refine EW.eEnd ?_; (try refine EW.nm ?_)))
  all_goals try ((first | refine EW.eRegL (id := 8) ?_ | refine EW.eReg (id := 8) ?_); refine EW.eAssign ?_; refine EW.eEnd ?_; (try refine EW.nm ?_))
  all_goals (refine EW.eLeaveP ?_; intro w' hW; refine ⟨?_, hW⟩)
  all_goals rfl
theorem rCut_ok (ol : Bool) (p : Int) (l : List Vx) (p0 : 0 ≤ p) (p1 : p < 7) (hl : l.length ≤ 100) (hs : ∀ v ∈ l, v.sm) : CT Try.prog 19 [.c (.g 0 0 l.length l.length 4), .c (.v (.int .i64 p))] (upd EW.emp (WF ol l)) 1 2 (.t [.inl (.g 1 0 (cutL p l).length (cutL p l).length 4), .inl (.v (.int .i64 0))]) (upd (upd EW.emp (WF ol l)) [(.l 1, .l true), (.b 1, .b (.w true (vvs (cutL p l))))]) := by
  have hM : ∀ i, i < l.length → ∀ w : World, Calls Try.prog 21 #[(l.getD i Vx.zero).val] w fun e w' => e = .returned (.bool true) ∧ Below w.heap.size w w' := fun i hi w => by
    have := rmay (l.getD i Vx.zero).x (l.getD i Vx.zero).y (l.getD i Vx.zero).z (l.getD i Vx.zero).q w
    rwa [decide_eq_true (hs _ (getD_mem hi))] at this
  refine EW.ctEnter [10, 20, 30, 40, 50, 60, 70, 80, 90, 100, 110, 120, 130, 140, 150, 160, 170, 180, 190, 200, 210, 220, 230, 240, 250, 260, 270, 280, 290, 300, 310, 320, 330, 340, 350, 360, 370, 380, 390, 400, 410, 420, 430, 440, 450, 460, 470, 480, 490, 500, 510, 520, 530, 540, 550, 560, 570, 580, 590, 600] Try.func19 rfl Try.ntmps19 rfl (by (((repeat (first | exact EW.NL.emp | (refine EW.NL.upd ?_ rfl) | refine EW.NL.drp ?_ | refine EW.NL.hp ?_ | refine EW.NL.argS ?_ | refine EW.NL.mix ?_)); (first | done | fail)))) ?_; intro w0 tch ini R hR
  all_goals try (refine EW.nm ?_)
  all_goals try ((first | refine EW.eRegL (id := 0) ?_ | refine EW.eReg (id := 0) ?_); refine EW.eAssign ?_; refine EW.eAssign ?_; refine EW.eEnd ?_; (try refine EW.nm ?_))
  all_goals try ((first | refine EW.eRegL (id := 1) ?_ | refine EW.eReg (id := 1) ?_); refine EW.eMove ?_; refine EW.eLss ?_; refine EW.eMove ?_)
  all_goals try (refine EW.eGuard (j := 2) (o := ⟨some 11, _, _, _, _, _⟩) ?_ ?_ <;> (intro hb hb'; (try dsimp only at hb'); (try (exfalso; first | omega | with_reducible exact absurd rfl hb'))))
  all_goals try ((first | refine EW.eSkipF (j := 2) ?_ | refine EW.eSkipU (j := 2) ?_ | refine EW.eMove ?_); (first | refine EW.eSkipF (j := 2) ?_ | refine EW.eSkipU (j := 2) ?_ | refine EW.eGtr ?_); (first | refine EW.ePickT ?_ | refine EW.ePickF ?_); refine EW.eMove ?_)
  all_goals try (refine EW.eGuard (j := 6) (o := ⟨some 15, _, _, _, _, _⟩) ?_ ?_ <;> (intro hb hb'; (try dsimp only at hb'); (try (exfalso; first | omega | with_reducible exact absurd rfl hb'))))
  all_goals try ((first | refine EW.eSkipF (j := 6) ?_ | refine EW.eSkipU (j := 6) ?_ | refine EW.eMove ?_); (first | refine EW.eSkipF (j := 6) ?_ | refine EW.eSkipU (j := 6) ?_ | refine EW.eLenS ?_ | refine EW.eLenG ?_ | refine EW.eLenN ?_); (first | refine EW.eSkipF (j := 6) ?_ | refine EW.eSkipU (j := 6) ?_ | refine EW.eGtr ?_); (first | refine EW.ePickT ?_ | refine EW.ePickF ?_); refine EW.eEnd ?_; (try refine EW.nm ?_))
  all_goals try (first | refine EW.eYes (x := Operand.tmp 18) ?_ | refine EW.eNo (x := Operand.tmp 18) ?_ | (refine EW.eCond (x := Operand.tmp 18) ?_ ?_ <;> (intro hb hb'; (try dsimp only at hb'); (try (exfalso; first | omega | with_reducible exact absurd rfl hb')))))
  all_goals try (refine EW.nm ?_)
  all_goals try ((first | refine EW.eRegL (id := 2) ?_ | refine EW.eReg (id := 2) ?_); refine EW.eAssign ?_; refine EW.eAssign ?_; refine EW.eEnd ?_; (try refine EW.nm ?_))
  all_goals try ((first | refine EW.eRegL (id := 3) ?_ | refine EW.eReg (id := 3) ?_); refine EW.eAssign ?_; refine EW.eEnd ?_; (try refine EW.nm ?_))
  all_goals first | (fail_if_success (refine EW.eUnroll 1 ?_)) | (refine EW.eLoopD [4, 5, 6, 7, 19, 20, 21, 22, 23, 24, 25, 26, 27, 28, 29, 30, 31] 1000000 (fun j : {i : Nat // i ≤ l.length} => [(.t 6, .v (.c (.v (.int .i64 j.1))))]) (fun j => l.length - j.1) (⟨0, by omega⟩) (by ((repeat (first | exact EW.subW.nil | refine EW.subW.cons rfl ?_ | refine EW.subW.conv rfl ?_)); (first | done | fail))) ?_; rintro hcl4 ⟨i, hi⟩; (try dsimp only))
  all_goals try (refine EW.nm ?_)
  all_goals try ((first | refine EW.eRegL (id := 4) ?_ | refine EW.eReg (id := 4) ?_); refine EW.eMove ?_; refine EW.eMove ?_; (first | refine EW.eLenS ?_ | refine EW.eLenG ?_ | refine EW.eLenN ?_); refine EW.eLss ?_; refine EW.eEnd ?_; (try refine EW.nm ?_))
  all_goals try (first | refine EW.eYes (x := Operand.tmp 22) ?_ | refine EW.eNo (x := Operand.tmp 22) ?_ | (refine EW.eCond (x := Operand.tmp 22) ?_ ?_ <;> (intro hb hb'; (try dsimp only at hb'); (try (exfalso; first | omega | with_reducible exact absurd rfl hb')))))
  all_goals try (refine EW.nm ?_)
  all_goals try ((first | refine EW.eRegL (id := 6) ?_ | refine EW.eReg (id := 6) ?_); refine EW.eMove ?_; refine EW.eMove ?_; (first | refine EW.eIndexAddrS (z := 4) ?_ | refine EW.eIndexAddrG (z := 4) ?_); refine EW.eLoadA (k := 4) ?_; refine EW.eCall Try.call21 (fun w => hM i (by omega) w) ?_; refine EW.eAssign ?_; refine EW.eEnd ?_; (try refine EW.nm ?_))
  all_goals try ((first | refine EW.eRegL (id := 7) ?_ | refine EW.eReg (id := 7) ?_); refine EW.eMove ?_; refine EW.eNot ?_; refine EW.eEnd ?_; (try refine EW.nm ?_))
  all_goals try (first | refine EW.eYes (x := Operand.tmp 31) ?_ | refine EW.eNo (x := Operand.tmp 31) ?_ | (refine EW.eCond (x := Operand.tmp 31) ?_ ?_ <;> (intro hb hb'; (try dsimp only at hb'); (try (exfalso; first | omega | with_reducible exact absurd rfl hb')))))
  all_goals try (refine EW.nm ?_)
  all_goals try ((first | refine EW.eRegL (id := 8) ?_ | refine EW.eReg (id := 8) ?_); refine EW.eAssign ?_; refine EW.eAssign ?_; refine EW.eEnd ?_; (try refine EW.nm ?_))
  all_goals try ((first | refine EW.eRegL (id := 5) ?_ | refine EW.eReg (id := 5) ?_); refine EW.eMove ?_; refine EW.eAdd ?_; refine EW.eAssign ?_; refine EW.eEnd ?_; (try refine EW.nm ?_))
  all_goals first | (fail_if_success (with_reducible refine EW.isLater ?_)) | (refine EW.eLaterD (⟨i + 1, by omega⟩) (by dsimp only; omega) (by ((repeat (first | exact EW.subW.nil | refine EW.subW.cons rfl ?_ | refine EW.subW.conv rfl ?_)); (first | done | fail))) hcl4)
  all_goals try (refine EW.nm ?_)
  all_goals try ((first | refine EW.eRegL (id := 9) ?_ | refine EW.eReg (id := 9) ?_); refine EW.eMove ?_; refine EW.eMove ?_; refine EW.eCallN [0] Try.call29 (rcut_ct ol p l p0 p1 (by omega) hs) ?_; refine EW.eAssign ?_; refine EW.eAssign ?_; refine EW.eEnd ?_; (try refine EW.nm ?_))
  all_goals (refine EW.eLeaveN [10] hR (by first | exact .inl rfl | exact .inr rfl) (by rfl) (by rfl) ?_ ?_ rfl rfl (by (((repeat (first | exact EW.NL.emp | (refine EW.NL.upd ?_ rfl) | refine EW.NL.drp ?_ | refine EW.NL.hp ?_ | refine EW.NL.argS ?_ | refine EW.NL.mix ?_)); (first | done | fail)))) rfl rfl; rotate_left 1; (· ((repeat (first | exact EW.atE.nil | refine EW.atE.lt rfl ?_ | refine EW.atE.lf ?_ | refine EW.atE.b rfl EW.SameB.refl ?_ | (refine EW.atE.b rfl ?_ ?_; rotate_left 1))))))
  all_goals rfl
theorem rCut_arg (ol : Bool) (p : Int) (l : List Vx) (hl : l.length ≤ 10000) (h : p < 0 ∨ 7 ≤ p ∨ 100 < l.length) : CT Try.prog 19 [.c (.g 0 0 l.length l.length 4), .c (.v (.int .i64 p))] (upd EW.emp (WF ol l)) 1 1 (.t [.inl (.v (.slice none 0 0)), .inl (.v (.int .i64 2))]) (upd (upd EW.emp (WF ol l)) []) := by
  refine EW.ctEnter [10, 20, 30, 40, 50, 60, 70, 80, 90, 100, 110, 120, 130, 140, 150, 160, 170, 180, 190, 200, 210, 220, 230, 240, 250, 260, 270, 280, 290, 300, 310, 320, 330, 340, 350, 360, 370, 380, 390, 400, 410, 420, 430, 440, 450, 460, 470, 480, 490, 500, 510, 520, 530, 540, 550, 560, 570, 580, 590, 600] Try.func19 rfl Try.ntmps19 rfl (by (((repeat (first | exact EW.NL.emp | (refine EW.NL.upd ?_ rfl) | refine EW.NL.drp ?_ | refine EW.NL.hp ?_ | refine EW.NL.argS ?_ | refine EW.NL.mix ?_)); (first | done | fail)))) ?_; intro w0 tch ini R hR
  all_goals try (refine EW.nm ?_)
  all_goals try ((first | refine EW.eRegL (id := 0) ?_ | refine EW.eReg (id := 0) ?_); refine EW.eAssign ?_; refine EW.eAssign ?_; refine EW.eEnd ?_; (try refine EW.nm ?_))
  all_goals try ((first | refine EW.eRegL (id := 1) ?_ | refine EW.eReg (id := 1) ?_); refine EW.eMove ?_; refine EW.eLss ?_; refine EW.eMove ?_)
  all_goals try (refine EW.eGuard (j := 2) (o := ⟨some 11, _, _, _, _, _⟩) ?_ ?_ <;> (intro hb hb'; (try dsimp only at hb'); (try (exfalso; first | omega | with_reducible exact absurd rfl hb'))))
  all_goals try ((first | refine EW.eSkipF (j := 2) ?_ | refine EW.eSkipU (j := 2) ?_ | refine EW.eMove ?_); (first | refine EW.eSkipF (j := 2) ?_ | refine EW.eSkipU (j := 2) ?_ | refine EW.eGtr ?_); (first | refine EW.ePickT ?_ | refine EW.ePickF ?_); refine EW.eMove ?_)
  all_goals try (refine EW.eGuard (j := 6) (o := ⟨some 15, _, _, _, _, _⟩) ?_ ?_ <;> (intro hb hb'; (try dsimp only at hb'); (try (exfalso; first | omega | with_reducible exact absurd rfl hb'))))
  all_goals try ((first | refine EW.eSkipF (j := 6) ?_ | refine EW.eSkipU (j := 6) ?_ | refine EW.eMove ?_); (first | refine EW.eSkipF (j := 6) ?_ | refine EW.eSkipU (j := 6) ?_ | refine EW.eLenS ?_ | refine EW.eLenG ?_ | refine EW.eLenN ?_); (first | refine EW.eSkipF (j := 6) ?_ | refine EW.eSkipU (j := 6) ?_ | refine EW.eGtr ?_); (first | refine EW.ePickT ?_ | refine EW.ePickF ?_); refine EW.eEnd ?_; (try refine EW.nm ?_))
  all_goals try (first | refine EW.eYes (x := Operand.tmp 18) ?_ | refine EW.eNo (x := Operand.tmp 18) ?_ | (refine EW.eCond (x := Operand.tmp 18) ?_ ?_ <;> (intro hb hb'; (try dsimp only at hb'); (try (exfalso; first | omega | with_reducible exact absurd rfl hb')))))
  all_goals try (refine EW.nm ?_)
  all_goals try ((first | refine EW.eRegL (id := 2) ?_ | refine EW.eReg (id := 2) ?_); refine EW.eAssign ?_; refine EW.eAssign ?_; refine EW.eEnd ?_; (try refine EW.nm ?_))
  all_goals try ((first | refine EW.eRegL (id := 3) ?_ | refine EW.eReg (id := 3) ?_); refine EW.eAssign ?_; refine EW.eEnd ?_; (try refine EW.nm ?_))
  all_goals try (refine EW.eUnroll 1 ?_)
  all_goals try (refine EW.nm ?_)
  iterate 1 (
    all_goals try ((first | refine EW.eRegL (id := 4) ?_ | refine EW.eReg (id := 4) ?_); refine EW.eMove ?_; refine EW.eMove ?_; (first | refine EW.eLenS ?_ | refine EW.eLenG ?_ | refine EW.eLenN ?_); refine EW.eLss ?_; refine EW.eEnd ?_; (try refine EW.nm ?_))
    all_goals try (first | refine EW.eYes (x := Operand.tmp 22) ?_ | refine EW.eNo (x := Operand.tmp 22) ?_ | (refine EW.eCond (x := Operand.tmp 22) ?_ ?_ <;> (intro hb hb'; (try dsimp only at hb'); (try (exfalso; first | omega | with_reducible exact absurd rfl hb')))))
    all_goals try (refine EW.nm ?_)
    all_goals try ((first | refine EW.eRegL (id := 6) ?_ | refine EW.eReg (id := 6) ?_); refine EW.eMove ?_; refine EW.eMove ?_; (first | refine EW.eIndexAddrS (z := 4) ?_ | refine EW.eIndexAddrG (z := 4) ?_); refine EW.eLoadA (k := 4) ?_; fail "no contract of mullion/mullionref09.May"; refine EW.eAssign ?_; refine EW.eEnd ?_; (try refine EW.nm ?_))
    all_goals try ((first | refine EW.eRegL (id := 7) ?_ | refine EW.eReg (id := 7) ?_); refine EW.eMove ?_; refine EW.eNot ?_; refine EW.eEnd ?_; (try refine EW.nm ?_))
    all_goals try (first | refine EW.eYes (x := Operand.tmp 31) ?_ | refine EW.eNo (x := Operand.tmp 31) ?_ | (refine EW.eCond (x := Operand.tmp 31) ?_ ?_ <;> (intro hb hb'; (try dsimp only at hb'); (try (exfalso; first | omega | with_reducible exact absurd rfl hb')))))
    all_goals try (refine EW.nm ?_)
    all_goals try ((first | refine EW.eRegL (id := 8) ?_ | refine EW.eReg (id := 8) ?_); refine EW.eAssign ?_; refine EW.eAssign ?_; refine EW.eEnd ?_; (try refine EW.nm ?_))
    all_goals try ((first | refine EW.eRegL (id := 5) ?_ | refine EW.eReg (id := 5) ?_); refine EW.eMove ?_; refine EW.eAdd ?_; refine EW.eAssign ?_; refine EW.eEnd ?_; (try refine EW.nm ?_)))
  all_goals try ((first | refine EW.eRegL (id := 9) ?_ | refine EW.eReg (id := 9) ?_); refine EW.eMove ?_; refine EW.eMove ?_; fail "no contract of mullion/mullionref09.cut"; refine EW.eAssign ?_; refine EW.eAssign ?_; refine EW.eEnd ?_; (try refine EW.nm ?_))
  all_goals (refine EW.eLeaveN [] hR (by first | exact .inl rfl | exact .inr rfl) (by rfl) (by rfl) ?_ ?_ rfl rfl (by (((repeat (first | exact EW.NL.emp | (refine EW.NL.upd ?_ rfl) | refine EW.NL.drp ?_ | refine EW.NL.hp ?_ | refine EW.NL.argS ?_ | refine EW.NL.mix ?_)); (first | done | fail)))) rfl rfl; rotate_left 1; (· ((repeat (first | exact EW.atE.nil | refine EW.atE.lt rfl ?_ | refine EW.atE.lf ?_ | refine EW.atE.b rfl EW.SameB.refl ?_ | (refine EW.atE.b rfl ?_ ?_; rotate_left 1))))))
  all_goals rfl
theorem rCut_no (ol : Bool) (p : Int) (l : List Vx) (t : Nat) (p0 : 0 ≤ p) (p1 : p < 7) (hl : l.length ≤ 100) (ht : t < l.length) (hs : ∀ i, i < t → (l.getD i Vx.zero).sm) (hno : ¬ (l.getD t Vx.zero).sm) : CT Try.prog 19 [.c (.g 0 0 l.length l.length 4), .c (.v (.int .i64 p))] (upd EW.emp (WF ol l)) 1 1 (.t [.inl (.v (.slice none 0 0)), .inl (.v (.int .i64 90))]) (upd (upd EW.emp (WF ol l)) []) := by
  have hM : ∀ i, i < t → ∀ w : World, Calls Try.prog 21 #[(l.getD i Vx.zero).val] w fun e w' => e = .returned (.bool true) ∧ Below w.heap.size w w' := fun i hi w => by
    have := rmay (l.getD i Vx.zero).x (l.getD i Vx.zero).y (l.getD i Vx.zero).z (l.getD i Vx.zero).q w
    rwa [decide_eq_true (hs i hi)] at this
  have hN : ∀ w : World, Calls Try.prog 21 #[(l.getD t Vx.zero).val] w fun e w' => e = .returned (.bool false) ∧ Below w.heap.size w w' := fun w => by
    have := rmay (l.getD t Vx.zero).x (l.getD t Vx.zero).y (l.getD t Vx.zero).z (l.getD t Vx.zero).q w
    rwa [decide_eq_false hno] at this
  refine EW.ctEnter [10, 20, 30, 40, 50, 60, 70, 80, 90, 100, 110, 120, 130, 140, 150, 160, 170, 180, 190, 200, 210, 220, 230, 240, 250, 260, 270, 280, 290, 300, 310, 320, 330, 340, 350, 360, 370, 380, 390, 400, 410, 420, 430, 440, 450, 460, 470, 480, 490, 500, 510, 520, 530, 540, 550, 560, 570, 580, 590, 600] Try.func19 rfl Try.ntmps19 rfl (by (((repeat (first | exact EW.NL.emp | (refine EW.NL.upd ?_ rfl) | refine EW.NL.drp ?_ | refine EW.NL.hp ?_ | refine EW.NL.argS ?_ | refine EW.NL.mix ?_)); (first | done | fail)))) ?_; intro w0 tch ini R hR
  all_goals try (refine EW.nm ?_)
  all_goals try ((first | refine EW.eRegL (id := 0) ?_ | refine EW.eReg (id := 0) ?_); refine EW.eAssign ?_; refine EW.eAssign ?_; refine EW.eEnd ?_; (try refine EW.nm ?_))
  all_goals try ((first | refine EW.eRegL (id := 1) ?_ | refine EW.eReg (id := 1) ?_); refine EW.eMove ?_; refine EW.eLss ?_; refine EW.eMove ?_)
  all_goals try (refine EW.eGuard (j := 2) (o := ⟨some 11, _, _, _, _, _⟩) ?_ ?_ <;> (intro hb hb'; (try dsimp only at hb'); (try (exfalso; first | omega | with_reducible exact absurd rfl hb'))))
  all_goals try ((first | refine EW.eSkipF (j := 2) ?_ | refine EW.eSkipU (j := 2) ?_ | refine EW.eMove ?_); (first | refine EW.eSkipF (j := 2) ?_ | refine EW.eSkipU (j := 2) ?_ | refine EW.eGtr ?_); (first | refine EW.ePickT ?_ | refine EW.ePickF ?_); refine EW.eMove ?_)
  all_goals try (refine EW.eGuard (j := 6) (o := ⟨some 15, _, _, _, _, _⟩) ?_ ?_ <;> (intro hb hb'; (try dsimp only at hb'); (try (exfalso; first | omega | with_reducible exact absurd rfl hb'))))
  all_goals try ((first | refine EW.eSkipF (j := 6) ?_ | refine EW.eSkipU (j := 6) ?_ | refine EW.eMove ?_); (first | refine EW.eSkipF (j := 6) ?_ | refine EW.eSkipU (j := 6) ?_ | refine EW.eLenS ?_ | refine EW.eLenG ?_ | refine EW.eLenN ?_); (first | refine EW.eSkipF (j := 6) ?_ | refine EW.eSkipU (j := 6) ?_ | refine EW.eGtr ?_); (first | refine EW.ePickT ?_ | refine EW.ePickF ?_); refine EW.eEnd ?_; (try refine EW.nm ?_))
  all_goals try (first | refine EW.eYes (x := Operand.tmp 18) ?_ | refine EW.eNo (x := Operand.tmp 18) ?_ | (refine EW.eCond (x := Operand.tmp 18) ?_ ?_ <;> (intro hb hb'; (try dsimp only at hb'); (try (exfalso; first | omega | with_reducible exact absurd rfl hb')))))
  all_goals try (refine EW.nm ?_)
  all_goals try ((first | refine EW.eRegL (id := 2) ?_ | refine EW.eReg (id := 2) ?_); refine EW.eAssign ?_; refine EW.eAssign ?_; refine EW.eEnd ?_; (try refine EW.nm ?_))
  all_goals try ((first | refine EW.eRegL (id := 3) ?_ | refine EW.eReg (id := 3) ?_); refine EW.eAssign ?_; refine EW.eEnd ?_; (try refine EW.nm ?_))
  all_goals first | (fail_if_success (refine EW.eUnroll 1 ?_)) | (refine EW.eLoopD [4, 5, 6, 7, 19, 20, 21, 22, 23, 24, 25, 26, 27, 28, 29, 30, 31] 1000000 (fun j : {i : Nat // i ≤ t} => [(.t 6, .v (.c (.v (.int .i64 j.1))))]) (fun j => t - j.1) (⟨0, by omega⟩) (by ((repeat (first | exact EW.subW.nil | refine EW.subW.cons rfl ?_ | refine EW.subW.conv rfl ?_)); (first | done | fail))) ?_; rintro hcl4 ⟨i, hi⟩; (try dsimp only))
  all_goals try (refine EW.nm ?_)
  all_goals try ((first | refine EW.eRegL (id := 4) ?_ | refine EW.eReg (id := 4) ?_); refine EW.eMove ?_; refine EW.eMove ?_; (first | refine EW.eLenS ?_ | refine EW.eLenG ?_ | refine EW.eLenN ?_); refine EW.eLss ?_; refine EW.eEnd ?_; (try refine EW.nm ?_))
  all_goals try (first | refine EW.eYes (x := Operand.tmp 22) ?_ | refine EW.eNo (x := Operand.tmp 22) ?_ | (refine EW.eCond (x := Operand.tmp 22) ?_ ?_ <;> (intro hb hb'; (try dsimp only at hb'); (try (exfalso; first | omega | with_reducible exact absurd rfl hb')))))
  all_goals try (refine EW.nm ?_)
  all_goals (try (rcases Nat.lt_or_ge i t with hit | hit; rotate_left; (obtain rfl : i = t := (by omega)); rotate_left))
  all_goals try ((first | refine EW.eRegL (id := 6) ?_ | refine EW.eReg (id := 6) ?_); refine EW.eMove ?_; refine EW.eMove ?_; (first | refine EW.eIndexAddrS (z := 4) ?_ | refine EW.eIndexAddrG (z := 4) ?_); refine EW.eLoadA (k := 4) ?_; (first | refine EW.eCall Try.call21 (fun w => hM i (by omega) w) ?_ | refine EW.eCall Try.call21 (fun w => hN w) ?_); refine EW.eAssign ?_; refine EW.eEnd ?_; (try refine EW.nm ?_))
  all_goals try ((first | refine EW.eRegL (id := 7) ?_ | refine EW.eReg (id := 7) ?_); refine EW.eMove ?_; refine EW.eNot ?_; refine EW.eEnd ?_; (try refine EW.nm ?_))
  all_goals try (first | refine EW.eYes (x := Operand.tmp 31) ?_ | refine EW.eNo (x := Operand.tmp 31) ?_ | (refine EW.eCond (x := Operand.tmp 31) ?_ ?_ <;> (intro hb hb'; (try dsimp only at hb'); (try (exfalso; first | omega | with_reducible exact absurd rfl hb')))))
  all_goals try (refine EW.nm ?_)
  all_goals try ((first | refine EW.eRegL (id := 8) ?_ | refine EW.eReg (id := 8) ?_); refine EW.eAssign ?_; refine EW.eAssign ?_; refine EW.eEnd ?_; (try refine EW.nm ?_))
  all_goals try ((first | refine EW.eRegL (id := 5) ?_ | refine EW.eReg (id := 5) ?_); refine EW.eMove ?_; refine EW.eAdd ?_; refine EW.eAssign ?_; refine EW.eEnd ?_; (try refine EW.nm ?_))
  all_goals first | (fail_if_success (with_reducible refine EW.isLater ?_)) | (refine EW.eLaterD (⟨i + 1, by omega⟩) (by dsimp only; omega) (by ((repeat (first | exact EW.subW.nil | refine EW.subW.cons rfl ?_ | refine EW.subW.conv rfl ?_)); (first | done | fail))) hcl4)
  all_goals try (refine EW.nm ?_)
  all_goals try ((first | refine EW.eRegL (id := 9) ?_ | refine EW.eReg (id := 9) ?_); refine EW.eMove ?_; refine EW.eMove ?_; fail "no contract of mullion/mullionref09.cut"; refine EW.eAssign ?_; refine EW.eAssign ?_; refine EW.eEnd ?_; (try refine EW.nm ?_))
  all_goals (refine EW.eLeaveN [] hR (by first | exact .inl rfl | exact .inr rfl) (by rfl) (by rfl) ?_ ?_ rfl rfl (by (((repeat (first | exact EW.NL.emp | (refine EW.NL.upd ?_ rfl) | refine EW.NL.drp ?_ | refine EW.NL.hp ?_ | refine EW.NL.argS ?_ | refine EW.NL.mix ?_)); (first | done | fail)))) rfl rfl; rotate_left 1; (· ((repeat (first | exact EW.atE.nil | refine EW.atE.lt rfl ?_ | refine EW.atE.lf ?_ | refine EW.atE.b rfl EW.SameB.refl ?_ | (refine EW.atE.b rfl ?_ ?_; rotate_left 1))))))
  all_goals rfl
end Go.Proofs.Ytleelfdpefmnnaa
