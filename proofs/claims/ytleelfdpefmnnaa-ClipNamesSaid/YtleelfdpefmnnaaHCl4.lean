/- ClipEdges: the walk. -/
import Derived.Test.YtleelfdpefmnnaaHCl3
namespace Go.Proofs.Ytleelfdpefmnnaa
set_option linter.unusedSimpArgs false
set_option linter.unusedVariables false
open Go.RowKit EV
open SX (Wr Tv Qu Rm Sh Is conjP eqs_iff eqs_false)
open EW (PlL PlT PlV PlVs LfV Mm Bt Opn GV nums)
set_option maxRecDepth 20000
theorem dst_ok (p x y z q : Int) (p0 : 0 ≤ p) (p1 : p < 7) (h : Sm4 x y z q) : DST p (V4 x y z q) (dsV p x y z q) 0 := fun w => by
  have := cDist p x y z q w p0 p1
  rwa [if_pos h, if_pos h] at this
theorem dst_no (p x y z q : Int) (p0 : 0 ≤ p) (p1 : p < 7) (h : ¬ Sm4 x y z q) : DST p (V4 x y z q) 0 90 := fun w => by
  have := cDist p x y z q w p0 p1
  rwa [if_neg h, if_neg h] at this
theorem crs_pos (p a0 a1 a2 a3 b0 b1 b2 b3 : Int) (p0 : 0 ≤ p) (p1 : p < 7) (ha : Sm4 a0 a1 a2 a3) (hB : Sm4 b0 b1 b2 b3) (P Q : Int) (hP : dsV p a0 a1 a2 a3 = P) (hQ : dsV p b0 b1 b2 b3 = Q) (h0 : 0 ≤ P) (h1 : Q < 0) :
    CRS p (V4 a0 a1 a2 a3) (V4 b0 b1 b2 b3) (V4 (a0 + cq (b0 - a0) P (P - Q)) (a1 + cq (b1 - a1) P (P - Q)) (a2 + cq (b2 - a2) P (P - Q)) (a3 + cq (b3 - a3) P (P - Q))) 0 :=
  Cross_pos p _ _ _ _ _ _ _ _ P Q _ _ _ _ (hP ▸ dst_ok p _ _ _ _ p0 p1 ha) (hQ ▸ dst_ok p _ _ _ _ p0 p1 hB) h0 h1 fun w => ccross p _ _ _ _ _ _ _ _ P Q w ha hB hP hQ h0 h1
theorem calive (w : World) : Calls Try.prog 9 #[] w fun e w' => e = .returned (.bool true) ∧ Below w.heap.size w w' := by
  have h1 : DST 0 (V4 0 0 0 4096) 0 0 := dst_ok 0 0 0 0 4096 (by omega) (by omega) (by omega)
  have h2 : DST 4 (V4 5 0 0 2) (-1) 0 := dst_ok 4 5 0 0 2 (by omega) (by omega) (by omega)
  have h3 : CRS 1 (V4 9 0 1 1) (V4 0 0 (-2) 1) (V4 6 0 0 1) 0 := crs_pos 1 9 0 1 1 0 0 (-2) 1 (by omega) (by omega) (by omega) (by omega) 1 (-2) rfl rfl (by omega) (by omega)
  refine EW.eEnter Try.func9 rfl Try.ntmps9 ?_
  all_goals try (refine EW.nm ?_)
  all_goals try ((first | refine EW.eRegL (id := 0) ?_ | refine EW.eReg (id := 0) ?_); refine EW.eAssign ?_; refine EW.eEnd ?_; (try refine EW.nm ?_))
  all_goals try ((first | refine EW.eRegL (id := 1) ?_ | refine EW.eReg (id := 1) ?_); refine EW.eBuild (place := fun i => some (i * 1, 1)) ?_; (first | refine EW.eCall Try.call11 (fun w => h1 w) ?_ | refine EW.eCall Try.call11 (fun w => h2 w) ?_); refine EW.eMove ?_; (first | refine EW.eExtC ?_ | refine EW.eExtA ?_); (first | refine EW.eExtC ?_ | refine EW.eExtA ?_); refine EW.eAssign ?_; refine EW.eAssign ?_; refine EW.eEnd ?_; (try refine EW.nm ?_))
  all_goals try ((first | refine EW.eRegL (id := 2) ?_ | refine EW.eReg (id := 2) ?_); refine EW.eBuild (place := fun i => some (i * 1, 1)) ?_; (first | refine EW.eCall Try.call11 (fun w => h1 w) ?_ | refine EW.eCall Try.call11 (fun w => h2 w) ?_); refine EW.eMove ?_; (first | refine EW.eExtC ?_ | refine EW.eExtA ?_); (first | refine EW.eExtC ?_ | refine EW.eExtA ?_); refine EW.eAssign ?_; refine EW.eAssign ?_; refine EW.eEnd ?_; (try refine EW.nm ?_))
  all_goals try ((first | refine EW.eRegL (id := 3) ?_ | refine EW.eReg (id := 3) ?_); refine EW.eBuild (place := fun i => some (i * 1, 1)) ?_; refine EW.eBuild (place := fun i => some (i * 1, 1)) ?_; refine EW.eCall Try.call10 (fun w => h3 w) ?_; refine EW.eMove ?_; (first | refine EW.eExtC ?_ | refine EW.eExtA ?_); (first | refine EW.eExtC ?_ | refine EW.eExtA ?_); refine EW.eAlloc ?_; (first | refine EW.eStoreW (k := 4) ?_ | refine EW.eStore (k := 4) ?_); refine EW.eAssign ?_; refine EW.eEnd ?_; (try refine EW.nm ?_))
  all_goals try ((first | refine EW.eRegL (id := 4) ?_ | refine EW.eReg (id := 4) ?_); refine EW.eMove ?_; refine EW.eEql ?_; refine EW.eMove ?_)
  all_goals try (refine EW.eGuard (j := 2) (o := ⟨some 26, _, _, _, _, _⟩) ?_ ?_ <;> (intro hb hb'; (try dsimp only at hb'); (try (exfalso; first | omega | with_reducible exact absurd rfl hb'))))
  all_goals try ((first | refine EW.eSkipT (j := 2) ?_ | refine EW.eSkipU (j := 2) ?_ | refine EW.eMove ?_); (first | refine EW.eSkipT (j := 2) ?_ | refine EW.eSkipU (j := 2) ?_ | refine EW.eEql ?_); (first | refine EW.ePickT ?_ | refine EW.ePickF ?_); refine EW.eMove ?_)
  all_goals try (refine EW.eGuard (j := 6) (o := ⟨some 30, _, _, _, _, _⟩) ?_ ?_ <;> (intro hb hb'; (try dsimp only at hb'); (try (exfalso; first | omega | with_reducible exact absurd rfl hb'))))
  all_goals try ((first | refine EW.eSkipT (j := 6) ?_ | refine EW.eSkipU (j := 6) ?_ | refine EW.eMove ?_); (first | refine EW.eSkipT (j := 6) ?_ | refine EW.eSkipU (j := 6) ?_ | refine EW.eEql ?_); (first | refine EW.ePickT ?_ | refine EW.ePickF ?_); refine EW.eMove ?_)
  all_goals try (refine EW.eGuard (j := 10) (o := ⟨some 34, _, _, _, _, _⟩) ?_ ?_ <;> (intro hb hb'; (try dsimp only at hb'); (try (exfalso; first | omega | with_reducible exact absurd rfl hb'))))
  all_goals try ((first | refine EW.eSkipT (j := 10) ?_ | refine EW.eSkipU (j := 10) ?_ | refine EW.eMove ?_); (first | refine EW.eSkipT (j := 10) ?_ | refine EW.eSkipU (j := 10) ?_ | refine EW.eEql ?_); (first | refine EW.ePickT ?_ | refine EW.ePickF ?_); refine EW.eMove ?_)
  all_goals try (refine EW.eGuard (j := 14) (o := ⟨some 38, _, _, _, _, _⟩) ?_ ?_ <;> (intro hb hb'; (try dsimp only at hb'); (try (exfalso; first | omega | with_reducible exact absurd rfl hb'))))
  all_goals try ((first | refine EW.eSkipT (j := 14) ?_ | refine EW.eSkipU (j := 14) ?_ | refine EW.eLoadA (k := 4) ?_); (first | refine EW.eSkipT (j := 14) ?_ | refine EW.eSkipU (j := 14) ?_ | refine EW.eBuild (place := fun i => some (i * 1, 1)) ?_); (first | refine EW.eSkipT (j := 14) ?_ | refine EW.eSkipU (j := 14) ?_ | refine EW.eEqlA ?_); (first | refine EW.ePickT ?_ | refine EW.ePickF ?_); refine EW.eMove ?_)
  all_goals try (refine EW.eGuard (j := 19) (o := ⟨some 43, _, _, _, _, _⟩) ?_ ?_ <;> (intro hb hb'; (try dsimp only at hb'); (try (exfalso; first | omega | with_reducible exact absurd rfl hb'))))
  all_goals try ((first | refine EW.eSkipT (j := 19) ?_ | refine EW.eSkipU (j := 19) ?_ | refine EW.eMove ?_); (first | refine EW.eSkipT (j := 19) ?_ | refine EW.eSkipU (j := 19) ?_ | refine EW.eEql ?_); (first | refine EW.ePickT ?_ | refine EW.ePickF ?_); refine EW.eAssign ?_; refine EW.eEnd ?_; (try refine EW.nm ?_))
  all_goals (refine EW.eLeaveP ?_; intro w' hW; refine ⟨?_, hW⟩)
  all_goals rfl
abbrev Btw (a b x : Int) : Prop := (a ≤ x ∧ x ≤ b) ∨ (b ≤ x ∧ x ≤ a)
theorem btw {a b P Q : Int} (h0 : 0 ≤ P) (h1 : Q < 0) : Btw a b (a + cq (b - a) P (P - Q)) := by
  have := cq_bd (D := b - a) (P := P) (C := P - Q) h0 (by omega)
  unfold Btw; omega
theorem sm_btw {a b x : Int} (ha : Sm a) (hB : Sm b) (h : Btw a b x) : Sm x := by unfold Btw at h; unfold Sm at *; omega
end Go.Proofs.Ytleelfdpefmnnaa
