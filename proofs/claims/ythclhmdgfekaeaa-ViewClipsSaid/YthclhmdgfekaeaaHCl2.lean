/- Package clip: crossings. -/
import Derived.Test.YthclhmdgfekaeaaHCl1
namespace Go.Proofs.Ythclhmdgfekaeaa
set_option linter.unusedSimpArgs false
set_option linter.unusedVariables false
open Go.RowKit EV
open SX (Wr Tv Qu Rm Sh Is conjP eqs_iff eqs_false)
open EW (PlL PlT PlV PlVs LfV Mm Bt Opn GV nums)
set_option maxRecDepth 20000
def cq (D P C : Int) : Int := D * P / C
theorem cq_bd {D P C : Int} (h0 : 0 ≤ P) (h1 : P < C) : (0 ≤ D ∧ 0 ≤ cq D P C ∧ cq D P C ≤ D) ∨ (D ≤ 0 ∧ D ≤ cq D P C ∧ cq D P C ≤ 0) := by
  have hC : 0 < C := by omega
  have hle : P ≤ C := by omega
  unfold cq
  rcases Int.le_total 0 D with hD | hD
  · exact .inl ⟨hD, Int.ediv_nonneg (Int.mul_nonneg hD h0) (by omega), Int.ediv_le_of_le_mul hC (Int.mul_le_mul_of_nonneg_left hle hD)⟩
  · refine .inr ⟨hD, Int.le_ediv_of_mul_le hC (Int.mul_le_mul_of_nonpos_left hD hle), ?_⟩
    have : D * P ≤ 0 := Int.mul_nonpos_of_nonpos_of_nonneg hD h0
    exact Int.ediv_le_of_le_mul hC (by omega)
theorem cmd (D P C : Int) (w : World) (h0 : 0 ≤ P) (h1 : P < C) (h2 : C ≤ 70368744177664) (d0 : -35184372088832 ≤ D) (d1 : D ≤ 35184372088832) : Calls Try.prog 58 #[.int .i64 D, .int .i64 P, .int .i64 C] w fun e w' => e = .returned (.tuple #[.int .i64 (cq D P C), .int .i64 0]) ∧ Below w.heap.size w w' := by
  have hc := cq_bd (D := D) h0 h1
  have hf : (D * P).fdiv C = cq D P C := Int.fdiv_eq_ediv_of_nonneg _ (by omega)
  have hin : In128 (cq D P C) := by constructor <;> omega
  have hn : C ≠ 0 := by omega
  have h := wmuldiv D P C w (by omega) (by omega) (by omega) (by omega) (by omega) (by omega)
  have hE : dE (D * P) C = 0 := by unfold dE; rw [if_neg hn, hf, if_pos hin]
  have hQ : dQ (D * P) C = cq D P C := by unfold dQ; rw [if_neg hn, hf, if_pos hin]
  unfold mdV mdE iV iE at h
  rw [hE, hQ] at h
  simp only [if_true] at h
  rw [if_pos (by omega), if_pos (by omega)] at h
  exact h
theorem ds_bd (p x y z q : Int) (h : Sm4 x y z q) : -26388279070720 ≤ dsV p x y z q ∧ dsV p x y z q ≤ 26388279070720 := by
  obtain ⟨⟨x0, x1⟩, ⟨y0, y1⟩, ⟨z0, z1⟩, ⟨q0, q1⟩⟩ := h
  unfold dsV
  repeat' split
  all_goals omega
theorem ccross (p a0 a1 a2 a3 b0 b1 b2 b3 P Q : Int) (w : World) (ha : Sm4 a0 a1 a2 a3) (hB : Sm4 b0 b1 b2 b3) (hP : dsV p a0 a1 a2 a3 = P) (hQ : dsV p b0 b1 b2 b3 = Q) (h0 : 0 ≤ P) (h1 : Q < 0) :
    Calls Try.prog 57 #[.int .i64 p, V4 a0 a1 a2 a3, V4 b0 b1 b2 b3] w fun e w' => e = .returned (V4 (a0 + cq (b0 - a0) P (P - Q)) (a1 + cq (b1 - a1) P (P - Q)) (a2 + cq (b2 - a2) P (P - Q)) (a3 + cq (b3 - a3) P (P - Q))) ∧ Below w.heap.size w w' := by
  have hda := fun w => cdist p a0 a1 a2 a3 w ha
  have hdb := fun w => cdist p b0 b1 b2 b3 w hB
  have p1 := ds_bd p a0 a1 a2 a3 ha
  have q1 := ds_bd p b0 b1 b2 b3 hB
  rw [hP] at hda p1
  rw [hQ] at hdb q1
  clear hP hQ
  obtain ⟨⟨x0, x1⟩, ⟨y0, y1⟩, ⟨z0, z1⟩, ⟨u0, u1⟩⟩ := ha
  obtain ⟨⟨x2, x3⟩, ⟨y2, y3⟩, ⟨z2, z3⟩, ⟨u2, u3⟩⟩ := hB
  have m0 := fun w => cmd (b0 - a0) P (P - Q) w (by omega) (by omega) (by omega) (by omega) (by omega)
  have m1 := fun w => cmd (b1 - a1) P (P - Q) w (by omega) (by omega) (by omega) (by omega) (by omega)
  have m2 := fun w => cmd (b2 - a2) P (P - Q) w (by omega) (by omega) (by omega) (by omega) (by omega)
  have m3 := fun w => cmd (b3 - a3) P (P - Q) w (by omega) (by omega) (by omega) (by omega) (by omega)
  have k0 := cq_bd (D := b0 - a0) (P := P) (C := P - Q) (by omega) (by omega)
  have k1 := cq_bd (D := b1 - a1) (P := P) (C := P - Q) (by omega) (by omega)
  have k2 := cq_bd (D := b2 - a2) (P := P) (C := P - Q) (by omega) (by omega)
  have k3 := cq_bd (D := b3 - a3) (P := P) (C := P - Q) (by omega) (by omega)
  generalize cq (b0 - a0) P (P - Q) = c0 at *
  generalize cq (b1 - a1) P (P - Q) = c1 at *
  generalize cq (b2 - a2) P (P - Q) = c2 at *
  generalize cq (b3 - a3) P (P - Q) = c3 at *
  refine EW.eEnter Try.func57 rfl Try.ntmps57 ?_
  all_goals try (refine EW.nm ?_)
  all_goals try ((first | refine EW.eRegL (id := 0) ?_ | refine EW.eReg (id := 0) ?_); refine EW.eBox ?_; refine EW.eBox ?_; refine EW.eAlloc ?_; refine EW.eEnd ?_; (try refine EW.nm ?_))
  all_goals try ((first | refine EW.eRegL (id := 1) ?_ | refine EW.eReg (id := 1) ?_); refine EW.eMove ?_; refine EW.eLoadA (k := 4) ?_; (first | refine EW.eCall Try.call56 (fun w => hda w) ?_ | refine EW.eCall Try.call56 (fun w => hdb w) ?_); refine EW.eMove ?_; refine EW.eLoadA (k := 4) ?_; (first | refine EW.eCall Try.call56 (fun w => hda w) ?_ | refine EW.eCall Try.call56 (fun w => hdb w) ?_); refine EW.eAssign ?_; refine EW.eAssign ?_; refine EW.eDraw ?_; (try refine EW.nm ?_))
  all_goals try ((first | refine EW.eRegL (id := 2) ?_ | refine EW.eReg (id := 2) ?_); refine EW.eMove ?_; refine EW.eEnd ?_; (try refine EW.nm ?_))
  all_goals try (refine EW.eUnroll 5 ?_)
  all_goals try (refine EW.nm ?_)
  iterate 5 (
    all_goals try ((first | refine EW.eRegL (id := 3) ?_ | refine EW.eReg (id := 3) ?_); refine EW.eLss ?_; refine EW.eEnd ?_; (try refine EW.nm ?_))
    all_goals try (first | refine EW.eYes (x := Operand.tmp 19) ?_ | refine EW.eNo (x := Operand.tmp 19) ?_ | (refine EW.eCond (x := Operand.tmp 19) ?_ ?_ <;> (intro hb hb'; (try dsimp only at hb'); (try (exfalso; first | omega | with_reducible exact absurd rfl hb')))))
    all_goals try (refine EW.nm ?_)
    all_goals try ((first | refine EW.eRegL (id := 4) ?_ | refine EW.eReg (id := 4) ?_); refine EW.eMove ?_; refine EW.eAssign ?_; refine EW.eEnd ?_; (try refine EW.nm ?_))
    all_goals try ((first | refine EW.eRegL (id := 5) ?_ | refine EW.eReg (id := 5) ?_); refine EW.eMove ?_; refine EW.eIndexAddr (z := 1) ?_; refine EW.eLoad1 ?_; refine EW.eMove ?_; refine EW.eIndexAddr (z := 1) ?_; refine EW.eLoad1 ?_; refine EW.eSub ?_; refine EW.eMove ?_; refine EW.eMove ?_; refine EW.eMove ?_; refine EW.eSub ?_; (first | refine EW.eCall Try.call58 (fun w => m0 w) ?_ | refine EW.eCall Try.call58 (fun w => m1 w) ?_ | refine EW.eCall Try.call58 (fun w => m2 w) ?_ | refine EW.eCall Try.call58 (fun w => m3 w) ?_); refine EW.eMove ?_; (first | refine EW.eExtC ?_ | refine EW.eExtA ?_); (first | refine EW.eExtC ?_ | refine EW.eExtA ?_); refine EW.eAssign ?_; refine EW.eAssign ?_; refine EW.eDraw ?_; (try refine EW.nm ?_))
    all_goals try ((first | refine EW.eRegL (id := 6) ?_ | refine EW.eReg (id := 6) ?_); refine EW.eMove ?_; refine EW.eIndexAddr (z := 1) ?_; refine EW.eLoad1 ?_; refine EW.eMove ?_; refine EW.eAdd ?_; refine EW.eIndexAddr (z := 1) ?_; (first | refine EW.eStoreW (k := 1) ?_ | refine EW.eStore (k := 1) ?_); refine EW.eEnd ?_; (try refine EW.nm ?_))
    all_goals try ((first | refine EW.eRegL (id := 7) ?_ | refine EW.eReg (id := 7) ?_); refine EW.eAdd ?_; refine EW.eMove ?_; refine EW.eEnd ?_; (try refine EW.nm ?_)))
  all_goals try ((first | refine EW.eRegL (id := 8) ?_ | refine EW.eReg (id := 8) ?_); refine EW.eLoadA (k := 4) ?_; (first | refine EW.eStoreW (k := 4) ?_ | refine EW.eStore (k := 4) ?_); refine EW.eEnd ?_; (try refine EW.nm ?_))
  all_goals try (with_reducible refine EW.parkK ?_)
  all_goals try (refine EW.Park.mk ?_)
  all_goals (refine EW.eLeaveP ?_; intro w' hW; refine ⟨?_, hW⟩)
  all_goals rfl
end Go.Proofs.Ythclhmdgfekaeaa
