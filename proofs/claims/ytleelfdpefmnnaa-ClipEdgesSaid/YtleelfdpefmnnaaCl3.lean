/- Package clip: Cross; a crossing lies near its plane. -/
import Derived.Test.YtleelfdpefmnnaaCl2
namespace Go.Proofs.Ytleelfdpefmnnaa
set_option linter.unusedSimpArgs false
set_option linter.unusedVariables false
open Go.RowKit EV
open SX (Wr Tv Qu Rm Sh Is conjP eqs_iff eqs_false)
open EW (PlL PlT PlV PlVs LfV Mm Bt Opn GV nums)
set_option maxRecDepth 20000
theorem small {D C r : Int} (hC : 0 < C) (h : D * C = -r) (h1 : r < 3 * C) (h2 : -(3 * C) < r) : -2 ≤ D ∧ D ≤ 2 := by
  constructor
  · rcases Int.lt_or_le D (-2) with h' | h'
    · have : D * C ≤ -3 * C := Int.mul_le_mul_of_nonneg_right (by omega) (by omega)
      omega
    · exact h'
  · rcases Int.lt_or_le 2 D with h' | h'
    · have : 3 * C ≤ D * C := Int.mul_le_mul_of_nonneg_right (by omega) (by omega)
      omega
    · exact h'
theorem cq_mul (D P C : Int) (hC : 0 < C) : ∃ r, cq D P C * C = D * P - r ∧ 0 ≤ r ∧ r < C :=
  ⟨D * P % C, by have := Int.mul_ediv_add_emod (D * P) C; unfold cq; rw [Int.mul_comm]; omega, Int.emod_nonneg _ (by omega), Int.emod_lt_of_pos _ hC⟩
theorem near0 {a b c P Q r : Int} (hP : a - 4096 = P) (hQ : b - 4096 = Q) (e : c * (P - Q) = (b - a) * P - r) : (a + c - 4096) * (P - Q) = -r := by grind
theorem near1 {a b c P Q r : Int} (hP : a = P) (hQ : b = Q) (e : c * (P - Q) = (b - a) * P - r) : (a + c) * (P - Q) = -r := by grind
theorem near2 {a0 b0 a3 b3 c0 c3 P Q r0 r3 : Int} (hP : a3 - a0 = P) (hQ : b3 - b0 = Q) (e0 : c0 * (P - Q) = (b0 - a0) * P - r0) (e3 : c3 * (P - Q) = (b3 - a3) * P - r3) : ((a3 + c3) - (a0 + c0)) * (P - Q) = -(r3 - r0) := by grind
theorem near3 {a0 b0 a3 b3 c0 c3 P Q r0 r3 : Int} (hP : a0 + 2 * a3 = P) (hQ : b0 + 2 * b3 = Q) (e0 : c0 * (P - Q) = (b0 - a0) * P - r0) (e3 : c3 * (P - Q) = (b3 - a3) * P - r3) : ((a0 + c0) + 2 * (a3 + c3)) * (P - Q) = -(r0 + 2 * r3) := by grind
theorem near4 {a0 b0 a3 b3 c0 c3 P Q r0 r3 : Int} (hP : 2 * a3 - a0 = P) (hQ : 2 * b3 - b0 = Q) (e0 : c0 * (P - Q) = (b0 - a0) * P - r0) (e3 : c3 * (P - Q) = (b3 - a3) * P - r3) : (2 * (a3 + c3) - (a0 + c0)) * (P - Q) = -(2 * r3 - r0) := by grind
theorem ds_near (p a0 a1 a2 a3 b0 b1 b2 b3 P Q : Int) (hP : dsV p a0 a1 a2 a3 = P) (hQ : dsV p b0 b1 b2 b3 = Q) (h0 : 0 ≤ P) (h1 : Q < 0) :
    -2 ≤ dsV p (a0 + cq (b0 - a0) P (P - Q)) (a1 + cq (b1 - a1) P (P - Q)) (a2 + cq (b2 - a2) P (P - Q)) (a3 + cq (b3 - a3) P (P - Q)) ∧ dsV p (a0 + cq (b0 - a0) P (P - Q)) (a1 + cq (b1 - a1) P (P - Q)) (a2 + cq (b2 - a2) P (P - Q)) (a3 + cq (b3 - a3) P (P - Q)) ≤ 2 := by
  have hC : 0 < P - Q := by omega
  obtain ⟨r0, e0, l0, u0⟩ := cq_mul (b0 - a0) P (P - Q) hC
  obtain ⟨r1, e1, l1, u1⟩ := cq_mul (b1 - a1) P (P - Q) hC
  obtain ⟨r2, e2, l2, u2⟩ := cq_mul (b2 - a2) P (P - Q) hC
  obtain ⟨r3, e3, l3, u3⟩ := cq_mul (b3 - a3) P (P - Q) hC
  generalize cq (b0 - a0) P (P - Q) = c0 at *
  generalize cq (b1 - a1) P (P - Q) = c1 at *
  generalize cq (b2 - a2) P (P - Q) = c2 at *
  generalize cq (b3 - a3) P (P - Q) = c3 at *
  unfold dsV at *
  by_cases g0 : p = 0
  · rw [if_pos g0] at *; exact small hC (near0 hP hQ e3) (by omega) (by omega)
  rw [if_neg g0] at *
  by_cases g1 : p = 1
  · rw [if_pos g1] at *; exact small hC (near1 hP hQ e2) (by omega) (by omega)
  rw [if_neg g1] at *
  by_cases g2 : p = 2
  · rw [if_pos g2] at *; exact small hC (near2 hP hQ e2 e3) (by omega) (by omega)
  rw [if_neg g2] at *
  by_cases g5 : p = 5
  · rw [if_pos g5] at *; exact small hC (near3 hP hQ e1 e3) (by omega) (by omega)
  rw [if_neg g5] at *
  by_cases g3 : p = 3
  · rw [if_pos g3] at *; exact small hC (near3 hP hQ e0 e3) (by omega) (by omega)
  rw [if_neg g3] at *
  by_cases g6 : p = 6
  · rw [if_pos g6] at *; exact small hC (near4 hP hQ e1 e3) (by omega) (by omega)
  rw [if_neg g6] at *
  exact small hC (near4 hP hQ e0 e3) (by omega) (by omega)
abbrev I (n : Int) : Value := .int .i64 n
abbrev CRS (p : Int) (A B X : Value) (e : Int) : Prop := ∀ w : World, Calls Try.prog 10 #[I p, A, B] w fun x w' => x = .returned (.tuple #[X, I e]) ∧ Below w.heap.size w w'
abbrev DST (p : Int) (A : Value) (d e : Int) : Prop := ∀ w : World, Calls Try.prog 11 #[I p, A] w fun x w' => x = .returned (.tuple #[I d, I e]) ∧ Below w.heap.size w w'
abbrev CRO (p : Int) (A B X : Value) : Prop := ∀ w : World, Calls Try.prog 22 #[I p, A, B] w fun x w' => x = .returned X ∧ Below w.heap.size w w'
theorem Cross_e1 (p a0 a1 a2 a3 b0 b1 b2 b3 d f g : Int) (hA : DST p (V4 a0 a1 a2 a3) d 90) (hB : DST p (V4 b0 b1 b2 b3) f g) : CRS p (V4 a0 a1 a2 a3) (V4 b0 b1 b2 b3) (V4 0 0 0 0) 90 := by
  intro w
  refine EW.eEnter Try.func10 rfl Try.ntmps10 ?_
  all_goals try (refine EW.nm ?_)
  all_goals try ((first | refine EW.eRegL (id := 0) ?_ | refine EW.eReg (id := 0) ?_); refine EW.eBox ?_; refine EW.eBox ?_; refine EW.eAlloc ?_; refine EW.eAssign ?_; refine EW.eEnd ?_; (try refine EW.nm ?_))
  all_goals try ((first | refine EW.eRegL (id := 1) ?_ | refine EW.eReg (id := 1) ?_); refine EW.eMove ?_; refine EW.eLoadA (k := 4) ?_; (first | refine EW.eCall Try.call11 (fun w => hA w) ?_ | refine EW.eCall Try.call11 (fun w => hB w) ?_); refine EW.eMove ?_; (first | refine EW.eExtC ?_ | refine EW.eExtA ?_); (first | refine EW.eExtC ?_ | refine EW.eExtA ?_); refine EW.eAssign ?_; refine EW.eAssign ?_; refine EW.eEnd ?_; (try refine EW.nm ?_))
  all_goals try ((first | refine EW.eRegL (id := 2) ?_ | refine EW.eReg (id := 2) ?_); refine EW.eMove ?_; refine EW.eLoadA (k := 4) ?_; (first | refine EW.eCall Try.call11 (fun w => hA w) ?_ | refine EW.eCall Try.call11 (fun w => hB w) ?_); refine EW.eMove ?_; (first | refine EW.eExtC ?_ | refine EW.eExtA ?_); (first | refine EW.eExtC ?_ | refine EW.eExtA ?_); refine EW.eAssign ?_; refine EW.eAssign ?_; refine EW.eEnd ?_; (try refine EW.nm ?_))
  all_goals try ((first | refine EW.eRegL (id := 3) ?_ | refine EW.eReg (id := 3) ?_); refine EW.eMove ?_; refine EW.eNeq ?_; refine EW.eAssign ?_; refine EW.eEnd ?_; (try refine EW.nm ?_))
  all_goals try (first | refine EW.eYes (x := Operand.tmp 24) ?_ | refine EW.eNo (x := Operand.tmp 24) ?_ | (refine EW.eCond (x := Operand.tmp 24) ?_ ?_ <;> (intro hb hb'; (try dsimp only at hb'); (try (exfalso; first | omega | with_reducible exact absurd rfl hb')))))
  all_goals try (refine EW.nm ?_)
  all_goals try ((first | refine EW.eRegL (id := 4) ?_ | refine EW.eReg (id := 4) ?_); refine EW.eBuild (place := fun i => some (i * 1, 1)) ?_; refine EW.eMove ?_; (first | refine EW.eStoreW (k := 4) ?_ | refine EW.eStore (k := 4) ?_); refine EW.eAssign ?_; refine EW.eEnd ?_; (try refine EW.nm ?_))
  all_goals try ((first | refine EW.eRegL (id := 5) ?_ | refine EW.eReg (id := 5) ?_); refine EW.eMove ?_; refine EW.eNeq ?_; refine EW.eAssign ?_; refine EW.eEnd ?_; (try refine EW.nm ?_))
  all_goals try (first | refine EW.eYes (x := Operand.tmp 29) ?_ | refine EW.eNo (x := Operand.tmp 29) ?_ | (refine EW.eCond (x := Operand.tmp 29) ?_ ?_ <;> (intro hb hb'; (try dsimp only at hb'); (try (exfalso; first | omega | with_reducible exact absurd rfl hb')))))
  all_goals try (refine EW.nm ?_)
  all_goals try ((first | refine EW.eRegL (id := 6) ?_ | refine EW.eReg (id := 6) ?_); refine EW.eBuild (place := fun i => some (i * 1, 1)) ?_; refine EW.eMove ?_; (first | refine EW.eStoreW (k := 4) ?_ | refine EW.eStore (k := 4) ?_); refine EW.eAssign ?_; refine EW.eEnd ?_; (try refine EW.nm ?_))
  all_goals try ((first | refine EW.eRegL (id := 7) ?_ | refine EW.eReg (id := 7) ?_); refine EW.eMove ?_; refine EW.eLss ?_; refine EW.eMove ?_; refine EW.eLss ?_; refine EW.eEqlB ?_; refine EW.eAssign ?_; refine EW.eEnd ?_; (try refine EW.nm ?_))
  all_goals try (first | refine EW.eYes (x := Operand.tmp 34) ?_ | refine EW.eNo (x := Operand.tmp 34) ?_ | (refine EW.eCond (x := Operand.tmp 34) ?_ ?_ <;> (intro hb hb'; (try dsimp only at hb'); (try (exfalso; first | omega | with_reducible exact absurd rfl hb')))))
  all_goals try (refine EW.nm ?_)
  all_goals try ((first | refine EW.eRegL (id := 8) ?_ | refine EW.eReg (id := 8) ?_); refine EW.eBuild (place := fun i => some (i * 1, 1)) ?_; (first | refine EW.eStoreW (k := 4) ?_ | refine EW.eStore (k := 4) ?_); refine EW.eAssign ?_; refine EW.eEnd ?_; (try refine EW.nm ?_))
  all_goals try ((first | refine EW.eRegL (id := 9) ?_ | refine EW.eReg (id := 9) ?_); refine EW.eMove ?_; refine EW.eLss ?_; refine EW.eAssign ?_; refine EW.eEnd ?_; (try refine EW.nm ?_))
  all_goals try (first | refine EW.eYes (x := Operand.tmp 41) ?_ | refine EW.eNo (x := Operand.tmp 41) ?_ | (refine EW.eCond (x := Operand.tmp 41) ?_ ?_ <;> (intro hb hb'; (try dsimp only at hb'); (try (exfalso; first | omega | with_reducible exact absurd rfl hb')))))
  all_goals try (refine EW.nm ?_)
  all_goals try ((first | refine EW.eRegL (id := 10) ?_ | refine EW.eReg (id := 10) ?_); refine EW.eLoadA (k := 4) ?_; refine EW.eLoadA (k := 4) ?_; (first | refine EW.eStoreW (k := 4) ?_ | refine EW.eStore (k := 4) ?_); (first | refine EW.eStoreW (k := 4) ?_ | refine EW.eStore (k := 4) ?_); refine EW.eEnd ?_; (try refine EW.nm ?_))
  all_goals try ((first | refine EW.eRegL (id := 11) ?_ | refine EW.eReg (id := 11) ?_); refine EW.eMove ?_; refine EW.eLoadA (k := 4) ?_; refine EW.eLoadA (k := 4) ?_; fail "no contract of mullion/clip.cross"; (first | refine EW.eStoreW (k := 4) ?_ | refine EW.eStore (k := 4) ?_); refine EW.eAssign ?_; refine EW.eEnd ?_; (try refine EW.nm ?_))
  all_goals (refine EW.eLeaveP ?_; intro w' hW; refine ⟨?_, hW⟩)
  all_goals rfl
theorem Cross_e2 (p a0 a1 a2 a3 b0 b1 b2 b3 d f : Int) (hA : DST p (V4 a0 a1 a2 a3) d 0) (hB : DST p (V4 b0 b1 b2 b3) f 90) : CRS p (V4 a0 a1 a2 a3) (V4 b0 b1 b2 b3) (V4 0 0 0 0) 90 := by
  intro w
  refine EW.eEnter Try.func10 rfl Try.ntmps10 ?_
  all_goals try (refine EW.nm ?_)
  all_goals try ((first | refine EW.eRegL (id := 0) ?_ | refine EW.eReg (id := 0) ?_); refine EW.eBox ?_; refine EW.eBox ?_; refine EW.eAlloc ?_; refine EW.eAssign ?_; refine EW.eEnd ?_; (try refine EW.nm ?_))
  all_goals try ((first | refine EW.eRegL (id := 1) ?_ | refine EW.eReg (id := 1) ?_); refine EW.eMove ?_; refine EW.eLoadA (k := 4) ?_; (first | refine EW.eCall Try.call11 (fun w => hA w) ?_ | refine EW.eCall Try.call11 (fun w => hB w) ?_); refine EW.eMove ?_; (first | refine EW.eExtC ?_ | refine EW.eExtA ?_); (first | refine EW.eExtC ?_ | refine EW.eExtA ?_); refine EW.eAssign ?_; refine EW.eAssign ?_; refine EW.eEnd ?_; (try refine EW.nm ?_))
  all_goals try ((first | refine EW.eRegL (id := 2) ?_ | refine EW.eReg (id := 2) ?_); refine EW.eMove ?_; refine EW.eLoadA (k := 4) ?_; (first | refine EW.eCall Try.call11 (fun w => hA w) ?_ | refine EW.eCall Try.call11 (fun w => hB w) ?_); refine EW.eMove ?_; (first | refine EW.eExtC ?_ | refine EW.eExtA ?_); (first | refine EW.eExtC ?_ | refine EW.eExtA ?_); refine EW.eAssign ?_; refine EW.eAssign ?_; refine EW.eEnd ?_; (try refine EW.nm ?_))
  all_goals try ((first | refine EW.eRegL (id := 3) ?_ | refine EW.eReg (id := 3) ?_); refine EW.eMove ?_; refine EW.eNeq ?_; refine EW.eAssign ?_; refine EW.eEnd ?_; (try refine EW.nm ?_))
  all_goals try (first | refine EW.eYes (x := Operand.tmp 24) ?_ | refine EW.eNo (x := Operand.tmp 24) ?_ | (refine EW.eCond (x := Operand.tmp 24) ?_ ?_ <;> (intro hb hb'; (try dsimp only at hb'); (try (exfalso; first | omega | with_reducible exact absurd rfl hb')))))
  all_goals try (refine EW.nm ?_)
  all_goals try ((first | refine EW.eRegL (id := 4) ?_ | refine EW.eReg (id := 4) ?_); refine EW.eBuild (place := fun i => some (i * 1, 1)) ?_; refine EW.eMove ?_; (first | refine EW.eStoreW (k := 4) ?_ | refine EW.eStore (k := 4) ?_); refine EW.eAssign ?_; refine EW.eEnd ?_; (try refine EW.nm ?_))
  all_goals try ((first | refine EW.eRegL (id := 5) ?_ | refine EW.eReg (id := 5) ?_); refine EW.eMove ?_; refine EW.eNeq ?_; refine EW.eAssign ?_; refine EW.eEnd ?_; (try refine EW.nm ?_))
  all_goals try (first | refine EW.eYes (x := Operand.tmp 29) ?_ | refine EW.eNo (x := Operand.tmp 29) ?_ | (refine EW.eCond (x := Operand.tmp 29) ?_ ?_ <;> (intro hb hb'; (try dsimp only at hb'); (try (exfalso; first | omega | with_reducible exact absurd rfl hb')))))
  all_goals try (refine EW.nm ?_)
  all_goals try ((first | refine EW.eRegL (id := 6) ?_ | refine EW.eReg (id := 6) ?_); refine EW.eBuild (place := fun i => some (i * 1, 1)) ?_; refine EW.eMove ?_; (first | refine EW.eStoreW (k := 4) ?_ | refine EW.eStore (k := 4) ?_); refine EW.eAssign ?_; refine EW.eEnd ?_; (try refine EW.nm ?_))
  all_goals try ((first | refine EW.eRegL (id := 7) ?_ | refine EW.eReg (id := 7) ?_); refine EW.eMove ?_; refine EW.eLss ?_; refine EW.eMove ?_; refine EW.eLss ?_; refine EW.eEqlB ?_; refine EW.eAssign ?_; refine EW.eEnd ?_; (try refine EW.nm ?_))
  all_goals try (first | refine EW.eYes (x := Operand.tmp 34) ?_ | refine EW.eNo (x := Operand.tmp 34) ?_ | (refine EW.eCond (x := Operand.tmp 34) ?_ ?_ <;> (intro hb hb'; (try dsimp only at hb'); (try (exfalso; first | omega | with_reducible exact absurd rfl hb')))))
  all_goals try (refine EW.nm ?_)
  all_goals try ((first | refine EW.eRegL (id := 8) ?_ | refine EW.eReg (id := 8) ?_); refine EW.eBuild (place := fun i => some (i * 1, 1)) ?_; (first | refine EW.eStoreW (k := 4) ?_ | refine EW.eStore (k := 4) ?_); refine EW.eAssign ?_; refine EW.eEnd ?_; (try refine EW.nm ?_))
  all_goals try ((first | refine EW.eRegL (id := 9) ?_ | refine EW.eReg (id := 9) ?_); refine EW.eMove ?_; refine EW.eLss ?_; refine EW.eAssign ?_; refine EW.eEnd ?_; (try refine EW.nm ?_))
  all_goals try (first | refine EW.eYes (x := Operand.tmp 41) ?_ | refine EW.eNo (x := Operand.tmp 41) ?_ | (refine EW.eCond (x := Operand.tmp 41) ?_ ?_ <;> (intro hb hb'; (try dsimp only at hb'); (try (exfalso; first | omega | with_reducible exact absurd rfl hb')))))
  all_goals try (refine EW.nm ?_)
  all_goals try ((first | refine EW.eRegL (id := 10) ?_ | refine EW.eReg (id := 10) ?_); refine EW.eLoadA (k := 4) ?_; refine EW.eLoadA (k := 4) ?_; (first | refine EW.eStoreW (k := 4) ?_ | refine EW.eStore (k := 4) ?_); (first | refine EW.eStoreW (k := 4) ?_ | refine EW.eStore (k := 4) ?_); refine EW.eEnd ?_; (try refine EW.nm ?_))
  all_goals try ((first | refine EW.eRegL (id := 11) ?_ | refine EW.eReg (id := 11) ?_); refine EW.eMove ?_; refine EW.eLoadA (k := 4) ?_; refine EW.eLoadA (k := 4) ?_; fail "no contract of mullion/clip.cross"; (first | refine EW.eStoreW (k := 4) ?_ | refine EW.eStore (k := 4) ?_); refine EW.eAssign ?_; refine EW.eEnd ?_; (try refine EW.nm ?_))
  all_goals (refine EW.eLeaveP ?_; intro w' hW; refine ⟨?_, hW⟩)
  all_goals rfl
theorem Cross_same (p a0 a1 a2 a3 b0 b1 b2 b3 d f : Int) (hA : DST p (V4 a0 a1 a2 a3) d 0) (hB : DST p (V4 b0 b1 b2 b3) f 0) (h : d < 0 ↔ f < 0) : CRS p (V4 a0 a1 a2 a3) (V4 b0 b1 b2 b3) (V4 0 0 0 0) 2 := by
  intro w
  rcases Int.lt_or_le d 0 with h1 | h1 <;> rcases Int.lt_or_le f 0 with h2 | h2 <;> first | (exfalso; omega) | skip
  all_goals refine EW.eEnter Try.func10 rfl Try.ntmps10 ?_
  all_goals try (refine EW.nm ?_)
  all_goals try ((first | refine EW.eRegL (id := 0) ?_ | refine EW.eReg (id := 0) ?_); refine EW.eBox ?_; refine EW.eBox ?_; refine EW.eAlloc ?_; refine EW.eAssign ?_; refine EW.eEnd ?_; (try refine EW.nm ?_))
  all_goals try ((first | refine EW.eRegL (id := 1) ?_ | refine EW.eReg (id := 1) ?_); refine EW.eMove ?_; refine EW.eLoadA (k := 4) ?_; (first | refine EW.eCall Try.call11 (fun w => hA w) ?_ | refine EW.eCall Try.call11 (fun w => hB w) ?_); refine EW.eMove ?_; (first | refine EW.eExtC ?_ | refine EW.eExtA ?_); (first | refine EW.eExtC ?_ | refine EW.eExtA ?_); refine EW.eAssign ?_; refine EW.eAssign ?_; refine EW.eEnd ?_; (try refine EW.nm ?_))
  all_goals try ((first | refine EW.eRegL (id := 2) ?_ | refine EW.eReg (id := 2) ?_); refine EW.eMove ?_; refine EW.eLoadA (k := 4) ?_; (first | refine EW.eCall Try.call11 (fun w => hA w) ?_ | refine EW.eCall Try.call11 (fun w => hB w) ?_); refine EW.eMove ?_; (first | refine EW.eExtC ?_ | refine EW.eExtA ?_); (first | refine EW.eExtC ?_ | refine EW.eExtA ?_); refine EW.eAssign ?_; refine EW.eAssign ?_; refine EW.eEnd ?_; (try refine EW.nm ?_))
  all_goals try ((first | refine EW.eRegL (id := 3) ?_ | refine EW.eReg (id := 3) ?_); refine EW.eMove ?_; refine EW.eNeq ?_; refine EW.eAssign ?_; refine EW.eEnd ?_; (try refine EW.nm ?_))
  all_goals try (first | refine EW.eYes (x := Operand.tmp 24) ?_ | refine EW.eNo (x := Operand.tmp 24) ?_ | (refine EW.eCond (x := Operand.tmp 24) ?_ ?_ <;> (intro hb hb'; (try dsimp only at hb'); (try (exfalso; first | omega | with_reducible exact absurd rfl hb')))))
  all_goals try (refine EW.nm ?_)
  all_goals try ((first | refine EW.eRegL (id := 4) ?_ | refine EW.eReg (id := 4) ?_); refine EW.eBuild (place := fun i => some (i * 1, 1)) ?_; refine EW.eMove ?_; (first | refine EW.eStoreW (k := 4) ?_ | refine EW.eStore (k := 4) ?_); refine EW.eAssign ?_; refine EW.eEnd ?_; (try refine EW.nm ?_))
  all_goals try ((first | refine EW.eRegL (id := 5) ?_ | refine EW.eReg (id := 5) ?_); refine EW.eMove ?_; refine EW.eNeq ?_; refine EW.eAssign ?_; refine EW.eEnd ?_; (try refine EW.nm ?_))
  all_goals try (first | refine EW.eYes (x := Operand.tmp 29) ?_ | refine EW.eNo (x := Operand.tmp 29) ?_ | (refine EW.eCond (x := Operand.tmp 29) ?_ ?_ <;> (intro hb hb'; (try dsimp only at hb'); (try (exfalso; first | omega | with_reducible exact absurd rfl hb')))))
  all_goals try (refine EW.nm ?_)
  all_goals try ((first | refine EW.eRegL (id := 6) ?_ | refine EW.eReg (id := 6) ?_); refine EW.eBuild (place := fun i => some (i * 1, 1)) ?_; refine EW.eMove ?_; (first | refine EW.eStoreW (k := 4) ?_ | refine EW.eStore (k := 4) ?_); refine EW.eAssign ?_; refine EW.eEnd ?_; (try refine EW.nm ?_))
  all_goals try ((first | refine EW.eRegL (id := 7) ?_ | refine EW.eReg (id := 7) ?_); refine EW.eMove ?_; refine EW.eLss ?_; refine EW.eMove ?_; refine EW.eLss ?_; refine EW.eEqlB ?_; refine EW.eAssign ?_; refine EW.eEnd ?_; (try refine EW.nm ?_))
  all_goals try (first | refine EW.eYes (x := Operand.tmp 34) ?_ | refine EW.eNo (x := Operand.tmp 34) ?_ | (refine EW.eCond (x := Operand.tmp 34) ?_ ?_ <;> (intro hb hb'; (try dsimp only at hb'); (try (exfalso; first | omega | with_reducible exact absurd rfl hb')))))
  all_goals try (refine EW.nm ?_)
  all_goals try ((first | refine EW.eRegL (id := 8) ?_ | refine EW.eReg (id := 8) ?_); refine EW.eBuild (place := fun i => some (i * 1, 1)) ?_; (first | refine EW.eStoreW (k := 4) ?_ | refine EW.eStore (k := 4) ?_); refine EW.eAssign ?_; refine EW.eEnd ?_; (try refine EW.nm ?_))
  all_goals try ((first | refine EW.eRegL (id := 9) ?_ | refine EW.eReg (id := 9) ?_); refine EW.eMove ?_; refine EW.eLss ?_; refine EW.eAssign ?_; refine EW.eEnd ?_; (try refine EW.nm ?_))
  all_goals try (first | refine EW.eYes (x := Operand.tmp 41) ?_ | refine EW.eNo (x := Operand.tmp 41) ?_ | (refine EW.eCond (x := Operand.tmp 41) ?_ ?_ <;> (intro hb hb'; (try dsimp only at hb'); (try (exfalso; first | omega | with_reducible exact absurd rfl hb')))))
  all_goals try (refine EW.nm ?_)
  all_goals try ((first | refine EW.eRegL (id := 10) ?_ | refine EW.eReg (id := 10) ?_); refine EW.eLoadA (k := 4) ?_; refine EW.eLoadA (k := 4) ?_; (first | refine EW.eStoreW (k := 4) ?_ | refine EW.eStore (k := 4) ?_); (first | refine EW.eStoreW (k := 4) ?_ | refine EW.eStore (k := 4) ?_); refine EW.eEnd ?_; (try refine EW.nm ?_))
  all_goals try ((first | refine EW.eRegL (id := 11) ?_ | refine EW.eReg (id := 11) ?_); refine EW.eMove ?_; refine EW.eLoadA (k := 4) ?_; refine EW.eLoadA (k := 4) ?_; fail "no contract of mullion/clip.cross"; (first | refine EW.eStoreW (k := 4) ?_ | refine EW.eStore (k := 4) ?_); refine EW.eAssign ?_; refine EW.eEnd ?_; (try refine EW.nm ?_))
  all_goals (refine EW.eLeaveP ?_; intro w' hW; refine ⟨?_, hW⟩)
  all_goals rfl
theorem Cross_pos (p a0 a1 a2 a3 b0 b1 b2 b3 d f x0 x1 x2 x3 : Int) (hA : DST p (V4 a0 a1 a2 a3) d 0) (hB : DST p (V4 b0 b1 b2 b3) f 0) (h1 : 0 ≤ d) (h2 : f < 0) (hC : CRO p (V4 a0 a1 a2 a3) (V4 b0 b1 b2 b3) (V4 x0 x1 x2 x3)) : CRS p (V4 a0 a1 a2 a3) (V4 b0 b1 b2 b3) (V4 x0 x1 x2 x3) 0 := by
  intro w
  refine EW.eEnter Try.func10 rfl Try.ntmps10 ?_
  all_goals try (refine EW.nm ?_)
  all_goals try ((first | refine EW.eRegL (id := 0) ?_ | refine EW.eReg (id := 0) ?_); refine EW.eBox ?_; refine EW.eBox ?_; refine EW.eAlloc ?_; refine EW.eAssign ?_; refine EW.eEnd ?_; (try refine EW.nm ?_))
  all_goals try ((first | refine EW.eRegL (id := 1) ?_ | refine EW.eReg (id := 1) ?_); refine EW.eMove ?_; refine EW.eLoadA (k := 4) ?_; (first | refine EW.eCall Try.call11 (fun w => hA w) ?_ | refine EW.eCall Try.call11 (fun w => hB w) ?_); refine EW.eMove ?_; (first | refine EW.eExtC ?_ | refine EW.eExtA ?_); (first | refine EW.eExtC ?_ | refine EW.eExtA ?_); refine EW.eAssign ?_; refine EW.eAssign ?_; refine EW.eEnd ?_; (try refine EW.nm ?_))
  all_goals try ((first | refine EW.eRegL (id := 2) ?_ | refine EW.eReg (id := 2) ?_); refine EW.eMove ?_; refine EW.eLoadA (k := 4) ?_; (first | refine EW.eCall Try.call11 (fun w => hA w) ?_ | refine EW.eCall Try.call11 (fun w => hB w) ?_); refine EW.eMove ?_; (first | refine EW.eExtC ?_ | refine EW.eExtA ?_); (first | refine EW.eExtC ?_ | refine EW.eExtA ?_); refine EW.eAssign ?_; refine EW.eAssign ?_; refine EW.eEnd ?_; (try refine EW.nm ?_))
  all_goals try ((first | refine EW.eRegL (id := 3) ?_ | refine EW.eReg (id := 3) ?_); refine EW.eMove ?_; refine EW.eNeq ?_; refine EW.eAssign ?_; refine EW.eEnd ?_; (try refine EW.nm ?_))
  all_goals try (first | refine EW.eYes (x := Operand.tmp 24) ?_ | refine EW.eNo (x := Operand.tmp 24) ?_ | (refine EW.eCond (x := Operand.tmp 24) ?_ ?_ <;> (intro hb hb'; (try dsimp only at hb'); (try (exfalso; first | omega | with_reducible exact absurd rfl hb')))))
  all_goals try (refine EW.nm ?_)
  all_goals try ((first | refine EW.eRegL (id := 4) ?_ | refine EW.eReg (id := 4) ?_); refine EW.eBuild (place := fun i => some (i * 1, 1)) ?_; refine EW.eMove ?_; (first | refine EW.eStoreW (k := 4) ?_ | refine EW.eStore (k := 4) ?_); refine EW.eAssign ?_; refine EW.eEnd ?_; (try refine EW.nm ?_))
  all_goals try ((first | refine EW.eRegL (id := 5) ?_ | refine EW.eReg (id := 5) ?_); refine EW.eMove ?_; refine EW.eNeq ?_; refine EW.eAssign ?_; refine EW.eEnd ?_; (try refine EW.nm ?_))
  all_goals try (first | refine EW.eYes (x := Operand.tmp 29) ?_ | refine EW.eNo (x := Operand.tmp 29) ?_ | (refine EW.eCond (x := Operand.tmp 29) ?_ ?_ <;> (intro hb hb'; (try dsimp only at hb'); (try (exfalso; first | omega | with_reducible exact absurd rfl hb')))))
  all_goals try (refine EW.nm ?_)
  all_goals try ((first | refine EW.eRegL (id := 6) ?_ | refine EW.eReg (id := 6) ?_); refine EW.eBuild (place := fun i => some (i * 1, 1)) ?_; refine EW.eMove ?_; (first | refine EW.eStoreW (k := 4) ?_ | refine EW.eStore (k := 4) ?_); refine EW.eAssign ?_; refine EW.eEnd ?_; (try refine EW.nm ?_))
  all_goals try ((first | refine EW.eRegL (id := 7) ?_ | refine EW.eReg (id := 7) ?_); refine EW.eMove ?_; refine EW.eLss ?_; refine EW.eMove ?_; refine EW.eLss ?_; refine EW.eEqlB ?_; refine EW.eAssign ?_; refine EW.eEnd ?_; (try refine EW.nm ?_))
  all_goals try (first | refine EW.eYes (x := Operand.tmp 34) ?_ | refine EW.eNo (x := Operand.tmp 34) ?_ | (refine EW.eCond (x := Operand.tmp 34) ?_ ?_ <;> (intro hb hb'; (try dsimp only at hb'); (try (exfalso; first | omega | with_reducible exact absurd rfl hb')))))
  all_goals try (refine EW.nm ?_)
  all_goals try ((first | refine EW.eRegL (id := 8) ?_ | refine EW.eReg (id := 8) ?_); refine EW.eBuild (place := fun i => some (i * 1, 1)) ?_; (first | refine EW.eStoreW (k := 4) ?_ | refine EW.eStore (k := 4) ?_); refine EW.eAssign ?_; refine EW.eEnd ?_; (try refine EW.nm ?_))
  all_goals try ((first | refine EW.eRegL (id := 9) ?_ | refine EW.eReg (id := 9) ?_); refine EW.eMove ?_; refine EW.eLss ?_; refine EW.eAssign ?_; refine EW.eEnd ?_; (try refine EW.nm ?_))
  all_goals try (first | refine EW.eYes (x := Operand.tmp 41) ?_ | refine EW.eNo (x := Operand.tmp 41) ?_ | (refine EW.eCond (x := Operand.tmp 41) ?_ ?_ <;> (intro hb hb'; (try dsimp only at hb'); (try (exfalso; first | omega | with_reducible exact absurd rfl hb')))))
  all_goals try (refine EW.nm ?_)
  all_goals try ((first | refine EW.eRegL (id := 10) ?_ | refine EW.eReg (id := 10) ?_); refine EW.eLoadA (k := 4) ?_; refine EW.eLoadA (k := 4) ?_; (first | refine EW.eStoreW (k := 4) ?_ | refine EW.eStore (k := 4) ?_); (first | refine EW.eStoreW (k := 4) ?_ | refine EW.eStore (k := 4) ?_); refine EW.eEnd ?_; (try refine EW.nm ?_))
  all_goals try ((first | refine EW.eRegL (id := 11) ?_ | refine EW.eReg (id := 11) ?_); refine EW.eMove ?_; refine EW.eLoadA (k := 4) ?_; refine EW.eLoadA (k := 4) ?_; refine EW.eCall Try.call22 (fun w => hC w) ?_; (first | refine EW.eStoreW (k := 4) ?_ | refine EW.eStore (k := 4) ?_); refine EW.eAssign ?_; refine EW.eEnd ?_; (try refine EW.nm ?_))
  all_goals (refine EW.eLeaveP ?_; intro w' hW; refine ⟨?_, hW⟩)
  all_goals rfl
theorem Cross_neg (p a0 a1 a2 a3 b0 b1 b2 b3 d f x0 x1 x2 x3 : Int) (hA : DST p (V4 a0 a1 a2 a3) d 0) (hB : DST p (V4 b0 b1 b2 b3) f 0) (h1 : d < 0) (h2 : 0 ≤ f) (hC : CRO p (V4 b0 b1 b2 b3) (V4 a0 a1 a2 a3) (V4 x0 x1 x2 x3)) : CRS p (V4 a0 a1 a2 a3) (V4 b0 b1 b2 b3) (V4 x0 x1 x2 x3) 0 := by
  intro w
  refine EW.eEnter Try.func10 rfl Try.ntmps10 ?_
  all_goals try (refine EW.nm ?_)
  all_goals try ((first | refine EW.eRegL (id := 0) ?_ | refine EW.eReg (id := 0) ?_); refine EW.eBox ?_; refine EW.eBox ?_; refine EW.eAlloc ?_; refine EW.eAssign ?_; refine EW.eEnd ?_; (try refine EW.nm ?_))
  all_goals try ((first | refine EW.eRegL (id := 1) ?_ | refine EW.eReg (id := 1) ?_); refine EW.eMove ?_; refine EW.eLoadA (k := 4) ?_; (first | refine EW.eCall Try.call11 (fun w => hA w) ?_ | refine EW.eCall Try.call11 (fun w => hB w) ?_); refine EW.eMove ?_; (first | refine EW.eExtC ?_ | refine EW.eExtA ?_); (first | refine EW.eExtC ?_ | refine EW.eExtA ?_); refine EW.eAssign ?_; refine EW.eAssign ?_; refine EW.eEnd ?_; (try refine EW.nm ?_))
  all_goals try ((first | refine EW.eRegL (id := 2) ?_ | refine EW.eReg (id := 2) ?_); refine EW.eMove ?_; refine EW.eLoadA (k := 4) ?_; (first | refine EW.eCall Try.call11 (fun w => hA w) ?_ | refine EW.eCall Try.call11 (fun w => hB w) ?_); refine EW.eMove ?_; (first | refine EW.eExtC ?_ | refine EW.eExtA ?_); (first | refine EW.eExtC ?_ | refine EW.eExtA ?_); refine EW.eAssign ?_; refine EW.eAssign ?_; refine EW.eEnd ?_; (try refine EW.nm ?_))
  all_goals try ((first | refine EW.eRegL (id := 3) ?_ | refine EW.eReg (id := 3) ?_); refine EW.eMove ?_; refine EW.eNeq ?_; refine EW.eAssign ?_; refine EW.eEnd ?_; (try refine EW.nm ?_))
  all_goals try (first | refine EW.eYes (x := Operand.tmp 24) ?_ | refine EW.eNo (x := Operand.tmp 24) ?_ | (refine EW.eCond (x := Operand.tmp 24) ?_ ?_ <;> (intro hb hb'; (try dsimp only at hb'); (try (exfalso; first | omega | with_reducible exact absurd rfl hb')))))
  all_goals try (refine EW.nm ?_)
  all_goals try ((first | refine EW.eRegL (id := 4) ?_ | refine EW.eReg (id := 4) ?_); refine EW.eBuild (place := fun i => some (i * 1, 1)) ?_; refine EW.eMove ?_; (first | refine EW.eStoreW (k := 4) ?_ | refine EW.eStore (k := 4) ?_); refine EW.eAssign ?_; refine EW.eEnd ?_; (try refine EW.nm ?_))
  all_goals try ((first | refine EW.eRegL (id := 5) ?_ | refine EW.eReg (id := 5) ?_); refine EW.eMove ?_; refine EW.eNeq ?_; refine EW.eAssign ?_; refine EW.eEnd ?_; (try refine EW.nm ?_))
  all_goals try (first | refine EW.eYes (x := Operand.tmp 29) ?_ | refine EW.eNo (x := Operand.tmp 29) ?_ | (refine EW.eCond (x := Operand.tmp 29) ?_ ?_ <;> (intro hb hb'; (try dsimp only at hb'); (try (exfalso; first | omega | with_reducible exact absurd rfl hb')))))
  all_goals try (refine EW.nm ?_)
  all_goals try ((first | refine EW.eRegL (id := 6) ?_ | refine EW.eReg (id := 6) ?_); refine EW.eBuild (place := fun i => some (i * 1, 1)) ?_; refine EW.eMove ?_; (first | refine EW.eStoreW (k := 4) ?_ | refine EW.eStore (k := 4) ?_); refine EW.eAssign ?_; refine EW.eEnd ?_; (try refine EW.nm ?_))
  all_goals try ((first | refine EW.eRegL (id := 7) ?_ | refine EW.eReg (id := 7) ?_); refine EW.eMove ?_; refine EW.eLss ?_; refine EW.eMove ?_; refine EW.eLss ?_; refine EW.eEqlB ?_; refine EW.eAssign ?_; refine EW.eEnd ?_; (try refine EW.nm ?_))
  all_goals try (first | refine EW.eYes (x := Operand.tmp 34) ?_ | refine EW.eNo (x := Operand.tmp 34) ?_ | (refine EW.eCond (x := Operand.tmp 34) ?_ ?_ <;> (intro hb hb'; (try dsimp only at hb'); (try (exfalso; first | omega | with_reducible exact absurd rfl hb')))))
  all_goals try (refine EW.nm ?_)
  all_goals try ((first | refine EW.eRegL (id := 8) ?_ | refine EW.eReg (id := 8) ?_); refine EW.eBuild (place := fun i => some (i * 1, 1)) ?_; (first | refine EW.eStoreW (k := 4) ?_ | refine EW.eStore (k := 4) ?_); refine EW.eAssign ?_; refine EW.eEnd ?_; (try refine EW.nm ?_))
  all_goals try ((first | refine EW.eRegL (id := 9) ?_ | refine EW.eReg (id := 9) ?_); refine EW.eMove ?_; refine EW.eLss ?_; refine EW.eAssign ?_; refine EW.eEnd ?_; (try refine EW.nm ?_))
  all_goals try (first | refine EW.eYes (x := Operand.tmp 41) ?_ | refine EW.eNo (x := Operand.tmp 41) ?_ | (refine EW.eCond (x := Operand.tmp 41) ?_ ?_ <;> (intro hb hb'; (try dsimp only at hb'); (try (exfalso; first | omega | with_reducible exact absurd rfl hb')))))
  all_goals try (refine EW.nm ?_)
  all_goals try ((first | refine EW.eRegL (id := 10) ?_ | refine EW.eReg (id := 10) ?_); refine EW.eLoadA (k := 4) ?_; refine EW.eLoadA (k := 4) ?_; (first | refine EW.eStoreW (k := 4) ?_ | refine EW.eStore (k := 4) ?_); (first | refine EW.eStoreW (k := 4) ?_ | refine EW.eStore (k := 4) ?_); refine EW.eEnd ?_; (try refine EW.nm ?_))
  all_goals try ((first | refine EW.eRegL (id := 11) ?_ | refine EW.eReg (id := 11) ?_); refine EW.eMove ?_; refine EW.eLoadA (k := 4) ?_; refine EW.eLoadA (k := 4) ?_; refine EW.eCall Try.call22 (fun w => hC w) ?_; (first | refine EW.eStoreW (k := 4) ?_ | refine EW.eStore (k := 4) ?_); refine EW.eAssign ?_; refine EW.eEnd ?_; (try refine EW.nm ?_))
  all_goals (refine EW.eLeaveP ?_; intro w' hW; refine ⟨?_, hW⟩)
  all_goals rfl
end Go.Proofs.Ytleelfdpefmnnaa
