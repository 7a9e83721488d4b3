import Derived.Test.YtnmkpekfkfckoaaHIm3
import Derived.Test.YtnmkpekfkfckoaaHImI
import Derived.Test.YtnmkpekfkfckoaaHPxO
import Derived.Test.YtnmkpekfkfckoaaHEw7
/- Runs of pixels that are set: plain laws. -/
namespace Go.Proofs.Ytnmkpekfkfckoaa
open Go.RowKit EV
set_option maxRecDepth 20000
/-- A pixel is empty. -/
abbrev Px.emp (p : Px) : Prop := p.z = 16777216
/-- How many pixels at the head are empty, or set. -/
def skipE : List Px → Nat
  | [] => 0
  | p :: l => if p.emp then skipE l + 1 else 0
def skipS : List Px → Nat
  | [] => 0
  | p :: l => if p.emp then 0 else skipS l + 1
theorem skipE_le : ∀ l, skipE l ≤ l.length
  | [] => Nat.le_refl _
  | p :: l => by have := skipE_le l; unfold skipE; split <;> simp <;> omega
theorem skipS_le : ∀ l, skipS l ≤ l.length
  | [] => Nat.le_refl _
  | p :: l => by have := skipS_le l; unfold skipS; split <;> simp <;> omega
theorem skipE_in : ∀ (l : List Px) (i : Nat), i < skipE l → (l.getD i Px.zero).emp
  | [], i, h => by simp [skipE] at h
  | p :: l, i, h => by
    unfold skipE at h
    split at h
    · next hp =>
      cases i with
      | zero => simpa using hp
      | succ i => simpa using skipE_in l i (by omega)
    · omega
theorem skipS_in : ∀ (l : List Px) (i : Nat), i < skipS l → ¬ (l.getD i Px.zero).emp
  | [], i, h => by simp [skipS] at h
  | p :: l, i, h => by
    unfold skipS at h
    split at h
    · omega
    · next hp =>
      cases i with
      | zero => simpa using hp
      | succ i => simpa using skipS_in l i (by omega)
theorem skipE_at : ∀ (l : List Px), skipE l < l.length → ¬ (l.getD (skipE l) Px.zero).emp
  | [], h => by simp at h
  | p :: l, h => by
    unfold skipE at h ⊢
    by_cases hp : p.emp
    · rw [if_pos hp] at h ⊢
      simpa using skipE_at l (by simpa using h)
    · rw [if_neg hp]; simpa using hp
theorem skipS_at : ∀ (l : List Px), skipS l < l.length → (l.getD (skipS l) Px.zero).emp
  | [], h => by simp at h
  | p :: l, h => by
    unfold skipS at h ⊢
    by_cases hp : p.emp
    · rw [if_pos hp]; simpa using hp
    · rw [if_neg hp] at h ⊢
      simpa using skipS_at l (by simpa using h)
theorem skipS_pos {l : List Px} (h0 : 0 < l.length) (h : ¬ (l.getD 0 Px.zero).emp) : 0 < skipS l := by
  cases l with
  | nil => simp at h0
  | cons p l => unfold skipS; rw [if_neg (by simpa using h)]; omega
theorem drop_getD (l : List Px) (a i : Nat) : (l.drop a).getD i Px.zero = l.getD (a + i) Px.zero := by
  rw [List.getD_eq_getElem?_getD, List.getD_eq_getElem?_getD, List.getElem?_drop]
/-- Where the next run begins, and where it ends. -/
def runA (l : List Px) (at_ : Nat) : Nat := at_ + skipE (l.drop at_)
def runB (l : List Px) (at_ : Nat) : Nat := runA l at_ + skipS (l.drop (runA l at_))
theorem runA_le {l : List Px} {a : Nat} (h : a ≤ l.length) : a ≤ runA l a ∧ runA l a ≤ l.length := by
  have := skipE_le (l.drop a)
  rw [List.length_drop] at this
  unfold runA; omega
theorem runA_set {l : List Px} {a : Nat} (h : runA l a < l.length) : ¬ (l.getD (runA l a) Px.zero).emp := by
  have := skipE_at (l.drop a) (by rw [List.length_drop]; unfold runA at h; omega)
  rwa [drop_getD] at this
theorem runB_gt {l : List Px} {a : Nat} (h : runA l a < l.length) : runA l a < runB l a ∧ runB l a ≤ l.length := by
  have h1 := runA_set h
  have h2 := skipS_pos (l := l.drop (runA l a)) (by rw [List.length_drop]; omega) (by rw [drop_getD]; exact h1)
  have h3 := skipS_le (l.drop (runA l a))
  rw [List.length_drop] at h3
  unfold runB; omega
/-- An empty pixel is passed over. -/
theorem runA_emp {l : List Px} {a : Nat} (h : a < l.length) (he : (l.getD a Px.zero).emp) : runA l a = runA l (a + 1) := by
  unfold runA
  rw [List.drop_eq_getElem_cons h, skipE]
  rw [List.getD_eq_getElem?_getD, List.getElem?_eq_getElem h] at he
  rw [if_pos (by simpa using he)]; omega
end Go.Proofs.Ytnmkpekfkfckoaa
/- rle: empty, slices.IndexFunc, set, Runs. -/
namespace Go.Proofs.Ytnmkpekfkfckoaa
set_option linter.unusedSimpArgs false
set_option linter.unusedVariables false
open Go.RowKit EV
open SX (Wr Tv Qu Rm Sh Is conjP eqs_iff eqs_false)
open EW (PlL PlT PlV PlVs LfV Mm Bt Opn GV YT lpOf nums)
set_option maxRecDepth 20000
theorem empC_y (p : Px) (h : p.emp) (w : World) : Calls Try.prog 61 #[p.val] w fun e w' => e = .returned (.bool true) ∧ Below w.heap.size w w' := by
  obtain ⟨z, o, t, c⟩ := p
  unfold Px.emp at h
  dsimp only at h
  subst h
  refine EW.eEnter Try.func61 rfl Try.ntmps61 ?_
  all_goals try (refine EW.nm ?_)
  all_goals try (refine EW.eReg (id := 0) ?_; refine EW.eBox ?_; refine EW.eAssign ?_; refine EW.eEnd ?_; (try refine EW.nm ?_))
  all_goals try (refine EW.eReg (id := 1) ?_; refine EW.eFieldAddr (k := 1) ?_; refine EW.eLoad1 ?_; refine EW.eEql ?_; refine EW.eAssign ?_; refine EW.eEnd ?_; (try refine EW.nm ?_))
  all_goals try (with_reducible refine EW.parkK ?_)
  all_goals try (refine EW.Park.mk ?_)
  all_goals (refine EW.eLeaveP ?_; intro w' hW; refine ⟨?_, hW⟩)
  all_goals rfl
theorem empC_n (p : Px) (h : ¬ p.emp) (w : World) : Calls Try.prog 61 #[p.val] w fun e w' => e = .returned (.bool false) ∧ Below w.heap.size w w' := by
  obtain ⟨z, o, t, c⟩ := p
  unfold Px.emp at h
  dsimp only at h
  refine EW.eEnter Try.func61 rfl Try.ntmps61 ?_
  all_goals try (refine EW.nm ?_)
  all_goals try (refine EW.eReg (id := 0) ?_; refine EW.eBox ?_; refine EW.eAssign ?_; refine EW.eEnd ?_; (try refine EW.nm ?_))
  all_goals try (refine EW.eReg (id := 1) ?_; refine EW.eFieldAddr (k := 1) ?_; refine EW.eLoad1 ?_; refine EW.eEql ?_; refine EW.eAssign ?_; refine EW.eEnd ?_; (try refine EW.nm ?_))
  all_goals try (with_reducible refine EW.parkK ?_)
  all_goals try (refine EW.Park.mk ?_)
  all_goals (refine EW.eLeaveP ?_; intro w' hW; refine ⟨?_, hW⟩)
  all_goals first | rfl | (refine congrArg (fun b => Ending.returned (.bool b)) ?_; simp; omega)
end Go.Proofs.Ytnmkpekfkfckoaa
/- rle: set, Runs; the document's Runs, Pairs. -/
/- rle: Runs; the document's Runs, Pairs. -/
/- Sums of bytes, at once and bit by bit: plain laws of naturals. -/
namespace Go.Proofs.Ytnmkpekfkfckoaa
open Go.RowKit
set_option maxRecDepth 20000
/-- One step of a sum. -/
def shN (n : Nat) : Nat := n / 2 ^^^ (if n % 2 = 1 then 3988292384 else 0)
theorem xor_div2 (a b : Nat) : (a ^^^ b) / 2 = a / 2 ^^^ b / 2 := by
  apply Nat.eq_of_testBit_eq
  intro i
  rw [Nat.testBit_xor, Nat.testBit_div_two, Nat.testBit_div_two, Nat.testBit_div_two, Nat.testBit_xor]
theorem xor_mod2 (a b : Nat) : (a ^^^ b) % 2 = (a ^^^ b % 2) % 2 := by
  have h : ∀ n : Nat, n % 2 = if n.testBit 0 then 1 else 0 := fun n => by
    rw [Nat.testBit_zero]; by_cases h : n % 2 = 1 <;> simp [h]; omega
  rw [h (a ^^^ b), h (a ^^^ b % 2), Nat.testBit_xor, Nat.testBit_xor]
  have : (b % 2).testBit 0 = b.testBit 0 := by rw [Nat.testBit_zero, Nat.testBit_zero, Nat.mod_mod]
  rw [this]
theorem sh_xor (n c : Nat) : shN (n ^^^ c) = shN (n ^^^ c % 2) ^^^ c / 2 := by
  unfold shN
  rw [xor_mod2 n c, xor_div2, xor_div2, show c % 2 / 2 = 0 by omega, Nat.xor_zero]
  rw [Nat.xor_assoc, Nat.xor_assoc, Nat.xor_comm (c / 2)]
/-- The document's way: bit by bit. -/
def bitN : Nat → Nat → Nat → Nat
  | 0, n, _ => n
  | k + 1, n, c => bitN k (shN (n ^^^ c % 2)) (c / 2)
/-- All steps. -/
def shK : Nat → Nat → Nat
  | 0, n => n
  | k + 1, n => shK k (shN n)
theorem bit_is : ∀ (k n c : Nat), shK k (n ^^^ c) = bitN k n c ^^^ c / 2 ^ k
  | 0, n, c => by simp [shK, bitN]
  | k + 1, n, c => by
    rw [shK, bitN, sh_xor, bit_is k, Nat.div_div_eq_div_mul, Nat.pow_succ, Nat.mul_comm 2]
theorem bit_8 (n c : Nat) (h : c < 256) : bitN 8 n c = shK 8 (n ^^^ c) := by
  rw [bit_is, show c / 2 ^ 8 = 0 by omega, Nat.xor_zero]
theorem shN_lt {n : Nat} (h : n < 4294967296) : shN n < 4294967296 := by
  unfold shN
  exact Nat.xor_lt_two_pow (n := 32) (by omega) (by split <;> omega)
end Go.Proofs.Ytnmkpekfkfckoaa
