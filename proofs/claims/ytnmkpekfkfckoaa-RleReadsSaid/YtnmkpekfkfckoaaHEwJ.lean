import Derived.Test.YtnmkpekfkfckoaaHPx1
import Derived.Test.YtnmkpekfkfckoaaHZE
import Derived.Test.YtnmkpekfkfckoaaHRow5
import Derived.Test.YtnmkpekfkfckoaaHEw7
/- Package pixel: Cmp, Near, Of; the document's Of. -/
namespace Go.Proofs.Ytnmkpekfkfckoaa
set_option linter.unusedSimpArgs false
set_option linter.unusedVariables false
open Go.RowKit EV
open SX (Wr Tv Qu Rm Sh Is conjP eqs_iff eqs_false)
open EW (PlL PlT PlV PlVs LfV Mm Bt Opn GV)
set_option maxRecDepth 20000
def Px.zero : Px := ⟨0, 0, 0, 0⟩
theorem pcheck_is (p : Px) (r : Int) (w : World) (h : (if p.may then 0 else 130) = r) : Calls Try.prog 62 #[p.val] w fun e w' => e = .returned (.int .i64 r) ∧ Below w.heap.size w w' := h ▸ pcheck p w
theorem rmay_is (p : Px) (r : Bool) (w : World) (h : decide p.may = r) : Calls Try.prog 63 #[p.val] w fun e w' => e = .returned (.bool r) ∧ Below w.heap.size w w' := h ▸ rmay p w
end Go.Proofs.Ytnmkpekfkfckoaa
/- Package pixel: lists of pixels; the document's Same. -/
namespace Go.Proofs.Ytnmkpekfkfckoaa
set_option linter.unusedSimpArgs false
set_option linter.unusedVariables false
open Go.RowKit EV
open SX (Wr Tv Qu Rm Sh Is conjP eqs_iff eqs_false)
open EW (PlL PlT PlV PlVs LfV Mm Bt Opn GV)
set_option maxRecDepth 20000
abbrev Px.vals (p : Px) : List Value := [.int .u32 p.z, .int .i64 p.o, .int .i64 p.t, .int .u32 p.c]
def pvs (l : List Px) : List Value := l.flatMap Px.vals
theorem pvs_length : ∀ l : List Px, (pvs l).length = l.length * 4
  | [] => rfl
  | p :: l => by
    have := pvs_length l
    simp only [pvs, List.flatMap_cons, List.length_append, List.length_cons] at this ⊢
    rw [this]; simp only [Px.vals, List.length_cons, List.length_nil]; omega
theorem pvs_cut : ∀ (l : List Px) (j : Nat) (h : j < l.length), ((pvs l).drop (j * 4)).take 4 = (l[j]).vals
  | p :: l, 0, _ => rfl
  | p :: l, j + 1, h => by
    have := pvs_cut l j (by simpa using h)
    rw [show (j + 1) * 4 = j * 4 + 1 + 1 + 1 + 1 by omega]
    simpa [pvs, Px.vals] using this
instance (l : List Px) : EW.RowV (pvs l) 4 l.length (fun j => (l.getD j Px.zero).vals) := ⟨pvs_length l, fun j h => by
  rw [pvs_cut l j h]; simp [List.getD_eq_getElem?_getD, List.getElem?_eq_getElem h]⟩
/-- Two lists of pixels in memory. -/
abbrev W2 (o o' : Bool) (xs ys : List Px) : Ws := [(.l 0, .l true), (.b 0, .b (.w o (pvs xs))), (.l 1, .l true), (.b 1, .b (.w o' (pvs ys)))]
theorem Px.ext4 {a b : Px} (h : a.z = b.z ∧ a.o = b.o ∧ a.t = b.t ∧ a.c = b.c) : a = b := by
  obtain ⟨z, o, t, c⟩ := a
  obtain ⟨z', o', t', c'⟩ := b
  obtain ⟨rfl, rfl, rfl, rfl⟩ := h; rfl
theorem list_of_getD {α : Type} {d : α} {xs ys : List α} (h : xs.length = ys.length) (hp : ∀ q, q < xs.length → xs.getD q d = ys.getD q d) : xs = ys := by
  refine List.ext_getElem h fun i h1 h2 => ?_
  have := hp i h1
  simpa [List.getD_eq_getElem?_getD, List.getElem?_eq_getElem h1, List.getElem?_eq_getElem h2] using this
theorem less_succ {p : Nat → Prop} {i : Nat} (h : ∀ q, q < i → p q) (hi : p i) : ∀ q, q < i + 1 → p q := fun q hq => by
  rcases Nat.lt_or_ge q i with h1 | h1
  · exact h q h1
  · rw [show q = i by omega]; exact hi
end Go.Proofs.Ytnmkpekfkfckoaa
/- Pixels that come in. -/
namespace Go.Proofs.Ytnmkpekfkfckoaa
open Go.RowKit Go.ChangeShapes Go.WideShapes EV
set_option maxRecDepth 20000
abbrev Px.wf (p : Px) : Prop := (0 ≤ p.z ∧ p.z < 4294967296) ∧ (-9223372036854775808 ≤ p.o ∧ p.o ≤ 9223372036854775807) ∧ (-9223372036854775808 ≤ p.t ∧ p.t ≤ 9223372036854775807) ∧ (0 ≤ p.c ∧ p.c < 4294967296)
end Go.Proofs.Ytnmkpekfkfckoaa
/- Walking over named blocks: branches that come together. No program in sight. -/
namespace Go.Proofs.Ytnmkpekfkfckoaa.EW
set_option linter.unusedSectionVars false
set_option linter.unusedSimpArgs false
set_option linter.unusedVariables false
open Go.RowKit EV
section
variable {c : Ctx} {F : Fence} {nn : Nat} {Q : Exit → Act → World → Prop} {σ : Sf} {sup : List Nat}
/-- A goal that waits: no step of a walk fits it. -/
structure Park (p : Prop) : Prop where
  go : p
theorem parkK {F : Fence} {m : Nat} {P : Program} {f : Func} {R : Ending → World → Prop} {x : Exit} (h : Park (KX c (bodyPostM F m P f R x) σ sup)) : KX c (bodyPostM F m P f R x) σ sup := h.go
end
end Go.Proofs.Ytnmkpekfkfckoaa.EW
