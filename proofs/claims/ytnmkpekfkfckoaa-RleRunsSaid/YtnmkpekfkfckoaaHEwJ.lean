import Derived.Test.YtnmkpekfkfckoaaHPx2
import Derived.Test.YtnmkpekfkfckoaaHZE
import Derived.Test.YtnmkpekfkfckoaaHRow5
import Derived.Test.YtnmkpekfkfckoaaHEw7
/- Package pixel: lists of pixels; the document's Same. -/
namespace Go.Proofs.Ytnmkpekfkfckoaa
set_option linter.unusedSimpArgs false
set_option linter.unusedVariables false
open Go.RowKit EV
open SX (Wr Tv Qu Rm Sh Is conjP eqs_iff eqs_false)
open EW (PlL PlT PlV PlVs LfV Mm Bt Opn GV)
set_option maxRecDepth 20000
abbrev Px.vals (p : Px) : List Value := [.int .u32 p.z, .int .i64 p.o, .int .i64 p.t, .int .u32 p.c]
def pvs (l : List Px) : List Value := l.flatMap Px.vals
theorem pvs_length : ∀ l : List Px, (pvs l).length = l.length * 4
  | [] => rfl
  | p :: l => by
    have := pvs_length l
    simp only [pvs, List.flatMap_cons, List.length_append, List.length_cons] at this ⊢
    rw [this]; simp only [Px.vals, List.length_cons, List.length_nil]; omega
theorem pvs_cut : ∀ (l : List Px) (j : Nat) (h : j < l.length), ((pvs l).drop (j * 4)).take 4 = (l[j]).vals
  | p :: l, 0, _ => rfl
  | p :: l, j + 1, h => by
    have := pvs_cut l j (by simpa using h)
    rw [show (j + 1) * 4 = j * 4 + 1 + 1 + 1 + 1 by omega]
    simpa [pvs, Px.vals] using this
theorem pvs_put : ∀ (l : List Px) (j : Nat) (p : Px), j < l.length → putL (j * 4) p.vals (pvs l) = pvs (l.set j p)
  | q :: l, 0, p, _ => rfl
  | q :: l, j + 1, p, h => by
    have := pvs_put l j p (by simpa using h)
    rw [show (j + 1) * 4 = j * 4 + 1 + 1 + 1 + 1 by omega]
    simp only [pvs, List.flatMap_cons, List.set_cons_succ] at this ⊢
    simp only [Px.vals, List.cons_append, List.nil_append, putL]
    exact congrArg _ (congrArg _ (congrArg _ (congrArg _ this)))
instance (l : List Px) : EW.RowV (pvs l) 4 l.length (fun j => (l.getD j Px.zero).vals) := ⟨pvs_length l, fun j h => by
  rw [pvs_cut l j h]; simp [List.getD_eq_getElem?_getD, List.getElem?_eq_getElem h]⟩
/-- Two lists of pixels in memory. -/
abbrev W2 (o o' : Bool) (xs ys : List Px) : Ws := [(.l 0, .l true), (.b 0, .b (.w o (pvs xs))), (.l 1, .l true), (.b 1, .b (.w o' (pvs ys)))]
end Go.Proofs.Ytnmkpekfkfckoaa
/- Pixels that come in. -/
namespace Go.Proofs.Ytnmkpekfkfckoaa
open Go.RowKit Go.ChangeShapes Go.WideShapes EV
set_option maxRecDepth 20000
abbrev Px.wf (p : Px) : Prop := (0 ≤ p.z ∧ p.z < 4294967296) ∧ (-9223372036854775808 ≤ p.o ∧ p.o ≤ 9223372036854775807) ∧ (-9223372036854775808 ≤ p.t ∧ p.t ≤ 9223372036854775807) ∧ (0 ≤ p.c ∧ p.c < 4294967296)
theorem px_of_rows : ∀ {rows : List (List Value)}, (∀ s ∈ rows, Fit [.i .u32, .i .i64, .i .i64, .i .u32] s) → ∃ l : List Px, l.length = rows.length ∧ rows.flatten = pvs l ∧ ∀ p ∈ l, p.wf
  | [], _ => ⟨[], rfl, rfl, fun x hx => by cases hx⟩
  | r :: rows, h => by
    obtain ⟨l, h1, h2, h3⟩ := px_of_rows (rows := rows) (fun s hs => h s (by simp [hs]))
    obtain ⟨z, _, rfl, a0, a1, o, _, rfl, b0, b1, t, _, rfl, c0, c1, c, _, rfl, d0, d1, rfl⟩ := h r (by simp)
    refine ⟨⟨z, o, t, c⟩ :: l, by simp [h1], by rw [List.flatten_cons, h2]; rfl, fun x hx => ?_⟩
    rcases List.mem_cons.1 hx with rfl | hx
    · exact ⟨rg_u32 ⟨a0, a1⟩, rg_i64 ⟨b0, b1⟩, rg_i64 ⟨c0, c1⟩, rg_u32 ⟨d0, d1⟩⟩
    · exact h3 x hx
theorem pvs_one (l : List Px) : ∀ x ∈ pvs l, x.oneCell' = true := by
  intro x hx
  simp only [pvs, List.mem_flatMap] at hx
  obtain ⟨p, _, hx⟩ := hx
  simp only [Px.vals, List.mem_cons, List.not_mem_nil, or_false] at hx
  rcases hx with rfl | rfl | rfl | rfl <;> rfl
end Go.Proofs.Ytnmkpekfkfckoaa
/- Walking over named blocks: branches that come together. No program in sight. -/
namespace Go.Proofs.Ytnmkpekfkfckoaa.EW
set_option linter.unusedSectionVars false
set_option linter.unusedSimpArgs false
set_option linter.unusedVariables false
open Go.RowKit EV
section
variable {c : Ctx} {F : Fence} {nn : Nat} {Q : Exit → Act → World → Prop} {σ : Sf} {sup : List Nat}
/-- A goal that waits: no step of a walk fits it. -/
structure Park (p : Prop) : Prop where
  go : p
theorem parkK {F : Fence} {m : Nat} {P : Program} {f : Func} {R : Ending → World → Prop} {x : Exit} (h : Park (KX c (bodyPostM F m P f R x) σ sup)) : KX c (bodyPostM F m P f R x) σ sup := h.go
end
end Go.Proofs.Ytnmkpekfkfckoaa.EW
