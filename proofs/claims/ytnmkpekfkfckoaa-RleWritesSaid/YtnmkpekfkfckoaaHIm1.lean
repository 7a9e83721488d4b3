import Derived.Test.YtnmkpekfkfckoaaHRow5
import Derived.Test.YtnmkpekfkfckoaaHPx3
import Derived.Test.YtnmkpekfkfckoaaHEw7
/- Pixels that come in. -/
namespace Go.Proofs.Ytnmkpekfkfckoaa
open Go.RowKit Go.ChangeShapes Go.WideShapes EV
set_option maxRecDepth 20000
abbrev Px.wf (p : Px) : Prop := (0 ≤ p.z ∧ p.z < 4294967296) ∧ (-9223372036854775808 ≤ p.o ∧ p.o ≤ 9223372036854775807) ∧ (-9223372036854775808 ≤ p.t ∧ p.t ≤ 9223372036854775807) ∧ (0 ≤ p.c ∧ p.c < 4294967296)
theorem px_of_rows : ∀ {rows : List (List Value)}, (∀ s ∈ rows, Fit [.i .u32, .i .i64, .i .i64, .i .u32] s) → ∃ l : List Px, l.length = rows.length ∧ rows.flatten = pvs l ∧ ∀ p ∈ l, p.wf
  | [], _ => ⟨[], rfl, rfl, fun x hx => by cases hx⟩
  | r :: rows, h => by
    obtain ⟨l, h1, h2, h3⟩ := px_of_rows (rows := rows) (fun s hs => h s (by simp [hs]))
    obtain ⟨z, _, rfl, a0, a1, o, _, rfl, b0, b1, t, _, rfl, c0, c1, c, _, rfl, d0, d1, rfl⟩ := h r (by simp)
    refine ⟨⟨z, o, t, c⟩ :: l, by simp [h1], by rw [List.flatten_cons, h2]; rfl, fun x hx => ?_⟩
    rcases List.mem_cons.1 hx with rfl | hx
    · exact ⟨rg_u32 ⟨a0, a1⟩, rg_i64 ⟨b0, b1⟩, rg_i64 ⟨c0, c1⟩, rg_u32 ⟨d0, d1⟩⟩
    · exact h3 x hx
theorem pvs_one (l : List Px) : ∀ x ∈ pvs l, x.oneCell' = true := by
  intro x hx
  simp only [pvs, List.mem_flatMap] at hx
  obtain ⟨p, _, hx⟩ := hx
  simp only [Px.vals, List.mem_cons, List.not_mem_nil, or_false] at hx
  rcases hx with rfl | rfl | rfl | rfl <;> rfl
end Go.Proofs.Ytnmkpekfkfckoaa
/- Walking over named blocks: branches that come together. No program in sight. -/
namespace Go.Proofs.Ytnmkpekfkfckoaa.EW
set_option linter.unusedSimpArgs false
set_option linter.unusedVariables false
open Go.RowKit EV
section
variable {c : Ctx} {F : Fence} {nn : Nat} {Q : Exit → Act → World → Prop} {σ : Sf} {sup : List Nat}
/-- A goal that waits: no step of a walk fits it. -/
structure Park (p : Prop) : Prop where
  go : p
theorem parkK {F : Fence} {m : Nat} {P : Program} {f : Func} {R : Ending → World → Prop} {x : Exit} (h : Park (KX c (bodyPostM F m P f R x) σ sup)) : KX c (bodyPostM F m P f R x) σ sup := h.go
end
end Go.Proofs.Ytnmkpekfkfckoaa.EW
/- image: Set, Same; the document's. -/
namespace Go.Proofs.Ytnmkpekfkfckoaa
set_option linter.unusedSimpArgs false
set_option linter.unusedVariables false
open Go.RowKit EV
open SX (Wr Tv Qu Rm Sh Is conjP eqs_iff eqs_false)
open EW (PlL PlT PlV PlVs LfV Mm Bt Opn GV YT lpOf nums)
set_option maxRecDepth 20000
theorem pvs_at (l : List Px) (j k : Nat) (h : j < l.length) (hk : k < 4) : (pvs l)[j * 4 + k]? = (l.getD j Px.zero).vals[k]? := by
  have := congrArg (fun x => x[k]?) (pvs_cut l j h)
  rw [List.getElem?_take, if_pos hk, List.getElem?_drop] at this
  rw [this, List.getD_eq_getElem?_getD, List.getElem?_eq_getElem h]
  rfl
instance (l : List Px) (j : Nat) : EW.GetC ((pvs l).map C.v) (j * 4) (.v (.int .u32 (l.getD j Px.zero).z)) (j < l.length) := ⟨fun h => by
  rw [List.getElem?_map, ← Nat.add_zero (j * 4), pvs_at l j 0 h (by omega)]; rfl⟩
instance (l : List Px) (j : Nat) : EW.GetC ((pvs l).map C.v) (j * 4 + 1) (.v (.int .i64 (l.getD j Px.zero).o)) (j < l.length) := ⟨fun h => by
  rw [List.getElem?_map, pvs_at l j 1 h (by omega)]; rfl⟩
noncomputable def WP (o : Bool) (l : List Px) : Ws := [(.l 0, .l true), (.b 0, .b (.w o (pvs l)))]
end Go.Proofs.Ytnmkpekfkfckoaa
