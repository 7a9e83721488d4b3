import Derived.Test.YtnmkpekfkfckoaaHPkA
import Derived.Test.YtnmkpekfkfckoaaHRow5
import Derived.Test.YtnmkpekfkfckoaaHRmF
import Derived.Test.YtnmkpekfkfckoaaHRmG
/- Bytes that come in. -/
namespace Go.Proofs.Ytnmkpekfkfckoaa
set_option linter.unusedSimpArgs false
set_option linter.unusedVariables false
open Go.RowKit EV
open EW (PlL PlT PlV PlVs nums)
theorem bytes_of_rows : ∀ {rows : List (List Value)}, (∀ s ∈ rows, Fit [.i .u8] s) → ∃ l : List Int, l.length = rows.length ∧ rows.flatten = nums .u8 l ∧ By l
  | [], _ => ⟨[], rfl, rfl, fun x hx => by cases hx⟩
  | r :: rows, h => by
    obtain ⟨l, h1, h2, h3⟩ := bytes_of_rows (rows := rows) (fun s hs => h s (by simp [hs]))
    obtain ⟨z, _, rfl, z0, z1, rfl⟩ := h r (by simp)
    refine ⟨z :: l, by simp [h1], by rw [List.flatten_cons, h2]; rfl, fun x hx => ?_⟩
    rcases List.mem_cons.1 hx with rfl | hx
    · exact rg_u8 ⟨z0, z1⟩
    · exact h3 x hx
theorem nums_one (k : IntKind) (l : List Int) : ∀ x ∈ nums k l, x.oneCell' = true := by
  intro x hx
  simp only [nums, List.mem_map] at hx
  obtain ⟨y, _, rfl⟩ := hx
  rfl
end Go.Proofs.Ytnmkpekfkfckoaa
/- A span and bytes that come in. -/
namespace Go.Proofs.Ytnmkpekfkfckoaa
set_option linter.unusedSimpArgs false
set_option linter.unusedVariables false
open Go.RowKit Go.ChangeShapes Go.WideShapes EV
open EW (PlL PlT PlV PlVs nums)
set_option maxRecDepth 20000
theorem lb_row {f : FuncId} (W : World) {l : List Px} {b : List Int} {b0 o0 room0 b1 o1 room1 : Nat} {v0 v1 : Value} (sr0 : SrcG W b0 o0 room0 (pvs l)) (hv0 : InG v0 b0 o0 l.length room0 4) (sr1 : SrcG W b1 o1 room1 (nums .u8 b)) (hv1 : InG v1 b1 o1 b.length room1 1)
    (hT : CT Try.prog f [.c (.g 0 0 l.length l.length 4), .c (.g 1 0 b.length b.length 1)] (upd EW.emp (WLB l b)) 2 2 (.c (.v (.bool true))) (upd (upd EW.emp (WLB l b)) [])) : Calls Try.prog f #[v0, v1] W fun e w' => e = .returned (.bool true) ∧ Below W.heap.size W w' :=
  calls_rowsG (us := [v0, v1]) (Ls := [pvs l, nums .u8 b]) (A := [(b0, o0, room0), (b1, o1, room1)]) (w := W) hT rfl (by decide)
    (fun i L hi => by
      match i, hi with
      | 0, hi => simp only [List.getElem?_cons_zero, Option.some.injEq] at hi; subst hi; exact ⟨sr0, pvs_one l⟩
      | 1, hi => simp only [List.getElem?_cons_succ, List.getElem?_cons_zero, Option.some.injEq] at hi; subst hi; exact ⟨sr1, nums_one .u8 b⟩
      | i + 2, hi => simp at hi)
    (okvs_sliceG rfl hv0 (okvs_sliceG rfl hv1 okvs_nil))
    (fun v hv n hn => by
      simp only [List.mem_cons, List.not_mem_nil, or_false] at hv
      rcases hv with rfl | rfl <;> simp [V.names, C.names, List.flatMap_cons] at hn <;> simp [hn])
end Go.Proofs.Ytnmkpekfkfckoaa
/- RleLays: whatever comes in. -/
namespace Go.Proofs.Ytnmkpekfkfckoaa
set_option linter.unusedSimpArgs false
set_option linter.unusedVariables false
open Go.RowKit Go.ChangeShapes Go.WideShapes EV
open EW (PlL PlT PlV PlVs nums)
set_option maxRecDepth 20000
set_option linter.unusedSectionVars false
section
variable (W : World) {b0 o0 len0 room0 b1 o1 len1 room1 : Nat} {rows0 rows1 : List (List Value)} {v0 v1 : Value} (hl0 : rows0.length = len0) (ft0 : ∀ s ∈ rows0, Fit [.i .u32, .i .i64, .i .i64, .i .u32] s) (sr0 : SrcG W b0 o0 room0 rows0.flatten) (hv0 : InG v0 b0 o0 len0 room0 4)
  (hl1 : rows1.length = len1) (ft1 : ∀ s ∈ rows1, Fit [.i .u8] s) (sr1 : SrcG W b1 o1 room1 rows1.flatten) (hv1 : InG v1 b1 o1 len1 room1 1)
include hl0 ft0 sr0 hv0 hl1 ft1 sr1 hv1
theorem lays_row : Calls Try.prog 5 #[v0, v1] W fun e w' => e = .returned (.bool true) ∧ Below W.heap.size W w' := by
  obtain ⟨l, c1, c2, c3⟩ := px_of_rows ft0
  rw [c2] at sr0
  obtain rfl : l.length = len0 := by omega
  obtain ⟨b, a1, a2, a3⟩ := bytes_of_rows ft1
  rw [a2] at sr1
  obtain rfl : b.length = len1 := by omega
  refine lb_row W sr0 hv0 sr1 hv1 ?_
  rcases Nat.lt_or_ge 4200 l.length with hf | hf
  · exact lays_far l b hf
  · rcases Nat.lt_or_ge 20000 b.length with hf2 | hf2
    · exact lays_far2 l b hf hf2
    · exact lays_in l b hf a3 hf2
end
end Go.Proofs.Ytnmkpekfkfckoaa
