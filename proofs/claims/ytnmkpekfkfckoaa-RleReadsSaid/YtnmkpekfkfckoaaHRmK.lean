import Derived.Test.YtnmkpekfkfckoaaHRlI
import Derived.Test.YtnmkpekfkfckoaaHRmE
import Derived.Test.YtnmkpekfkfckoaaHZD
import Derived.Test.YtnmkpekfkfckoaaHEw7
import Derived.Test.YtnmkpekfkfckoaaHCrc
import Derived.Test.YtnmkpekfkfckoaaHImJ
import Derived.Test.YtnmkpekfkfckoaaHPkA
import Derived.Test.YtnmkpekfkfckoaaHRow5
/- Walking over named blocks: a slice that is moved gets a name of its own. No program in sight. -/
/- rle: Onto; the document's. -/
/- RleLays: the walk. -/
/- The reckoner, of plain values that are rows too. No program in sight. -/
/- The reckoner, with calls that are told by laws, the heap included. No program in sight. -/
/- slices.Clone of an empty slice whose nil is not known, for the reckoner. -/
/- crc.More and slices.Clone, told to the reckoner. -/
/- mullionlaw16.alive, reckoned. -/
/- RleBack: the walk. -/
/- The nearer ones of spans: plain laws. -/
/- RleOver: the walk. -/
/- Bytes that come in. -/
namespace Go.Proofs.Ytnmkpekfkfckoaa
set_option linter.unusedSimpArgs false
set_option linter.unusedVariables false
open Go.RowKit EV
open EW (PlL PlT PlV PlVs nums)
theorem bytes_of_rows : ∀ {rows : List (List Value)}, (∀ s ∈ rows, Fit [.i .u8] s) → ∃ l : List Int, l.length = rows.length ∧ rows.flatten = nums .u8 l ∧ By l
  | [], _ => ⟨[], rfl, rfl, fun x hx => by cases hx⟩
  | r :: rows, h => by
    obtain ⟨l, h1, h2, h3⟩ := bytes_of_rows (rows := rows) (fun s hs => h s (by simp [hs]))
    obtain ⟨z, _, rfl, z0, z1, rfl⟩ := h r (by simp)
    refine ⟨z :: l, by simp [h1], by rw [List.flatten_cons, h2]; rfl, fun x hx => ?_⟩
    rcases List.mem_cons.1 hx with rfl | hx
    · exact rg_u8 ⟨z0, z1⟩
    · exact h3 x hx
theorem nums_one (k : IntKind) (l : List Int) : ∀ x ∈ nums k l, x.oneCell' = true := by
  intro x hx
  simp only [nums, List.mem_map] at hx
  obtain ⟨y, _, rfl⟩ := hx
  rfl
end Go.Proofs.Ytnmkpekfkfckoaa
/- RleReads, RleLays, RleBack, RleOver: whatever comes in. -/
namespace Go.Proofs.Ytnmkpekfkfckoaa
set_option linter.unusedSimpArgs false
set_option linter.unusedVariables false
open Go.RowKit Go.ChangeShapes Go.WideShapes EV
open EW (PlL PlT PlV PlVs nums)
set_option maxRecDepth 20000
theorem reads_row (W : World) {b0 o0 len0 room0 : Nat} {rows0 : List (List Value)} {v0 : Value} (hl0 : rows0.length = len0) (ft0 : ∀ s ∈ rows0, Fit [.i .u8] s) (sr0 : SrcG W b0 o0 room0 rows0.flatten) (hv0 : InG v0 b0 o0 len0 room0 1) :
    Calls Try.prog 4 #[v0] W fun e w' => e = .returned (.bool true) ∧ Below W.heap.size W w' := by
  obtain ⟨b, a1, a2, a3⟩ := bytes_of_rows ft0
  rw [a2] at sr0
  obtain rfl : b.length = len0 := by omega
  have hT : RD_ b := by
    rcases Nat.lt_or_ge 20000 b.length with hf | hf
    · exact reads_far b hf
    · exact reads_in b a3 hf
  exact calls_rowsG (us := [v0]) (Ls := [nums .u8 b]) (A := [(b0, o0, room0)]) (w := W) hT rfl (by decide)
    (fun i L hi => by
      match i, hi with
      | 0, hi => simp only [List.getElem?_cons_zero, Option.some.injEq] at hi; subst hi; exact ⟨sr0, nums_one .u8 b⟩
      | i + 1, hi => simp at hi)
    (okvs_sliceG rfl hv0 okvs_nil)
    (fun v hv n hn => by
      simp only [List.mem_cons, List.not_mem_nil, or_false] at hv
      rcases hv with rfl
      simp [V.names, C.names, List.flatMap_cons] at hn; simp [hn])
end Go.Proofs.Ytnmkpekfkfckoaa
