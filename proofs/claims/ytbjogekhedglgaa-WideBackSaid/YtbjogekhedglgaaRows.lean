/-
  No cell of these rows narrows 'for every input' (looked for: loops, veiled, ifaces, maps, wideKeys, modest, calm, conditions, laid).
  DERIVED. THE GIVEN ROWS OF THIS SEAT. 6 by the template 'for every input the law returns true; each argument reads behind the call as it read before'; 0 by the template 'total and deterministic' (their statements: YtbjogekhedglgaaTotals.lean).
  GIVEN WITH THE SEED: the statements are not yours to turn. If you find one false, say at which input.
  Laid BY PROGRAM, IN A SANDBOX (cutbox-rows.mjs): the forced cells as the released guide's own fill.sh prints them over the translation 41ce21cb424334e0… (all of the seat's roots in one cut). By AI agents, Wed Nov 11 2026. No macro, syntax, notation, axiom, sorry.
-/
import Derived.Test.YtbjogekhedglgaaChecked
import GoSem.Claim
import GoSem.ClaimJoined
import GoSem.ClaimMapViews
import Derived.JoinedTies
import Derived.KernelRfl
namespace Go.Proofs.Ytbjogekhedglgaa
/- THE CELL 'sum', in the pinned program and in every row, IS THE sha256 OF THE DUMP (.gsa) THAT YtbjogekhedglgaaProg.lean LOADS. Nothing in Lean hashes anything: it is a label: what it is worth is what the hold of that sum in a sandbox is worth. -/
noncomputable def Try.pinned : Pinned := { name := "ytbjogekhedglgaa", sum := "41ce21cb424334e08dabbe1b2acca5e4950111a9656a77fcba65fc720462e316", checked := Try.checked }
namespace Rows
def none {H : Type} : Left H := { results := [], args := [] }

/-- 'mullionlaw02.WideCounts': WHATEVER THE INPUT: true; the input reads as it did. -/
def wideCountsSpec : ChangeSpec := { name := "wideCounts", fn := fun _ => fun
  | [d1, d2, d3, d4] => { results := [.lit (.bool true)], args := [d1, d2, d3, d4] }
  | _ => none }
def wideCountsRow : OpenClaim := { program := "ytbjogekhedglgaa", sum := "41ce21cb424334e08dabbe1b2acca5e4950111a9656a77fcba65fc720462e316", func := "mullion/mullionlaw02.WideCounts", spec := "wideCounts", inPlace := ["math/bits.Add64", "math/bits.Sub64"], apart := false }
def WideCountsSaid : Prop := wideCountsRow.holds Try.pinned (OpenSpec.ofChange wideCountsSpec)

/-- ITS FALSE NEIGHBOUR: 'it returns false'. Refute it at one input. -/
def wideCountsWrong : ChangeSpec := { name := "wideCounts", fn := fun _ => fun
  | [d1, d2, d3, d4] => { results := [.lit (.bool false)], args := [d1, d2, d3, d4] }
  | _ => none }
def WideCountsWrongFalsely : Prop := wideCountsRow.holds Try.pinned (OpenSpec.ofChange wideCountsWrong)

/-- 'mullionlaw02.WideDivides': WHATEVER THE INPUT: true; the input reads as it did. -/
def wideDividesSpec : ChangeSpec := { name := "wideDivides", fn := fun _ => fun
  | [d1, d2, d3, d4] => { results := [.lit (.bool true)], args := [d1, d2, d3, d4] }
  | _ => none }
def wideDividesRow : OpenClaim := { program := "ytbjogekhedglgaa", sum := "41ce21cb424334e08dabbe1b2acca5e4950111a9656a77fcba65fc720462e316", func := "mullion/mullionlaw02.WideDivides", spec := "wideDivides", inPlace := ["math/bits.Sub64", "math/bits.Add64"], named := ["math/bits.divideError", "math/bits.overflowError"], apart := false }
def WideDividesSaid : Prop := wideDividesRow.holds Try.pinned (OpenSpec.ofChange wideDividesSpec)

/-- ITS FALSE NEIGHBOUR: 'it returns false'. Refute it at one input. -/
def wideDividesWrong : ChangeSpec := { name := "wideDivides", fn := fun _ => fun
  | [d1, d2, d3, d4] => { results := [.lit (.bool false)], args := [d1, d2, d3, d4] }
  | _ => none }
def WideDividesWrongFalsely : Prop := wideDividesRow.holds Try.pinned (OpenSpec.ofChange wideDividesWrong)

/-- 'mullionlaw02.WideRests': WHATEVER THE INPUT: true; the input reads as it did. -/
def wideRestsSpec : ChangeSpec := { name := "wideRests", fn := fun _ => fun
  | [d1, d2, d3] => { results := [.lit (.bool true)], args := [d1, d2, d3] }
  | _ => none }
def wideRestsRow : OpenClaim := { program := "ytbjogekhedglgaa", sum := "41ce21cb424334e08dabbe1b2acca5e4950111a9656a77fcba65fc720462e316", func := "mullion/mullionlaw02.WideRests", spec := "wideRests", inPlace := ["math/bits.Sub64", "math/bits.Add64"], named := ["math/bits.divideError", "math/bits.overflowError"], apart := false }
def WideRestsSaid : Prop := wideRestsRow.holds Try.pinned (OpenSpec.ofChange wideRestsSpec)

/-- ITS FALSE NEIGHBOUR: 'it returns false'. Refute it at one input. -/
def wideRestsWrong : ChangeSpec := { name := "wideRests", fn := fun _ => fun
  | [d1, d2, d3] => { results := [.lit (.bool false)], args := [d1, d2, d3] }
  | _ => none }
def WideRestsWrongFalsely : Prop := wideRestsRow.holds Try.pinned (OpenSpec.ofChange wideRestsWrong)

/-- 'mullionlaw02.WideTexts': WHATEVER THE INPUT: true; the input reads as it did. -/
def wideTextsSpec : ChangeSpec := { name := "wideTexts", fn := fun _ => fun
  | [d1, d2, d3, d4] => { results := [.lit (.bool true)], args := [d1, d2, d3, d4] }
  | _ => none }
def wideTextsRow : OpenClaim := { program := "ytbjogekhedglgaa", sum := "41ce21cb424334e08dabbe1b2acca5e4950111a9656a77fcba65fc720462e316", func := "mullion/mullionlaw02.WideTexts", spec := "wideTexts", inPlace := ["math/bits.Add64", "math/bits.Sub64"], unfollowed := true, recurses := true, named := ["math/bits.divideError", "math/bits.overflowError"], apart := false }
def WideTextsSaid : Prop := wideTextsRow.holds Try.pinned (OpenSpec.ofChange wideTextsSpec)

/-- ITS FALSE NEIGHBOUR: 'it returns false'. Refute it at one input. -/
def wideTextsWrong : ChangeSpec := { name := "wideTexts", fn := fun _ => fun
  | [d1, d2, d3, d4] => { results := [.lit (.bool false)], args := [d1, d2, d3, d4] }
  | _ => none }
def WideTextsWrongFalsely : Prop := wideTextsRow.holds Try.pinned (OpenSpec.ofChange wideTextsWrong)

/-- 'mullionlaw02.WideBack': WHATEVER THE INPUT: true; the input reads as it did. -/
def wideBackSpec : ChangeSpec := { name := "wideBack", fn := fun _ => fun
  | [d1, d2, d3, d4, d5, d6] => { results := [.lit (.bool true)], args := [d1, d2, d3, d4, d5, d6] }
  | _ => none }
def wideBackRow : OpenClaim := { program := "ytbjogekhedglgaa", sum := "41ce21cb424334e08dabbe1b2acca5e4950111a9656a77fcba65fc720462e316", func := "mullion/mullionlaw02.WideBack", spec := "wideBack", inPlace := ["math/bits.Sub64", "math/bits.Add64"], named := ["math/bits.divideError", "math/bits.overflowError"], apart := false }
def WideBackSaid : Prop := wideBackRow.holds Try.pinned (OpenSpec.ofChange wideBackSpec)

/-- ITS FALSE NEIGHBOUR: 'it returns false'. Refute it at one input. -/
def wideBackWrong : ChangeSpec := { name := "wideBack", fn := fun _ => fun
  | [d1, d2, d3, d4, d5, d6] => { results := [.lit (.bool false)], args := [d1, d2, d3, d4, d5, d6] }
  | _ => none }
def WideBackWrongFalsely : Prop := wideBackRow.holds Try.pinned (OpenSpec.ofChange wideBackWrong)

/-- 'mullionlaw02.WideNames': WHATEVER THE INPUT: true; the input reads as it did. -/
def wideNamesSpec : ChangeSpec := { name := "wideNames", fn := fun _ => fun
  | [] => { results := [.lit (.bool true)], args := [] }
  | _ => none }
def wideNamesRow : OpenClaim := { program := "ytbjogekhedglgaa", sum := "41ce21cb424334e08dabbe1b2acca5e4950111a9656a77fcba65fc720462e316", func := "mullion/mullionlaw02.WideNames", spec := "wideNames", inPlace := ["math/bits.Sub64", "math/bits.Add64"], named := ["math/bits.divideError", "math/bits.overflowError"], apart := false }
def WideNamesSaid : Prop := wideNamesRow.holds Try.pinned (OpenSpec.ofChange wideNamesSpec)

/-- ITS FALSE NEIGHBOUR: 'it returns false'. Refute it at one input. -/
def wideNamesWrong : ChangeSpec := { name := "wideNames", fn := fun _ => fun
  | [] => { results := [.lit (.bool false)], args := [] }
  | _ => none }
def WideNamesWrongFalsely : Prop := wideNamesRow.holds Try.pinned (OpenSpec.ofChange wideNamesWrong)

/- THE SECOND FORM. 'bulk': how many values and letters a reading holds, each counted each time it is reached (what is shared counts as often as it is met; a slice's spare places count too). A statement '..UptoSaid' is the law's where the arguments, and the package variables that the reading takes, are together of bulk at most 1048576: NARROWER than '..Said'. Prove '..Said' where nothing that the law and all that it calls make is longer than what came in: it says more and counts as full. Else prove '..UptoSaid'. A law counts once. -/
mutual
def uptoBulk {H : Type} : DataW H → Nat
  | .lit (.string bytes) => bytes.length + 1
  | .lit _ => 1
  | .nil => 1
  | .ptr d => uptoBulk d + 1
  | .slice elems spare => uptoBulkAll elems + uptoBulkAll spare + 1
  | .agg parts => uptoBulkAll parts + 1
  | .iface _ d => uptoBulk d + 1
  | .map entries => uptoBulkEntries entries + 1
  | .held _ => 1
def uptoBulkAll {H : Type} : List (DataW H) → Nat
  | [] => 0
  | d :: r => uptoBulk d + uptoBulkAll r
def uptoBulkEntries {H : Type} : List (Lit × DataW H) → Nat
  | [] => 0
  | x :: r => uptoBulkEntry x + uptoBulkEntries r
def uptoBulkEntry {H : Type} : Lit × DataW H → Nat
  | (.string bytes, d) => bytes.length + uptoBulk d + 1
  | (_, d) => uptoBulk d + 1
 end
def uptoSmall : (H : Type) → List (DataW H) → Bool := fun _ ds => decide (uptoBulkAll ds ≤ 1048576)
def OpenSpec.upto (s : _root_.Go.ChangeSpec) : _root_.Go.OpenSpec := { _root_.Go.OpenSpec.ofChange s with cond := some uptoSmall }

/-- 'mullionlaw02.WideCounts', WHERE WHAT IT READS IS OF BULK AT MOST 1048576: true; the input reads as it did. -/
def wideCountsUptoRow : OpenClaim := { program := "ytbjogekhedglgaa", sum := "41ce21cb424334e08dabbe1b2acca5e4950111a9656a77fcba65fc720462e316", func := "mullion/mullionlaw02.WideCounts", spec := "wideCounts", inPlace := ["math/bits.Add64", "math/bits.Sub64"], apart := false, narrowed := true }
def WideCountsUptoSaid : Prop := wideCountsUptoRow.holds Try.pinned (OpenSpec.upto wideCountsSpec)

/-- 'mullionlaw02.WideDivides', WHERE WHAT IT READS IS OF BULK AT MOST 1048576: true; the input reads as it did. -/
def wideDividesUptoRow : OpenClaim := { program := "ytbjogekhedglgaa", sum := "41ce21cb424334e08dabbe1b2acca5e4950111a9656a77fcba65fc720462e316", func := "mullion/mullionlaw02.WideDivides", spec := "wideDivides", inPlace := ["math/bits.Sub64", "math/bits.Add64"], named := ["math/bits.divideError", "math/bits.overflowError"], apart := false, narrowed := true }
def WideDividesUptoSaid : Prop := wideDividesUptoRow.holds Try.pinned (OpenSpec.upto wideDividesSpec)

/-- 'mullionlaw02.WideRests', WHERE WHAT IT READS IS OF BULK AT MOST 1048576: true; the input reads as it did. -/
def wideRestsUptoRow : OpenClaim := { program := "ytbjogekhedglgaa", sum := "41ce21cb424334e08dabbe1b2acca5e4950111a9656a77fcba65fc720462e316", func := "mullion/mullionlaw02.WideRests", spec := "wideRests", inPlace := ["math/bits.Sub64", "math/bits.Add64"], named := ["math/bits.divideError", "math/bits.overflowError"], apart := false, narrowed := true }
def WideRestsUptoSaid : Prop := wideRestsUptoRow.holds Try.pinned (OpenSpec.upto wideRestsSpec)

/-- 'mullionlaw02.WideTexts', WHERE WHAT IT READS IS OF BULK AT MOST 1048576: true; the input reads as it did. -/
def wideTextsUptoRow : OpenClaim := { program := "ytbjogekhedglgaa", sum := "41ce21cb424334e08dabbe1b2acca5e4950111a9656a77fcba65fc720462e316", func := "mullion/mullionlaw02.WideTexts", spec := "wideTexts", inPlace := ["math/bits.Add64", "math/bits.Sub64"], unfollowed := true, recurses := true, named := ["math/bits.divideError", "math/bits.overflowError"], apart := false, narrowed := true }
def WideTextsUptoSaid : Prop := wideTextsUptoRow.holds Try.pinned (OpenSpec.upto wideTextsSpec)

/-- 'mullionlaw02.WideBack', WHERE WHAT IT READS IS OF BULK AT MOST 1048576: true; the input reads as it did. -/
def wideBackUptoRow : OpenClaim := { program := "ytbjogekhedglgaa", sum := "41ce21cb424334e08dabbe1b2acca5e4950111a9656a77fcba65fc720462e316", func := "mullion/mullionlaw02.WideBack", spec := "wideBack", inPlace := ["math/bits.Sub64", "math/bits.Add64"], named := ["math/bits.divideError", "math/bits.overflowError"], apart := false, narrowed := true }
def WideBackUptoSaid : Prop := wideBackUptoRow.holds Try.pinned (OpenSpec.upto wideBackSpec)

/-- 'mullionlaw02.WideNames', WHERE WHAT IT READS IS OF BULK AT MOST 1048576: true; the input reads as it did. -/
def wideNamesUptoRow : OpenClaim := { program := "ytbjogekhedglgaa", sum := "41ce21cb424334e08dabbe1b2acca5e4950111a9656a77fcba65fc720462e316", func := "mullion/mullionlaw02.WideNames", spec := "wideNames", inPlace := ["math/bits.Sub64", "math/bits.Add64"], named := ["math/bits.divideError", "math/bits.overflowError"], apart := false, narrowed := true }
def WideNamesUptoSaid : Prop := wideNamesUptoRow.holds Try.pinned (OpenSpec.upto wideNamesSpec)

end Rows
end Go.Proofs.Ytbjogekhedglgaa
