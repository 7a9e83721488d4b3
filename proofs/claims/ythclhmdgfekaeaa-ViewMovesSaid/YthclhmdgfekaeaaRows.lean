/-
  No cell of these rows narrows 'for every input' (looked for: loops, veiled, ifaces, maps, wideKeys, modest, calm, conditions, laid).
  DERIVED. THE GIVEN ROWS OF THIS SEAT. 9 by the template 'for every input the law returns true; each argument reads behind the call as it read before'; 0 by the template 'total and deterministic' (their statements: YthclhmdgfekaeaaTotals.lean).
  GIVEN WITH THE SEED: the statements are not yours to turn. If you find one false, say at which input.
  Laid BY PROGRAM, IN A SANDBOX (cutbox-rows.mjs): the forced cells as the released guide's own fill.sh prints them over the translation 79bf27cddbf987b5… (all of the seat's roots in one cut). By AI agents, Wed Nov 11 2026. No macro, syntax, notation, axiom, sorry.
-/
import Derived.Test.YthclhmdgfekaeaaChecked
import GoSem.Claim
import GoSem.ClaimJoined
import GoSem.ClaimMapViews
import Derived.JoinedTies
import Derived.KernelRfl
namespace Go.Proofs.Ythclhmdgfekaeaa
/- THE CELL 'sum', in the pinned program and in every row, IS THE sha256 OF THE DUMP (.gsa) THAT YthclhmdgfekaeaaProg.lean LOADS. Nothing in Lean hashes anything: it is a label: what it is worth is what the hold of that sum in a sandbox is worth. -/
noncomputable def Try.pinned : Pinned := { name := "ythclhmdgfekaeaa", sum := "79bf27cddbf987b5ac5f80c6231366b3d2418c19b29d0d3c0f50042cb011f995", checked := Try.checked }
namespace Rows
def none {H : Type} : Left H := { results := [], args := [] }

/-- 'mullionlaw10.ViewRises': WHATEVER THE INPUT: true; the input reads as it did. -/
def viewRisesSpec : ChangeSpec := { name := "viewRises", fn := fun _ => fun
  | [d1, d2, d3, d4] => { results := [.lit (.bool true)], args := [d1, d2, d3, d4] }
  | _ => none }
def viewRisesRow : OpenClaim := { program := "ythclhmdgfekaeaa", sum := "79bf27cddbf987b5ac5f80c6231366b3d2418c19b29d0d3c0f50042cb011f995", func := "mullion/mullionlaw10.ViewRises", spec := "viewRises", inPlace := ["math/bits.Sub64", "math/bits.Add64"], named := ["math/bits.divideError", "math/bits.overflowError"], apart := false }
def ViewRisesSaid : Prop := viewRisesRow.holds Try.pinned (OpenSpec.ofChange viewRisesSpec)

/-- ITS FALSE NEIGHBOUR: 'it returns false'. Refute it at one input. -/
def viewRisesWrong : ChangeSpec := { name := "viewRises", fn := fun _ => fun
  | [d1, d2, d3, d4] => { results := [.lit (.bool false)], args := [d1, d2, d3, d4] }
  | _ => none }
def ViewRisesWrongFalsely : Prop := viewRisesRow.holds Try.pinned (OpenSpec.ofChange viewRisesWrong)

/-- 'mullionlaw10.ViewMirrors': WHATEVER THE INPUT: true; the input reads as it did. -/
def viewMirrorsSpec : ChangeSpec := { name := "viewMirrors", fn := fun _ => fun
  | [d1, d2, d3] => { results := [.lit (.bool true)], args := [d1, d2, d3] }
  | _ => none }
def viewMirrorsRow : OpenClaim := { program := "ythclhmdgfekaeaa", sum := "79bf27cddbf987b5ac5f80c6231366b3d2418c19b29d0d3c0f50042cb011f995", func := "mullion/mullionlaw10.ViewMirrors", spec := "viewMirrors", inPlace := ["math/bits.Sub64", "math/bits.Add64"], named := ["math/bits.divideError", "math/bits.overflowError"], apart := false }
def ViewMirrorsSaid : Prop := viewMirrorsRow.holds Try.pinned (OpenSpec.ofChange viewMirrorsSpec)

/-- ITS FALSE NEIGHBOUR: 'it returns false'. Refute it at one input. -/
def viewMirrorsWrong : ChangeSpec := { name := "viewMirrors", fn := fun _ => fun
  | [d1, d2, d3] => { results := [.lit (.bool false)], args := [d1, d2, d3] }
  | _ => none }
def ViewMirrorsWrongFalsely : Prop := viewMirrorsRow.holds Try.pinned (OpenSpec.ofChange viewMirrorsWrong)

/-- 'mullionlaw10.ViewScales': WHATEVER THE INPUT: true; the input reads as it did. -/
def viewScalesSpec : ChangeSpec := { name := "viewScales", fn := fun _ => fun
  | [d1, d2, d3, d4] => { results := [.lit (.bool true)], args := [d1, d2, d3, d4] }
  | _ => none }
def viewScalesRow : OpenClaim := { program := "ythclhmdgfekaeaa", sum := "79bf27cddbf987b5ac5f80c6231366b3d2418c19b29d0d3c0f50042cb011f995", func := "mullion/mullionlaw10.ViewScales", spec := "viewScales", inPlace := ["math/bits.Sub64", "math/bits.Add64"], named := ["math/bits.divideError", "math/bits.overflowError"], apart := false }
def ViewScalesSaid : Prop := viewScalesRow.holds Try.pinned (OpenSpec.ofChange viewScalesSpec)

/-- ITS FALSE NEIGHBOUR: 'it returns false'. Refute it at one input. -/
def viewScalesWrong : ChangeSpec := { name := "viewScales", fn := fun _ => fun
  | [d1, d2, d3, d4] => { results := [.lit (.bool false)], args := [d1, d2, d3, d4] }
  | _ => none }
def ViewScalesWrongFalsely : Prop := viewScalesRow.holds Try.pinned (OpenSpec.ofChange viewScalesWrong)

/-- 'mullionlaw10.ViewBounds': WHATEVER THE INPUT: true; the input reads as it did. -/
def viewBoundsSpec : ChangeSpec := { name := "viewBounds", fn := fun _ => fun
  | [d1, d2, d3] => { results := [.lit (.bool true)], args := [d1, d2, d3] }
  | _ => none }
def viewBoundsRow : OpenClaim := { program := "ythclhmdgfekaeaa", sum := "79bf27cddbf987b5ac5f80c6231366b3d2418c19b29d0d3c0f50042cb011f995", func := "mullion/mullionlaw10.ViewBounds", spec := "viewBounds", inPlace := ["math/bits.Sub64", "math/bits.Add64"], named := ["math/bits.divideError", "math/bits.overflowError"], apart := false }
def ViewBoundsSaid : Prop := viewBoundsRow.holds Try.pinned (OpenSpec.ofChange viewBoundsSpec)

/-- ITS FALSE NEIGHBOUR: 'it returns false'. Refute it at one input. -/
def viewBoundsWrong : ChangeSpec := { name := "viewBounds", fn := fun _ => fun
  | [d1, d2, d3] => { results := [.lit (.bool false)], args := [d1, d2, d3] }
  | _ => none }
def ViewBoundsWrongFalsely : Prop := viewBoundsRow.holds Try.pinned (OpenSpec.ofChange viewBoundsWrong)

/-- 'mullionlaw10.ViewCorners': WHATEVER THE INPUT: true; the input reads as it did. -/
def viewCornersSpec : ChangeSpec := { name := "viewCorners", fn := fun _ => fun
  | [d1, d2, d3, d4, d5] => { results := [.lit (.bool true)], args := [d1, d2, d3, d4, d5] }
  | _ => none }
def viewCornersRow : OpenClaim := { program := "ythclhmdgfekaeaa", sum := "79bf27cddbf987b5ac5f80c6231366b3d2418c19b29d0d3c0f50042cb011f995", func := "mullion/mullionlaw10.ViewCorners", spec := "viewCorners", inPlace := ["math/bits.Sub64", "math/bits.Add64"], unfollowed := true, recurses := true, named := ["math/bits.divideError", "math/bits.overflowError"], apart := false }
def ViewCornersSaid : Prop := viewCornersRow.holds Try.pinned (OpenSpec.ofChange viewCornersSpec)

/-- ITS FALSE NEIGHBOUR: 'it returns false'. Refute it at one input. -/
def viewCornersWrong : ChangeSpec := { name := "viewCorners", fn := fun _ => fun
  | [d1, d2, d3, d4, d5] => { results := [.lit (.bool false)], args := [d1, d2, d3, d4, d5] }
  | _ => none }
def ViewCornersWrongFalsely : Prop := viewCornersRow.holds Try.pinned (OpenSpec.ofChange viewCornersWrong)

/-- 'mullionlaw10.ViewThrough': WHATEVER THE INPUT: true; the input reads as it did. -/
def viewThroughSpec : ChangeSpec := { name := "viewThrough", fn := fun _ => fun
  | [d1, d2] => { results := [.lit (.bool true)], args := [d1, d2] }
  | _ => none }
def viewThroughRow : OpenClaim := { program := "ythclhmdgfekaeaa", sum := "79bf27cddbf987b5ac5f80c6231366b3d2418c19b29d0d3c0f50042cb011f995", func := "mullion/mullionlaw10.ViewThrough", spec := "viewThrough", inPlace := ["math/bits.Sub64", "math/bits.Add64"], unfollowed := true, recurses := true, named := ["math/bits.divideError", "math/bits.overflowError"], apart := false }
def ViewThroughSaid : Prop := viewThroughRow.holds Try.pinned (OpenSpec.ofChange viewThroughSpec)

/-- ITS FALSE NEIGHBOUR: 'it returns false'. Refute it at one input. -/
def viewThroughWrong : ChangeSpec := { name := "viewThrough", fn := fun _ => fun
  | [d1, d2] => { results := [.lit (.bool false)], args := [d1, d2] }
  | _ => none }
def ViewThroughWrongFalsely : Prop := viewThroughRow.holds Try.pinned (OpenSpec.ofChange viewThroughWrong)

/-- 'mullionlaw10.ViewClips': WHATEVER THE INPUT: true; the input reads as it did. -/
def viewClipsSpec : ChangeSpec := { name := "viewClips", fn := fun _ => fun
  | [d1, d2, d3] => { results := [.lit (.bool true)], args := [d1, d2, d3] }
  | _ => none }
def viewClipsRow : OpenClaim := { program := "ythclhmdgfekaeaa", sum := "79bf27cddbf987b5ac5f80c6231366b3d2418c19b29d0d3c0f50042cb011f995", func := "mullion/mullionlaw10.ViewClips", spec := "viewClips", inPlace := ["math/bits.Sub64", "math/bits.Add64"], unfollowed := true, recurses := true, named := ["math/bits.divideError", "math/bits.overflowError"], apart := false }
def ViewClipsSaid : Prop := viewClipsRow.holds Try.pinned (OpenSpec.ofChange viewClipsSpec)

/-- ITS FALSE NEIGHBOUR: 'it returns false'. Refute it at one input. -/
def viewClipsWrong : ChangeSpec := { name := "viewClips", fn := fun _ => fun
  | [d1, d2, d3] => { results := [.lit (.bool false)], args := [d1, d2, d3] }
  | _ => none }
def ViewClipsWrongFalsely : Prop := viewClipsRow.holds Try.pinned (OpenSpec.ofChange viewClipsWrong)

/-- 'mullionlaw10.ViewMoves': WHATEVER THE INPUT: true; the input reads as it did. -/
def viewMovesSpec : ChangeSpec := { name := "viewMoves", fn := fun _ => fun
  | [d1, d2] => { results := [.lit (.bool true)], args := [d1, d2] }
  | _ => none }
def viewMovesRow : OpenClaim := { program := "ythclhmdgfekaeaa", sum := "79bf27cddbf987b5ac5f80c6231366b3d2418c19b29d0d3c0f50042cb011f995", func := "mullion/mullionlaw10.ViewMoves", spec := "viewMoves", inPlace := ["math/bits.Sub64", "math/bits.Add64"], unfollowed := true, recurses := true, named := ["math/bits.divideError", "math/bits.overflowError"], apart := false }
def ViewMovesSaid : Prop := viewMovesRow.holds Try.pinned (OpenSpec.ofChange viewMovesSpec)

/-- ITS FALSE NEIGHBOUR: 'it returns false'. Refute it at one input. -/
def viewMovesWrong : ChangeSpec := { name := "viewMoves", fn := fun _ => fun
  | [d1, d2] => { results := [.lit (.bool false)], args := [d1, d2] }
  | _ => none }
def ViewMovesWrongFalsely : Prop := viewMovesRow.holds Try.pinned (OpenSpec.ofChange viewMovesWrong)

/-- 'mullionlaw10.ViewNames': WHATEVER THE INPUT: true; the input reads as it did. -/
def viewNamesSpec : ChangeSpec := { name := "viewNames", fn := fun _ => fun
  | [] => { results := [.lit (.bool true)], args := [] }
  | _ => none }
def viewNamesRow : OpenClaim := { program := "ythclhmdgfekaeaa", sum := "79bf27cddbf987b5ac5f80c6231366b3d2418c19b29d0d3c0f50042cb011f995", func := "mullion/mullionlaw10.ViewNames", spec := "viewNames", inPlace := ["math/bits.Sub64", "math/bits.Add64"], unfollowed := true, recurses := true, named := ["math/bits.divideError", "math/bits.overflowError"], apart := false }
def ViewNamesSaid : Prop := viewNamesRow.holds Try.pinned (OpenSpec.ofChange viewNamesSpec)

/-- ITS FALSE NEIGHBOUR: 'it returns false'. Refute it at one input. -/
def viewNamesWrong : ChangeSpec := { name := "viewNames", fn := fun _ => fun
  | [] => { results := [.lit (.bool false)], args := [] }
  | _ => none }
def ViewNamesWrongFalsely : Prop := viewNamesRow.holds Try.pinned (OpenSpec.ofChange viewNamesWrong)

/- THE SECOND FORM. 'bulk': how many values and letters a reading holds, each counted each time it is reached (what is shared counts as often as it is met; a slice's spare places count too). A statement '..UptoSaid' is the law's where the arguments, and the package variables that the reading takes, are together of bulk at most 1048576: NARROWER than '..Said'. Prove '..Said' where nothing that the law and all that it calls make is longer than what came in: it says more and counts as full. Else prove '..UptoSaid'. A law counts once. -/
mutual
def uptoBulk {H : Type} : DataW H → Nat
  | .lit (.string bytes) => bytes.length + 1
  | .lit _ => 1
  | .nil => 1
  | .ptr d => uptoBulk d + 1
  | .slice elems spare => uptoBulkAll elems + uptoBulkAll spare + 1
  | .agg parts => uptoBulkAll parts + 1
  | .iface _ d => uptoBulk d + 1
  | .map entries => uptoBulkEntries entries + 1
  | .held _ => 1
def uptoBulkAll {H : Type} : List (DataW H) → Nat
  | [] => 0
  | d :: r => uptoBulk d + uptoBulkAll r
def uptoBulkEntries {H : Type} : List (Lit × DataW H) → Nat
  | [] => 0
  | x :: r => uptoBulkEntry x + uptoBulkEntries r
def uptoBulkEntry {H : Type} : Lit × DataW H → Nat
  | (.string bytes, d) => bytes.length + uptoBulk d + 1
  | (_, d) => uptoBulk d + 1
 end
def uptoSmall : (H : Type) → List (DataW H) → Bool := fun _ ds => decide (uptoBulkAll ds ≤ 1048576)
def OpenSpec.upto (s : _root_.Go.ChangeSpec) : _root_.Go.OpenSpec := { _root_.Go.OpenSpec.ofChange s with cond := some uptoSmall }

/-- 'mullionlaw10.ViewRises', WHERE WHAT IT READS IS OF BULK AT MOST 1048576: true; the input reads as it did. -/
def viewRisesUptoRow : OpenClaim := { program := "ythclhmdgfekaeaa", sum := "79bf27cddbf987b5ac5f80c6231366b3d2418c19b29d0d3c0f50042cb011f995", func := "mullion/mullionlaw10.ViewRises", spec := "viewRises", inPlace := ["math/bits.Sub64", "math/bits.Add64"], named := ["math/bits.divideError", "math/bits.overflowError"], apart := false, narrowed := true }
def ViewRisesUptoSaid : Prop := viewRisesUptoRow.holds Try.pinned (OpenSpec.upto viewRisesSpec)

/-- 'mullionlaw10.ViewMirrors', WHERE WHAT IT READS IS OF BULK AT MOST 1048576: true; the input reads as it did. -/
def viewMirrorsUptoRow : OpenClaim := { program := "ythclhmdgfekaeaa", sum := "79bf27cddbf987b5ac5f80c6231366b3d2418c19b29d0d3c0f50042cb011f995", func := "mullion/mullionlaw10.ViewMirrors", spec := "viewMirrors", inPlace := ["math/bits.Sub64", "math/bits.Add64"], named := ["math/bits.divideError", "math/bits.overflowError"], apart := false, narrowed := true }
def ViewMirrorsUptoSaid : Prop := viewMirrorsUptoRow.holds Try.pinned (OpenSpec.upto viewMirrorsSpec)

/-- 'mullionlaw10.ViewScales', WHERE WHAT IT READS IS OF BULK AT MOST 1048576: true; the input reads as it did. -/
def viewScalesUptoRow : OpenClaim := { program := "ythclhmdgfekaeaa", sum := "79bf27cddbf987b5ac5f80c6231366b3d2418c19b29d0d3c0f50042cb011f995", func := "mullion/mullionlaw10.ViewScales", spec := "viewScales", inPlace := ["math/bits.Sub64", "math/bits.Add64"], named := ["math/bits.divideError", "math/bits.overflowError"], apart := false, narrowed := true }
def ViewScalesUptoSaid : Prop := viewScalesUptoRow.holds Try.pinned (OpenSpec.upto viewScalesSpec)

/-- 'mullionlaw10.ViewBounds', WHERE WHAT IT READS IS OF BULK AT MOST 1048576: true; the input reads as it did. -/
def viewBoundsUptoRow : OpenClaim := { program := "ythclhmdgfekaeaa", sum := "79bf27cddbf987b5ac5f80c6231366b3d2418c19b29d0d3c0f50042cb011f995", func := "mullion/mullionlaw10.ViewBounds", spec := "viewBounds", inPlace := ["math/bits.Sub64", "math/bits.Add64"], named := ["math/bits.divideError", "math/bits.overflowError"], apart := false, narrowed := true }
def ViewBoundsUptoSaid : Prop := viewBoundsUptoRow.holds Try.pinned (OpenSpec.upto viewBoundsSpec)

/-- 'mullionlaw10.ViewCorners', WHERE WHAT IT READS IS OF BULK AT MOST 1048576: true; the input reads as it did. -/
def viewCornersUptoRow : OpenClaim := { program := "ythclhmdgfekaeaa", sum := "79bf27cddbf987b5ac5f80c6231366b3d2418c19b29d0d3c0f50042cb011f995", func := "mullion/mullionlaw10.ViewCorners", spec := "viewCorners", inPlace := ["math/bits.Sub64", "math/bits.Add64"], unfollowed := true, recurses := true, named := ["math/bits.divideError", "math/bits.overflowError"], apart := false, narrowed := true }
def ViewCornersUptoSaid : Prop := viewCornersUptoRow.holds Try.pinned (OpenSpec.upto viewCornersSpec)

/-- 'mullionlaw10.ViewThrough', WHERE WHAT IT READS IS OF BULK AT MOST 1048576: true; the input reads as it did. -/
def viewThroughUptoRow : OpenClaim := { program := "ythclhmdgfekaeaa", sum := "79bf27cddbf987b5ac5f80c6231366b3d2418c19b29d0d3c0f50042cb011f995", func := "mullion/mullionlaw10.ViewThrough", spec := "viewThrough", inPlace := ["math/bits.Sub64", "math/bits.Add64"], unfollowed := true, recurses := true, named := ["math/bits.divideError", "math/bits.overflowError"], apart := false, narrowed := true }
def ViewThroughUptoSaid : Prop := viewThroughUptoRow.holds Try.pinned (OpenSpec.upto viewThroughSpec)

/-- 'mullionlaw10.ViewClips', WHERE WHAT IT READS IS OF BULK AT MOST 1048576: true; the input reads as it did. -/
def viewClipsUptoRow : OpenClaim := { program := "ythclhmdgfekaeaa", sum := "79bf27cddbf987b5ac5f80c6231366b3d2418c19b29d0d3c0f50042cb011f995", func := "mullion/mullionlaw10.ViewClips", spec := "viewClips", inPlace := ["math/bits.Sub64", "math/bits.Add64"], unfollowed := true, recurses := true, named := ["math/bits.divideError", "math/bits.overflowError"], apart := false, narrowed := true }
def ViewClipsUptoSaid : Prop := viewClipsUptoRow.holds Try.pinned (OpenSpec.upto viewClipsSpec)

/-- 'mullionlaw10.ViewMoves', WHERE WHAT IT READS IS OF BULK AT MOST 1048576: true; the input reads as it did. -/
def viewMovesUptoRow : OpenClaim := { program := "ythclhmdgfekaeaa", sum := "79bf27cddbf987b5ac5f80c6231366b3d2418c19b29d0d3c0f50042cb011f995", func := "mullion/mullionlaw10.ViewMoves", spec := "viewMoves", inPlace := ["math/bits.Sub64", "math/bits.Add64"], unfollowed := true, recurses := true, named := ["math/bits.divideError", "math/bits.overflowError"], apart := false, narrowed := true }
def ViewMovesUptoSaid : Prop := viewMovesUptoRow.holds Try.pinned (OpenSpec.upto viewMovesSpec)

/-- 'mullionlaw10.ViewNames', WHERE WHAT IT READS IS OF BULK AT MOST 1048576: true; the input reads as it did. -/
def viewNamesUptoRow : OpenClaim := { program := "ythclhmdgfekaeaa", sum := "79bf27cddbf987b5ac5f80c6231366b3d2418c19b29d0d3c0f50042cb011f995", func := "mullion/mullionlaw10.ViewNames", spec := "viewNames", inPlace := ["math/bits.Sub64", "math/bits.Add64"], unfollowed := true, recurses := true, named := ["math/bits.divideError", "math/bits.overflowError"], apart := false, narrowed := true }
def ViewNamesUptoSaid : Prop := viewNamesUptoRow.holds Try.pinned (OpenSpec.upto viewNamesSpec)

end Rows
end Go.Proofs.Ythclhmdgfekaeaa
