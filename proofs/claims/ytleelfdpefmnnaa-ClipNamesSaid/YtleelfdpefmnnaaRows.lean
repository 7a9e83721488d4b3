/-
  No cell of these rows narrows 'for every input' (looked for: loops, veiled, ifaces, maps, wideKeys, modest, calm, conditions, laid).
  DERIVED. THE GIVEN ROWS OF THIS SEAT. 6 by the template 'for every input the law returns true; each argument reads behind the call as it read before'; 0 by the template 'total and deterministic' (their statements: YtleelfdpefmnnaaTotals.lean).
  GIVEN WITH THE SEED: the statements are not yours to turn. If you find one false, say at which input.
  Laid BY PROGRAM, IN A SANDBOX (cutbox-rows.mjs): the forced cells as the released guide's own fill.sh prints them over the translation ae13c25d3df887cb… (all of the seat's roots in one cut). By AI agents, Wed Nov 11 2026. No macro, syntax, notation, axiom, sorry.
-/
import Derived.Test.YtleelfdpefmnnaaChecked
import GoSem.Claim
import GoSem.ClaimJoined
import GoSem.ClaimMapViews
import Derived.JoinedTies
import Derived.KernelRfl
namespace Go.Proofs.Ytleelfdpefmnnaa
/- THE CELL 'sum', in the pinned program and in every row, IS THE sha256 OF THE DUMP (.gsa) THAT YtleelfdpefmnnaaProg.lean LOADS. Nothing in Lean hashes anything: it is a label: what it is worth is what the hold of that sum in a sandbox is worth. -/
noncomputable def Try.pinned : Pinned := { name := "ytleelfdpefmnnaa", sum := "ae13c25d3df887cbc2ddff1edb6983c668e71a0e33944efce3151078133a0d82", checked := Try.checked }
namespace Rows
def none {H : Type} : Left H := { results := [], args := [] }

/-- 'mullionlaw09.ClipEdges': WHATEVER THE INPUT: true; the input reads as it did. -/
def clipEdgesSpec : ChangeSpec := { name := "clipEdges", fn := fun _ => fun
  | [d1, d2, d3] => { results := [.lit (.bool true)], args := [d1, d2, d3] }
  | _ => none }
def clipEdgesRow : OpenClaim := { program := "ytleelfdpefmnnaa", sum := "ae13c25d3df887cbc2ddff1edb6983c668e71a0e33944efce3151078133a0d82", func := "mullion/mullionlaw09.ClipEdges", spec := "clipEdges", inPlace := ["math/bits.Sub64", "math/bits.Add64"], named := ["math/bits.divideError", "math/bits.overflowError"], apart := false }
def ClipEdgesSaid : Prop := clipEdgesRow.holds Try.pinned (OpenSpec.ofChange clipEdgesSpec)

/-- ITS FALSE NEIGHBOUR: 'it returns false'. Refute it at one input. -/
def clipEdgesWrong : ChangeSpec := { name := "clipEdges", fn := fun _ => fun
  | [d1, d2, d3] => { results := [.lit (.bool false)], args := [d1, d2, d3] }
  | _ => none }
def ClipEdgesWrongFalsely : Prop := clipEdgesRow.holds Try.pinned (OpenSpec.ofChange clipEdgesWrong)

/-- 'mullionlaw09.ClipTriangles': WHATEVER THE INPUT: true; the input reads as it did. -/
def clipTrianglesSpec : ChangeSpec := { name := "clipTriangles", fn := fun _ => fun
  | [d1, d2, d3] => { results := [.lit (.bool true)], args := [d1, d2, d3] }
  | _ => none }
def clipTrianglesRow : OpenClaim := { program := "ytleelfdpefmnnaa", sum := "ae13c25d3df887cbc2ddff1edb6983c668e71a0e33944efce3151078133a0d82", func := "mullion/mullionlaw09.ClipTriangles", spec := "clipTriangles", inPlace := ["math/bits.Sub64", "math/bits.Add64"], unfollowed := true, recurses := true, named := ["math/bits.divideError", "math/bits.overflowError"], apart := false }
def ClipTrianglesSaid : Prop := clipTrianglesRow.holds Try.pinned (OpenSpec.ofChange clipTrianglesSpec)

/-- ITS FALSE NEIGHBOUR: 'it returns false'. Refute it at one input. -/
def clipTrianglesWrong : ChangeSpec := { name := "clipTriangles", fn := fun _ => fun
  | [d1, d2, d3] => { results := [.lit (.bool false)], args := [d1, d2, d3] }
  | _ => none }
def ClipTrianglesWrongFalsely : Prop := clipTrianglesRow.holds Try.pinned (OpenSpec.ofChange clipTrianglesWrong)

/-- 'mullionlaw09.ClipPlanes': WHATEVER THE INPUT: true; the input reads as it did. -/
def clipPlanesSpec : ChangeSpec := { name := "clipPlanes", fn := fun _ => fun
  | [d1, d2, d3, d4] => { results := [.lit (.bool true)], args := [d1, d2, d3, d4] }
  | _ => none }
def clipPlanesRow : OpenClaim := { program := "ytleelfdpefmnnaa", sum := "ae13c25d3df887cbc2ddff1edb6983c668e71a0e33944efce3151078133a0d82", func := "mullion/mullionlaw09.ClipPlanes", spec := "clipPlanes", inPlace := ["math/bits.Sub64", "math/bits.Add64"], unfollowed := true, recurses := true, named := ["math/bits.divideError", "math/bits.overflowError"], apart := false }
def ClipPlanesSaid : Prop := clipPlanesRow.holds Try.pinned (OpenSpec.ofChange clipPlanesSpec)

/-- ITS FALSE NEIGHBOUR: 'it returns false'. Refute it at one input. -/
def clipPlanesWrong : ChangeSpec := { name := "clipPlanes", fn := fun _ => fun
  | [d1, d2, d3, d4] => { results := [.lit (.bool false)], args := [d1, d2, d3, d4] }
  | _ => none }
def ClipPlanesWrongFalsely : Prop := clipPlanesRow.holds Try.pinned (OpenSpec.ofChange clipPlanesWrong)

/-- 'mullionlaw09.ClipInside': WHATEVER THE INPUT: true; the input reads as it did. -/
def clipInsideSpec : ChangeSpec := { name := "clipInside", fn := fun _ => fun
  | [d1, d2, d3] => { results := [.lit (.bool true)], args := [d1, d2, d3] }
  | _ => none }
def clipInsideRow : OpenClaim := { program := "ytleelfdpefmnnaa", sum := "ae13c25d3df887cbc2ddff1edb6983c668e71a0e33944efce3151078133a0d82", func := "mullion/mullionlaw09.ClipInside", spec := "clipInside", inPlace := ["math/bits.Sub64", "math/bits.Add64"], unfollowed := true, recurses := true, named := ["math/bits.divideError", "math/bits.overflowError"], apart := false }
def ClipInsideSaid : Prop := clipInsideRow.holds Try.pinned (OpenSpec.ofChange clipInsideSpec)

/-- ITS FALSE NEIGHBOUR: 'it returns false'. Refute it at one input. -/
def clipInsideWrong : ChangeSpec := { name := "clipInside", fn := fun _ => fun
  | [d1, d2, d3] => { results := [.lit (.bool false)], args := [d1, d2, d3] }
  | _ => none }
def ClipInsideWrongFalsely : Prop := clipInsideRow.holds Try.pinned (OpenSpec.ofChange clipInsideWrong)

/-- 'mullionlaw09.ClipRound': WHATEVER THE INPUT: true; the input reads as it did. -/
def clipRoundSpec : ChangeSpec := { name := "clipRound", fn := fun _ => fun
  | [d1, d2, d3] => { results := [.lit (.bool true)], args := [d1, d2, d3] }
  | _ => none }
def clipRoundRow : OpenClaim := { program := "ytleelfdpefmnnaa", sum := "ae13c25d3df887cbc2ddff1edb6983c668e71a0e33944efce3151078133a0d82", func := "mullion/mullionlaw09.ClipRound", spec := "clipRound", inPlace := ["math/bits.Sub64", "math/bits.Add64"], unfollowed := true, recurses := true, named := ["math/bits.divideError", "math/bits.overflowError"], apart := false }
def ClipRoundSaid : Prop := clipRoundRow.holds Try.pinned (OpenSpec.ofChange clipRoundSpec)

/-- ITS FALSE NEIGHBOUR: 'it returns false'. Refute it at one input. -/
def clipRoundWrong : ChangeSpec := { name := "clipRound", fn := fun _ => fun
  | [d1, d2, d3] => { results := [.lit (.bool false)], args := [d1, d2, d3] }
  | _ => none }
def ClipRoundWrongFalsely : Prop := clipRoundRow.holds Try.pinned (OpenSpec.ofChange clipRoundWrong)

/-- 'mullionlaw09.ClipNames': WHATEVER THE INPUT: true; the input reads as it did. -/
def clipNamesSpec : ChangeSpec := { name := "clipNames", fn := fun _ => fun
  | [] => { results := [.lit (.bool true)], args := [] }
  | _ => none }
def clipNamesRow : OpenClaim := { program := "ytleelfdpefmnnaa", sum := "ae13c25d3df887cbc2ddff1edb6983c668e71a0e33944efce3151078133a0d82", func := "mullion/mullionlaw09.ClipNames", spec := "clipNames", inPlace := ["math/bits.Sub64", "math/bits.Add64"], unfollowed := true, recurses := true, named := ["math/bits.divideError", "math/bits.overflowError"], apart := false }
def ClipNamesSaid : Prop := clipNamesRow.holds Try.pinned (OpenSpec.ofChange clipNamesSpec)

/-- ITS FALSE NEIGHBOUR: 'it returns false'. Refute it at one input. -/
def clipNamesWrong : ChangeSpec := { name := "clipNames", fn := fun _ => fun
  | [] => { results := [.lit (.bool false)], args := [] }
  | _ => none }
def ClipNamesWrongFalsely : Prop := clipNamesRow.holds Try.pinned (OpenSpec.ofChange clipNamesWrong)

/- THE SECOND FORM. 'bulk': how many values and letters a reading holds, each counted each time it is reached (what is shared counts as often as it is met; a slice's spare places count too). A statement '..UptoSaid' is the law's where the arguments, and the package variables that the reading takes, are together of bulk at most 1048576: NARROWER than '..Said'. Prove '..Said' where nothing that the law and all that it calls make is longer than what came in: it says more and counts as full. Else prove '..UptoSaid'. A law counts once. -/
mutual
def uptoBulk {H : Type} : DataW H → Nat
  | .lit (.string bytes) => bytes.length + 1
  | .lit _ => 1
  | .nil => 1
  | .ptr d => uptoBulk d + 1
  | .slice elems spare => uptoBulkAll elems + uptoBulkAll spare + 1
  | .agg parts => uptoBulkAll parts + 1
  | .iface _ d => uptoBulk d + 1
  | .map entries => uptoBulkEntries entries + 1
  | .held _ => 1
def uptoBulkAll {H : Type} : List (DataW H) → Nat
  | [] => 0
  | d :: r => uptoBulk d + uptoBulkAll r
def uptoBulkEntries {H : Type} : List (Lit × DataW H) → Nat
  | [] => 0
  | x :: r => uptoBulkEntry x + uptoBulkEntries r
def uptoBulkEntry {H : Type} : Lit × DataW H → Nat
  | (.string bytes, d) => bytes.length + uptoBulk d + 1
  | (_, d) => uptoBulk d + 1
 end
def uptoSmall : (H : Type) → List (DataW H) → Bool := fun _ ds => decide (uptoBulkAll ds ≤ 1048576)
def OpenSpec.upto (s : _root_.Go.ChangeSpec) : _root_.Go.OpenSpec := { _root_.Go.OpenSpec.ofChange s with cond := some uptoSmall }

/-- 'mullionlaw09.ClipEdges', WHERE WHAT IT READS IS OF BULK AT MOST 1048576: true; the input reads as it did. -/
def clipEdgesUptoRow : OpenClaim := { program := "ytleelfdpefmnnaa", sum := "ae13c25d3df887cbc2ddff1edb6983c668e71a0e33944efce3151078133a0d82", func := "mullion/mullionlaw09.ClipEdges", spec := "clipEdges", inPlace := ["math/bits.Sub64", "math/bits.Add64"], named := ["math/bits.divideError", "math/bits.overflowError"], apart := false, narrowed := true }
def ClipEdgesUptoSaid : Prop := clipEdgesUptoRow.holds Try.pinned (OpenSpec.upto clipEdgesSpec)

/-- 'mullionlaw09.ClipTriangles', WHERE WHAT IT READS IS OF BULK AT MOST 1048576: true; the input reads as it did. -/
def clipTrianglesUptoRow : OpenClaim := { program := "ytleelfdpefmnnaa", sum := "ae13c25d3df887cbc2ddff1edb6983c668e71a0e33944efce3151078133a0d82", func := "mullion/mullionlaw09.ClipTriangles", spec := "clipTriangles", inPlace := ["math/bits.Sub64", "math/bits.Add64"], unfollowed := true, recurses := true, named := ["math/bits.divideError", "math/bits.overflowError"], apart := false, narrowed := true }
def ClipTrianglesUptoSaid : Prop := clipTrianglesUptoRow.holds Try.pinned (OpenSpec.upto clipTrianglesSpec)

/-- 'mullionlaw09.ClipPlanes', WHERE WHAT IT READS IS OF BULK AT MOST 1048576: true; the input reads as it did. -/
def clipPlanesUptoRow : OpenClaim := { program := "ytleelfdpefmnnaa", sum := "ae13c25d3df887cbc2ddff1edb6983c668e71a0e33944efce3151078133a0d82", func := "mullion/mullionlaw09.ClipPlanes", spec := "clipPlanes", inPlace := ["math/bits.Sub64", "math/bits.Add64"], unfollowed := true, recurses := true, named := ["math/bits.divideError", "math/bits.overflowError"], apart := false, narrowed := true }
def ClipPlanesUptoSaid : Prop := clipPlanesUptoRow.holds Try.pinned (OpenSpec.upto clipPlanesSpec)

/-- 'mullionlaw09.ClipInside', WHERE WHAT IT READS IS OF BULK AT MOST 1048576: true; the input reads as it did. -/
def clipInsideUptoRow : OpenClaim := { program := "ytleelfdpefmnnaa", sum := "ae13c25d3df887cbc2ddff1edb6983c668e71a0e33944efce3151078133a0d82", func := "mullion/mullionlaw09.ClipInside", spec := "clipInside", inPlace := ["math/bits.Sub64", "math/bits.Add64"], unfollowed := true, recurses := true, named := ["math/bits.divideError", "math/bits.overflowError"], apart := false, narrowed := true }
def ClipInsideUptoSaid : Prop := clipInsideUptoRow.holds Try.pinned (OpenSpec.upto clipInsideSpec)

/-- 'mullionlaw09.ClipRound', WHERE WHAT IT READS IS OF BULK AT MOST 1048576: true; the input reads as it did. -/
def clipRoundUptoRow : OpenClaim := { program := "ytleelfdpefmnnaa", sum := "ae13c25d3df887cbc2ddff1edb6983c668e71a0e33944efce3151078133a0d82", func := "mullion/mullionlaw09.ClipRound", spec := "clipRound", inPlace := ["math/bits.Sub64", "math/bits.Add64"], unfollowed := true, recurses := true, named := ["math/bits.divideError", "math/bits.overflowError"], apart := false, narrowed := true }
def ClipRoundUptoSaid : Prop := clipRoundUptoRow.holds Try.pinned (OpenSpec.upto clipRoundSpec)

/-- 'mullionlaw09.ClipNames', WHERE WHAT IT READS IS OF BULK AT MOST 1048576: true; the input reads as it did. -/
def clipNamesUptoRow : OpenClaim := { program := "ytleelfdpefmnnaa", sum := "ae13c25d3df887cbc2ddff1edb6983c668e71a0e33944efce3151078133a0d82", func := "mullion/mullionlaw09.ClipNames", spec := "clipNames", inPlace := ["math/bits.Sub64", "math/bits.Add64"], unfollowed := true, recurses := true, named := ["math/bits.divideError", "math/bits.overflowError"], apart := false, narrowed := true }
def ClipNamesUptoSaid : Prop := clipNamesUptoRow.holds Try.pinned (OpenSpec.upto clipNamesSpec)

end Rows
end Go.Proofs.Ytleelfdpefmnnaa
