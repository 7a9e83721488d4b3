/-
  No cell of these rows narrows 'for every input' (looked for: loops, veiled, ifaces, maps, wideKeys, modest, calm, conditions, laid).
  DERIVED. THE GIVEN ROWS OF THIS SEAT. 5 by the template 'for every input the law returns true; each argument reads behind the call as it read before'; 0 by the template 'total and deterministic' (their statements: YtafhojmnbpegpaaGreatTotals.lean).
  GIVEN WITH THE SEED: the statements are not yours to turn. If you find one false, say at which input.
  Laid BY PROGRAM, IN A SANDBOX (cutbox-rows.mjs): the forced cells as the released guide's own fill.sh prints them over the translation 32e805f05a79b9cb… (all of the seat's roots in one cut). By AI agents, Wed Nov 11 2026. No macro, syntax, notation, axiom, sorry.
-/
import Derived.Test.YtafhojmnbpegpaaGreatChecked
import GoSem.Claim
import GoSem.ClaimJoined
import GoSem.ClaimMapViews
import Derived.JoinedTies
import Derived.KernelRfl
namespace Go.Proofs.YtafhojmnbpegpaaGreat
/- THE CELL 'sum', in the pinned program and in every row, IS THE sha256 OF THE DUMP (.gsa) THAT YtafhojmnbpegpaaGreatProg.lean LOADS. Nothing in Lean hashes anything: it is a label: what it is worth is what the hold of that sum in a sandbox is worth. -/
noncomputable def Tryz.pinned : Pinned := { name := "ytafhojmnbpegpaagreat", sum := "32e805f05a79b9cba872c4a41c090a6f056ddc5a33df5e27a7713bf32c50c518", checked := Tryz.checked }
namespace Rows
def none {H : Type} : Left H := { results := [], args := [] }

/-- 'mullionlaw07.FormatWrites': WHATEVER THE INPUT: true; the input reads as it did. -/
def formatWritesSpec : ChangeSpec := { name := "formatWrites", fn := fun _ => fun
  | [d] => { results := [.lit (.bool true)], args := [d] }
  | _ => none }
def formatWritesRow : OpenClaim := { program := "ytafhojmnbpegpaagreat", sum := "32e805f05a79b9cba872c4a41c090a6f056ddc5a33df5e27a7713bf32c50c518", func := "mullion/mullionlaw07.FormatWrites", spec := "formatWrites", inPlace := ["math/bits.Sub64", "math/bits.Add64"], unfollowed := true, recurses := true, named := ["math/bits.divideError", "math/bits.overflowError"], apart := false }
def FormatWritesSaid : Prop := formatWritesRow.holds Tryz.pinned (OpenSpec.ofChange formatWritesSpec)

/-- ITS FALSE NEIGHBOUR: 'it returns false'. Refute it at one input. -/
def formatWritesWrong : ChangeSpec := { name := "formatWrites", fn := fun _ => fun
  | [d] => { results := [.lit (.bool false)], args := [d] }
  | _ => none }
def FormatWritesWrongFalsely : Prop := formatWritesRow.holds Tryz.pinned (OpenSpec.ofChange formatWritesWrong)

/-- 'mullionlaw07.FormatReads': WHATEVER THE INPUT: true; the input reads as it did. -/
def formatReadsSpec : ChangeSpec := { name := "formatReads", fn := fun _ => fun
  | [d] => { results := [.lit (.bool true)], args := [d] }
  | _ => none }
def formatReadsRow : OpenClaim := { program := "ytafhojmnbpegpaagreat", sum := "32e805f05a79b9cba872c4a41c090a6f056ddc5a33df5e27a7713bf32c50c518", func := "mullion/mullionlaw07.FormatReads", spec := "formatReads", inPlace := ["math/bits.Sub64", "math/bits.Add64"], unfollowed := true, recurses := true, named := ["math/bits.divideError", "math/bits.overflowError"], apart := false }
def FormatReadsSaid : Prop := formatReadsRow.holds Tryz.pinned (OpenSpec.ofChange formatReadsSpec)

/-- ITS FALSE NEIGHBOUR: 'it returns false'. Refute it at one input. -/
def formatReadsWrong : ChangeSpec := { name := "formatReads", fn := fun _ => fun
  | [d] => { results := [.lit (.bool false)], args := [d] }
  | _ => none }
def FormatReadsWrongFalsely : Prop := formatReadsRow.holds Tryz.pinned (OpenSpec.ofChange formatReadsWrong)

/-- 'mullionlaw07.FormatFilms': WHATEVER THE INPUT: true; the input reads as it did. -/
def formatFilmsSpec : ChangeSpec := { name := "formatFilms", fn := fun _ => fun
  | [d1, d2] => { results := [.lit (.bool true)], args := [d1, d2] }
  | _ => none }
def formatFilmsRow : OpenClaim := { program := "ytafhojmnbpegpaagreat", sum := "32e805f05a79b9cba872c4a41c090a6f056ddc5a33df5e27a7713bf32c50c518", func := "mullion/mullionlaw07.FormatFilms", spec := "formatFilms", inPlace := ["math/bits.Sub64", "math/bits.Add64"], unfollowed := true, recurses := true, named := ["math/bits.divideError", "math/bits.overflowError"], apart := false }
def FormatFilmsSaid : Prop := formatFilmsRow.holds Tryz.pinned (OpenSpec.ofChange formatFilmsSpec)

/-- ITS FALSE NEIGHBOUR: 'it returns false'. Refute it at one input. -/
def formatFilmsWrong : ChangeSpec := { name := "formatFilms", fn := fun _ => fun
  | [d1, d2] => { results := [.lit (.bool false)], args := [d1, d2] }
  | _ => none }
def FormatFilmsWrongFalsely : Prop := formatFilmsRow.holds Tryz.pinned (OpenSpec.ofChange formatFilmsWrong)

/-- 'mullionlaw07.FormatReels': WHATEVER THE INPUT: true; the input reads as it did. -/
def formatReelsSpec : ChangeSpec := { name := "formatReels", fn := fun _ => fun
  | [d1, d2] => { results := [.lit (.bool true)], args := [d1, d2] }
  | _ => none }
def formatReelsRow : OpenClaim := { program := "ytafhojmnbpegpaagreat", sum := "32e805f05a79b9cba872c4a41c090a6f056ddc5a33df5e27a7713bf32c50c518", func := "mullion/mullionlaw07.FormatReels", spec := "formatReels", inPlace := ["math/bits.Sub64", "math/bits.Add64"], unfollowed := true, recurses := true, named := ["math/bits.divideError", "math/bits.overflowError"], apart := false }
def FormatReelsSaid : Prop := formatReelsRow.holds Tryz.pinned (OpenSpec.ofChange formatReelsSpec)

/-- ITS FALSE NEIGHBOUR: 'it returns false'. Refute it at one input. -/
def formatReelsWrong : ChangeSpec := { name := "formatReels", fn := fun _ => fun
  | [d1, d2] => { results := [.lit (.bool false)], args := [d1, d2] }
  | _ => none }
def FormatReelsWrongFalsely : Prop := formatReelsRow.holds Tryz.pinned (OpenSpec.ofChange formatReelsWrong)

/-- 'mullionlaw07.FormatNames': WHATEVER THE INPUT: true; the input reads as it did. -/
def formatNamesSpec : ChangeSpec := { name := "formatNames", fn := fun _ => fun
  | [] => { results := [.lit (.bool true)], args := [] }
  | _ => none }
def formatNamesRow : OpenClaim := { program := "ytafhojmnbpegpaagreat", sum := "32e805f05a79b9cba872c4a41c090a6f056ddc5a33df5e27a7713bf32c50c518", func := "mullion/mullionlaw07.FormatNames", spec := "formatNames", inPlace := ["math/bits.Sub64", "math/bits.Add64"], unfollowed := true, recurses := true, named := ["math/bits.divideError", "math/bits.overflowError"], apart := false }
def FormatNamesSaid : Prop := formatNamesRow.holds Tryz.pinned (OpenSpec.ofChange formatNamesSpec)

/-- ITS FALSE NEIGHBOUR: 'it returns false'. Refute it at one input. -/
def formatNamesWrong : ChangeSpec := { name := "formatNames", fn := fun _ => fun
  | [] => { results := [.lit (.bool false)], args := [] }
  | _ => none }
def FormatNamesWrongFalsely : Prop := formatNamesRow.holds Tryz.pinned (OpenSpec.ofChange formatNamesWrong)

/- THE SECOND FORM. 'bulk': how many values and letters a reading holds, each counted each time it is reached (what is shared counts as often as it is met; a slice's spare places count too). A statement '..UptoSaid' is the law's where the arguments, and the package variables that the reading takes, are together of bulk at most 1048576: NARROWER than '..Said'. Prove '..Said' where nothing that the law and all that it calls make is longer than what came in: it says more and counts as full. Else prove '..UptoSaid'. A law counts once. -/
mutual
def uptoBulk {H : Type} : DataW H → Nat
  | .lit (.string bytes) => bytes.length + 1
  | .lit _ => 1
  | .nil => 1
  | .ptr d => uptoBulk d + 1
  | .slice elems spare => uptoBulkAll elems + uptoBulkAll spare + 1
  | .agg parts => uptoBulkAll parts + 1
  | .iface _ d => uptoBulk d + 1
  | .map entries => uptoBulkEntries entries + 1
  | .held _ => 1
def uptoBulkAll {H : Type} : List (DataW H) → Nat
  | [] => 0
  | d :: r => uptoBulk d + uptoBulkAll r
def uptoBulkEntries {H : Type} : List (Lit × DataW H) → Nat
  | [] => 0
  | x :: r => uptoBulkEntry x + uptoBulkEntries r
def uptoBulkEntry {H : Type} : Lit × DataW H → Nat
  | (.string bytes, d) => bytes.length + uptoBulk d + 1
  | (_, d) => uptoBulk d + 1
 end
def uptoSmall : (H : Type) → List (DataW H) → Bool := fun _ ds => decide (uptoBulkAll ds ≤ 1048576)
def OpenSpec.upto (s : _root_.Go.ChangeSpec) : _root_.Go.OpenSpec := { _root_.Go.OpenSpec.ofChange s with cond := some uptoSmall }

/-- 'mullionlaw07.FormatWrites', WHERE WHAT IT READS IS OF BULK AT MOST 1048576: true; the input reads as it did. -/
def formatWritesUptoRow : OpenClaim := { program := "ytafhojmnbpegpaagreat", sum := "32e805f05a79b9cba872c4a41c090a6f056ddc5a33df5e27a7713bf32c50c518", func := "mullion/mullionlaw07.FormatWrites", spec := "formatWrites", inPlace := ["math/bits.Sub64", "math/bits.Add64"], unfollowed := true, recurses := true, named := ["math/bits.divideError", "math/bits.overflowError"], apart := false, narrowed := true }
def FormatWritesUptoSaid : Prop := formatWritesUptoRow.holds Tryz.pinned (OpenSpec.upto formatWritesSpec)

/-- 'mullionlaw07.FormatReads', WHERE WHAT IT READS IS OF BULK AT MOST 1048576: true; the input reads as it did. -/
def formatReadsUptoRow : OpenClaim := { program := "ytafhojmnbpegpaagreat", sum := "32e805f05a79b9cba872c4a41c090a6f056ddc5a33df5e27a7713bf32c50c518", func := "mullion/mullionlaw07.FormatReads", spec := "formatReads", inPlace := ["math/bits.Sub64", "math/bits.Add64"], unfollowed := true, recurses := true, named := ["math/bits.divideError", "math/bits.overflowError"], apart := false, narrowed := true }
def FormatReadsUptoSaid : Prop := formatReadsUptoRow.holds Tryz.pinned (OpenSpec.upto formatReadsSpec)

/-- 'mullionlaw07.FormatFilms', WHERE WHAT IT READS IS OF BULK AT MOST 1048576: true; the input reads as it did. -/
def formatFilmsUptoRow : OpenClaim := { program := "ytafhojmnbpegpaagreat", sum := "32e805f05a79b9cba872c4a41c090a6f056ddc5a33df5e27a7713bf32c50c518", func := "mullion/mullionlaw07.FormatFilms", spec := "formatFilms", inPlace := ["math/bits.Sub64", "math/bits.Add64"], unfollowed := true, recurses := true, named := ["math/bits.divideError", "math/bits.overflowError"], apart := false, narrowed := true }
def FormatFilmsUptoSaid : Prop := formatFilmsUptoRow.holds Tryz.pinned (OpenSpec.upto formatFilmsSpec)

/-- 'mullionlaw07.FormatReels', WHERE WHAT IT READS IS OF BULK AT MOST 1048576: true; the input reads as it did. -/
def formatReelsUptoRow : OpenClaim := { program := "ytafhojmnbpegpaagreat", sum := "32e805f05a79b9cba872c4a41c090a6f056ddc5a33df5e27a7713bf32c50c518", func := "mullion/mullionlaw07.FormatReels", spec := "formatReels", inPlace := ["math/bits.Sub64", "math/bits.Add64"], unfollowed := true, recurses := true, named := ["math/bits.divideError", "math/bits.overflowError"], apart := false, narrowed := true }
def FormatReelsUptoSaid : Prop := formatReelsUptoRow.holds Tryz.pinned (OpenSpec.upto formatReelsSpec)

/-- 'mullionlaw07.FormatNames', WHERE WHAT IT READS IS OF BULK AT MOST 1048576: true; the input reads as it did. -/
def formatNamesUptoRow : OpenClaim := { program := "ytafhojmnbpegpaagreat", sum := "32e805f05a79b9cba872c4a41c090a6f056ddc5a33df5e27a7713bf32c50c518", func := "mullion/mullionlaw07.FormatNames", spec := "formatNames", inPlace := ["math/bits.Sub64", "math/bits.Add64"], unfollowed := true, recurses := true, named := ["math/bits.divideError", "math/bits.overflowError"], apart := false, narrowed := true }
def FormatNamesUptoSaid : Prop := formatNamesUptoRow.holds Tryz.pinned (OpenSpec.upto formatNamesSpec)

end Rows
end Go.Proofs.YtafhojmnbpegpaaGreat
