/-
  No cell of these rows narrows 'for every input' (looked for: loops, veiled, ifaces, maps, wideKeys, modest, calm, conditions, laid).
  DERIVED. THE GIVEN ROWS OF THIS SEAT. 4 by the template 'for every input the law returns true; each argument reads behind the call as it read before'; 0 by the template 'total and deterministic' (their statements: YtjcabgoanlhhnaaTotals.lean).
  GIVEN WITH THE SEED: the statements are not yours to turn. If you find one false, say at which input.
  Laid BY PROGRAM, IN A SANDBOX (cutbox-rows.mjs): the forced cells as the released guide's own fill.sh prints them over the translation 89c3c7cb0738bae8… (all of the seat's roots in one cut). By AI agents, Wed Nov 11 2026. No macro, syntax, notation, axiom, sorry.
-/
import Derived.Test.YtjcabgoanlhhnaaChecked
import GoSem.Claim
import GoSem.ClaimJoined
import GoSem.ClaimMapViews
import Derived.JoinedTies
import Derived.KernelRfl
namespace Go.Proofs.Ytjcabgoanlhhnaa
/- THE CELL 'sum', in the pinned program and in every row, IS THE sha256 OF THE DUMP (.gsa) THAT YtjcabgoanlhhnaaProg.lean LOADS. Nothing in Lean hashes anything: it is a label: what it is worth is what the hold of that sum in a sandbox is worth. -/
noncomputable def Try.pinned : Pinned := { name := "ytjcabgoanlhhnaa", sum := "89c3c7cb0738bae8d4ff531a0721c970fa9b0bdb3cecbda370cfebdc70c4e3a8", checked := Try.checked }
namespace Rows
def none {H : Type} : Left H := { results := [], args := [] }

/-- 'mullionlaw13.PixelNearest': WHATEVER THE INPUT: true; the input reads as it did. -/
def pixelNearestSpec : ChangeSpec := { name := "pixelNearest", fn := fun _ => fun
  | [d1, d2, d3, d4] => { results := [.lit (.bool true)], args := [d1, d2, d3, d4] }
  | _ => none }
def pixelNearestRow : OpenClaim := { program := "ytjcabgoanlhhnaa", sum := "89c3c7cb0738bae8d4ff531a0721c970fa9b0bdb3cecbda370cfebdc70c4e3a8", func := "mullion/mullionlaw13.PixelNearest", spec := "pixelNearest", unfollowed := true, recurses := true, apart := false }
def PixelNearestSaid : Prop := pixelNearestRow.holds Try.pinned (OpenSpec.ofChange pixelNearestSpec)

/-- ITS FALSE NEIGHBOUR: 'it returns false'. Refute it at one input. -/
def pixelNearestWrong : ChangeSpec := { name := "pixelNearest", fn := fun _ => fun
  | [d1, d2, d3, d4] => { results := [.lit (.bool false)], args := [d1, d2, d3, d4] }
  | _ => none }
def PixelNearestWrongFalsely : Prop := pixelNearestRow.holds Try.pinned (OpenSpec.ofChange pixelNearestWrong)

/-- 'mullionlaw13.PixelTells': WHATEVER THE INPUT: true; the input reads as it did. -/
def pixelTellsSpec : ChangeSpec := { name := "pixelTells", fn := fun _ => fun
  | [d1, d2, d3, d4] => { results := [.lit (.bool true)], args := [d1, d2, d3, d4] }
  | _ => none }
def pixelTellsRow : OpenClaim := { program := "ytjcabgoanlhhnaa", sum := "89c3c7cb0738bae8d4ff531a0721c970fa9b0bdb3cecbda370cfebdc70c4e3a8", func := "mullion/mullionlaw13.PixelTells", spec := "pixelTells", unfollowed := true, recurses := true, apart := false }
def PixelTellsSaid : Prop := pixelTellsRow.holds Try.pinned (OpenSpec.ofChange pixelTellsSpec)

/-- ITS FALSE NEIGHBOUR: 'it returns false'. Refute it at one input. -/
def pixelTellsWrong : ChangeSpec := { name := "pixelTells", fn := fun _ => fun
  | [d1, d2, d3, d4] => { results := [.lit (.bool false)], args := [d1, d2, d3, d4] }
  | _ => none }
def PixelTellsWrongFalsely : Prop := pixelTellsRow.holds Try.pinned (OpenSpec.ofChange pixelTellsWrong)

/-- 'mullionlaw13.PixelForms': WHATEVER THE INPUT: true; the input reads as it did. -/
def pixelFormsSpec : ChangeSpec := { name := "pixelForms", fn := fun _ => fun
  | [d1, d2] => { results := [.lit (.bool true)], args := [d1, d2] }
  | _ => none }
def pixelFormsRow : OpenClaim := { program := "ytjcabgoanlhhnaa", sum := "89c3c7cb0738bae8d4ff531a0721c970fa9b0bdb3cecbda370cfebdc70c4e3a8", func := "mullion/mullionlaw13.PixelForms", spec := "pixelForms", unfollowed := true, recurses := true, apart := false }
def PixelFormsSaid : Prop := pixelFormsRow.holds Try.pinned (OpenSpec.ofChange pixelFormsSpec)

/-- ITS FALSE NEIGHBOUR: 'it returns false'. Refute it at one input. -/
def pixelFormsWrong : ChangeSpec := { name := "pixelForms", fn := fun _ => fun
  | [d1, d2] => { results := [.lit (.bool false)], args := [d1, d2] }
  | _ => none }
def PixelFormsWrongFalsely : Prop := pixelFormsRow.holds Try.pinned (OpenSpec.ofChange pixelFormsWrong)

/-- 'mullionlaw13.PixelBack': WHATEVER THE INPUT: true; the input reads as it did. -/
def pixelBackSpec : ChangeSpec := { name := "pixelBack", fn := fun _ => fun
  | [d1, d2] => { results := [.lit (.bool true)], args := [d1, d2] }
  | _ => none }
def pixelBackRow : OpenClaim := { program := "ytjcabgoanlhhnaa", sum := "89c3c7cb0738bae8d4ff531a0721c970fa9b0bdb3cecbda370cfebdc70c4e3a8", func := "mullion/mullionlaw13.PixelBack", spec := "pixelBack", unfollowed := true, recurses := true, apart := false }
def PixelBackSaid : Prop := pixelBackRow.holds Try.pinned (OpenSpec.ofChange pixelBackSpec)

/-- ITS FALSE NEIGHBOUR: 'it returns false'. Refute it at one input. -/
def pixelBackWrong : ChangeSpec := { name := "pixelBack", fn := fun _ => fun
  | [d1, d2] => { results := [.lit (.bool false)], args := [d1, d2] }
  | _ => none }
def PixelBackWrongFalsely : Prop := pixelBackRow.holds Try.pinned (OpenSpec.ofChange pixelBackWrong)

/- THE SECOND FORM. 'bulk': how many values and letters a reading holds, each counted each time it is reached (what is shared counts as often as it is met; a slice's spare places count too). A statement '..UptoSaid' is the law's where the arguments, and the package variables that the reading takes, are together of bulk at most 1048576: NARROWER than '..Said'. Prove '..Said' where nothing that the law and all that it calls make is longer than what came in: it says more and counts as full. Else prove '..UptoSaid'. A law counts once. -/
mutual
def uptoBulk {H : Type} : DataW H → Nat
  | .lit (.string bytes) => bytes.length + 1
  | .lit _ => 1
  | .nil => 1
  | .ptr d => uptoBulk d + 1
  | .slice elems spare => uptoBulkAll elems + uptoBulkAll spare + 1
  | .agg parts => uptoBulkAll parts + 1
  | .iface _ d => uptoBulk d + 1
  | .map entries => uptoBulkEntries entries + 1
  | .held _ => 1
def uptoBulkAll {H : Type} : List (DataW H) → Nat
  | [] => 0
  | d :: r => uptoBulk d + uptoBulkAll r
def uptoBulkEntries {H : Type} : List (Lit × DataW H) → Nat
  | [] => 0
  | x :: r => uptoBulkEntry x + uptoBulkEntries r
def uptoBulkEntry {H : Type} : Lit × DataW H → Nat
  | (.string bytes, d) => bytes.length + uptoBulk d + 1
  | (_, d) => uptoBulk d + 1
 end
def uptoSmall : (H : Type) → List (DataW H) → Bool := fun _ ds => decide (uptoBulkAll ds ≤ 1048576)
def OpenSpec.upto (s : _root_.Go.ChangeSpec) : _root_.Go.OpenSpec := { _root_.Go.OpenSpec.ofChange s with cond := some uptoSmall }

/-- 'mullionlaw13.PixelNearest', WHERE WHAT IT READS IS OF BULK AT MOST 1048576: true; the input reads as it did. -/
def pixelNearestUptoRow : OpenClaim := { program := "ytjcabgoanlhhnaa", sum := "89c3c7cb0738bae8d4ff531a0721c970fa9b0bdb3cecbda370cfebdc70c4e3a8", func := "mullion/mullionlaw13.PixelNearest", spec := "pixelNearest", unfollowed := true, recurses := true, apart := false, narrowed := true }
def PixelNearestUptoSaid : Prop := pixelNearestUptoRow.holds Try.pinned (OpenSpec.upto pixelNearestSpec)

/-- 'mullionlaw13.PixelTells', WHERE WHAT IT READS IS OF BULK AT MOST 1048576: true; the input reads as it did. -/
def pixelTellsUptoRow : OpenClaim := { program := "ytjcabgoanlhhnaa", sum := "89c3c7cb0738bae8d4ff531a0721c970fa9b0bdb3cecbda370cfebdc70c4e3a8", func := "mullion/mullionlaw13.PixelTells", spec := "pixelTells", unfollowed := true, recurses := true, apart := false, narrowed := true }
def PixelTellsUptoSaid : Prop := pixelTellsUptoRow.holds Try.pinned (OpenSpec.upto pixelTellsSpec)

/-- 'mullionlaw13.PixelForms', WHERE WHAT IT READS IS OF BULK AT MOST 1048576: true; the input reads as it did. -/
def pixelFormsUptoRow : OpenClaim := { program := "ytjcabgoanlhhnaa", sum := "89c3c7cb0738bae8d4ff531a0721c970fa9b0bdb3cecbda370cfebdc70c4e3a8", func := "mullion/mullionlaw13.PixelForms", spec := "pixelForms", unfollowed := true, recurses := true, apart := false, narrowed := true }
def PixelFormsUptoSaid : Prop := pixelFormsUptoRow.holds Try.pinned (OpenSpec.upto pixelFormsSpec)

/-- 'mullionlaw13.PixelBack', WHERE WHAT IT READS IS OF BULK AT MOST 1048576: true; the input reads as it did. -/
def pixelBackUptoRow : OpenClaim := { program := "ytjcabgoanlhhnaa", sum := "89c3c7cb0738bae8d4ff531a0721c970fa9b0bdb3cecbda370cfebdc70c4e3a8", func := "mullion/mullionlaw13.PixelBack", spec := "pixelBack", unfollowed := true, recurses := true, apart := false, narrowed := true }
def PixelBackUptoSaid : Prop := pixelBackUptoRow.holds Try.pinned (OpenSpec.upto pixelBackSpec)

end Rows
end Go.Proofs.Ytjcabgoanlhhnaa
