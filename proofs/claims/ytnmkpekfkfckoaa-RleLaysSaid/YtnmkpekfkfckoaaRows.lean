/-
  No cell of these rows narrows 'for every input' (looked for: loops, veiled, ifaces, maps, wideKeys, modest, calm, conditions, laid).
  DERIVED. THE GIVEN ROWS OF THIS SEAT. 8 by the template 'for every input the law returns true; each argument reads behind the call as it read before'; 0 by the template 'total and deterministic' (their statements: YtnmkpekfkfckoaaTotals.lean).
  GIVEN WITH THE SEED: the statements are not yours to turn. If you find one false, say at which input.
  Laid BY PROGRAM, IN A SANDBOX (cutbox-rows.mjs): the forced cells as the released guide's own fill.sh prints them over the translation a418d499a1562865… (all of the seat's roots in one cut). By AI agents, Wed Nov 11 2026. No macro, syntax, notation, axiom, sorry.
-/
import Derived.Test.YtnmkpekfkfckoaaChecked
import GoSem.Claim
import GoSem.ClaimJoined
import GoSem.ClaimMapViews
import Derived.JoinedTies
import Derived.KernelRfl
namespace Go.Proofs.Ytnmkpekfkfckoaa
/- THE CELL 'sum', in the pinned program and in every row, IS THE sha256 OF THE DUMP (.gsa) THAT YtnmkpekfkfckoaaProg.lean LOADS. Nothing in Lean hashes anything: it is a label: what it is worth is what the hold of that sum in a sandbox is worth. -/
noncomputable def Try.pinned : Pinned := { name := "ytnmkpekfkfckoaa", sum := "a418d499a15628652528ef222cacc70c564399e4b70a99e48426240adacc6b0b", checked := Try.checked }
namespace Rows
def none {H : Type} : Left H := { results := [], args := [] }

/-- 'mullionlaw16.RleWrites': WHATEVER THE INPUT: true; the input reads as it did. -/
def rleWritesSpec : ChangeSpec := { name := "rleWrites", fn := fun _ => fun
  | [d] => { results := [.lit (.bool true)], args := [d] }
  | _ => none }
def rleWritesRow : OpenClaim := { program := "ytnmkpekfkfckoaa", sum := "a418d499a15628652528ef222cacc70c564399e4b70a99e48426240adacc6b0b", func := "mullion/mullionlaw16.RleWrites", spec := "rleWrites", unfollowed := true, recurses := true, apart := false }
def RleWritesSaid : Prop := rleWritesRow.holds Try.pinned (OpenSpec.ofChange rleWritesSpec)

/-- ITS FALSE NEIGHBOUR: 'it returns false'. Refute it at one input. -/
def rleWritesWrong : ChangeSpec := { name := "rleWrites", fn := fun _ => fun
  | [d] => { results := [.lit (.bool false)], args := [d] }
  | _ => none }
def RleWritesWrongFalsely : Prop := rleWritesRow.holds Try.pinned (OpenSpec.ofChange rleWritesWrong)

/-- 'mullionlaw16.RleReads': WHATEVER THE INPUT: true; the input reads as it did. -/
def rleReadsSpec : ChangeSpec := { name := "rleReads", fn := fun _ => fun
  | [d] => { results := [.lit (.bool true)], args := [d] }
  | _ => none }
def rleReadsRow : OpenClaim := { program := "ytnmkpekfkfckoaa", sum := "a418d499a15628652528ef222cacc70c564399e4b70a99e48426240adacc6b0b", func := "mullion/mullionlaw16.RleReads", spec := "rleReads", unfollowed := true, recurses := true, apart := false }
def RleReadsSaid : Prop := rleReadsRow.holds Try.pinned (OpenSpec.ofChange rleReadsSpec)

/-- ITS FALSE NEIGHBOUR: 'it returns false'. Refute it at one input. -/
def rleReadsWrong : ChangeSpec := { name := "rleReads", fn := fun _ => fun
  | [d] => { results := [.lit (.bool false)], args := [d] }
  | _ => none }
def RleReadsWrongFalsely : Prop := rleReadsRow.holds Try.pinned (OpenSpec.ofChange rleReadsWrong)

/-- 'mullionlaw16.RleLays': WHATEVER THE INPUT: true; the input reads as it did. -/
def rleLaysSpec : ChangeSpec := { name := "rleLays", fn := fun _ => fun
  | [d1, d2] => { results := [.lit (.bool true)], args := [d1, d2] }
  | _ => none }
def rleLaysRow : OpenClaim := { program := "ytnmkpekfkfckoaa", sum := "a418d499a15628652528ef222cacc70c564399e4b70a99e48426240adacc6b0b", func := "mullion/mullionlaw16.RleLays", spec := "rleLays", unfollowed := true, recurses := true, apart := false }
def RleLaysSaid : Prop := rleLaysRow.holds Try.pinned (OpenSpec.ofChange rleLaysSpec)

/-- ITS FALSE NEIGHBOUR: 'it returns false'. Refute it at one input. -/
def rleLaysWrong : ChangeSpec := { name := "rleLays", fn := fun _ => fun
  | [d1, d2] => { results := [.lit (.bool false)], args := [d1, d2] }
  | _ => none }
def RleLaysWrongFalsely : Prop := rleLaysRow.holds Try.pinned (OpenSpec.ofChange rleLaysWrong)

/-- 'mullionlaw16.RleSpoilt': WHATEVER THE INPUT: true; the input reads as it did. -/
def rleSpoiltSpec : ChangeSpec := { name := "rleSpoilt", fn := fun _ => fun
  | [d1, d2, d3] => { results := [.lit (.bool true)], args := [d1, d2, d3] }
  | _ => none }
def rleSpoiltRow : OpenClaim := { program := "ytnmkpekfkfckoaa", sum := "a418d499a15628652528ef222cacc70c564399e4b70a99e48426240adacc6b0b", func := "mullion/mullionlaw16.RleSpoilt", spec := "rleSpoilt", unfollowed := true, recurses := true, apart := false }
def RleSpoiltSaid : Prop := rleSpoiltRow.holds Try.pinned (OpenSpec.ofChange rleSpoiltSpec)

/-- ITS FALSE NEIGHBOUR: 'it returns false'. Refute it at one input. -/
def rleSpoiltWrong : ChangeSpec := { name := "rleSpoilt", fn := fun _ => fun
  | [d1, d2, d3] => { results := [.lit (.bool false)], args := [d1, d2, d3] }
  | _ => none }
def RleSpoiltWrongFalsely : Prop := rleSpoiltRow.holds Try.pinned (OpenSpec.ofChange rleSpoiltWrong)

/-- 'mullionlaw16.RleOver': WHATEVER THE INPUT: true; the input reads as it did. -/
def rleOverSpec : ChangeSpec := { name := "rleOver", fn := fun _ => fun
  | [d1, d2, d3] => { results := [.lit (.bool true)], args := [d1, d2, d3] }
  | _ => none }
def rleOverRow : OpenClaim := { program := "ytnmkpekfkfckoaa", sum := "a418d499a15628652528ef222cacc70c564399e4b70a99e48426240adacc6b0b", func := "mullion/mullionlaw16.RleOver", spec := "rleOver", unfollowed := true, recurses := true, apart := false }
def RleOverSaid : Prop := rleOverRow.holds Try.pinned (OpenSpec.ofChange rleOverSpec)

/-- ITS FALSE NEIGHBOUR: 'it returns false'. Refute it at one input. -/
def rleOverWrong : ChangeSpec := { name := "rleOver", fn := fun _ => fun
  | [d1, d2, d3] => { results := [.lit (.bool false)], args := [d1, d2, d3] }
  | _ => none }
def RleOverWrongFalsely : Prop := rleOverRow.holds Try.pinned (OpenSpec.ofChange rleOverWrong)

/-- 'mullionlaw16.RleBack': WHATEVER THE INPUT: true; the input reads as it did. -/
def rleBackSpec : ChangeSpec := { name := "rleBack", fn := fun _ => fun
  | [d1, d2] => { results := [.lit (.bool true)], args := [d1, d2] }
  | _ => none }
def rleBackRow : OpenClaim := { program := "ytnmkpekfkfckoaa", sum := "a418d499a15628652528ef222cacc70c564399e4b70a99e48426240adacc6b0b", func := "mullion/mullionlaw16.RleBack", spec := "rleBack", unfollowed := true, recurses := true, apart := false }
def RleBackSaid : Prop := rleBackRow.holds Try.pinned (OpenSpec.ofChange rleBackSpec)

/-- ITS FALSE NEIGHBOUR: 'it returns false'. Refute it at one input. -/
def rleBackWrong : ChangeSpec := { name := "rleBack", fn := fun _ => fun
  | [d1, d2] => { results := [.lit (.bool false)], args := [d1, d2] }
  | _ => none }
def RleBackWrongFalsely : Prop := rleBackRow.holds Try.pinned (OpenSpec.ofChange rleBackWrong)

/-- 'mullionlaw16.RleRuns': WHATEVER THE INPUT: true; the input reads as it did. -/
def rleRunsSpec : ChangeSpec := { name := "rleRuns", fn := fun _ => fun
  | [d] => { results := [.lit (.bool true)], args := [d] }
  | _ => none }
def rleRunsRow : OpenClaim := { program := "ytnmkpekfkfckoaa", sum := "a418d499a15628652528ef222cacc70c564399e4b70a99e48426240adacc6b0b", func := "mullion/mullionlaw16.RleRuns", spec := "rleRuns", unfollowed := true, recurses := true, apart := false }
def RleRunsSaid : Prop := rleRunsRow.holds Try.pinned (OpenSpec.ofChange rleRunsSpec)

/-- ITS FALSE NEIGHBOUR: 'it returns false'. Refute it at one input. -/
def rleRunsWrong : ChangeSpec := { name := "rleRuns", fn := fun _ => fun
  | [d] => { results := [.lit (.bool false)], args := [d] }
  | _ => none }
def RleRunsWrongFalsely : Prop := rleRunsRow.holds Try.pinned (OpenSpec.ofChange rleRunsWrong)

/-- 'mullionlaw16.RleNames': WHATEVER THE INPUT: true; the input reads as it did. -/
def rleNamesSpec : ChangeSpec := { name := "rleNames", fn := fun _ => fun
  | [] => { results := [.lit (.bool true)], args := [] }
  | _ => none }
def rleNamesRow : OpenClaim := { program := "ytnmkpekfkfckoaa", sum := "a418d499a15628652528ef222cacc70c564399e4b70a99e48426240adacc6b0b", func := "mullion/mullionlaw16.RleNames", spec := "rleNames", unfollowed := true, recurses := true, apart := false }
def RleNamesSaid : Prop := rleNamesRow.holds Try.pinned (OpenSpec.ofChange rleNamesSpec)

/-- ITS FALSE NEIGHBOUR: 'it returns false'. Refute it at one input. -/
def rleNamesWrong : ChangeSpec := { name := "rleNames", fn := fun _ => fun
  | [] => { results := [.lit (.bool false)], args := [] }
  | _ => none }
def RleNamesWrongFalsely : Prop := rleNamesRow.holds Try.pinned (OpenSpec.ofChange rleNamesWrong)

/- THE SECOND FORM. 'bulk': how many values and letters a reading holds, each counted each time it is reached (what is shared counts as often as it is met; a slice's spare places count too). A statement '..UptoSaid' is the law's where the arguments, and the package variables that the reading takes, are together of bulk at most 1048576: NARROWER than '..Said'. Prove '..Said' where nothing that the law and all that it calls make is longer than what came in: it says more and counts as full. Else prove '..UptoSaid'. A law counts once. -/
mutual
def uptoBulk {H : Type} : DataW H → Nat
  | .lit (.string bytes) => bytes.length + 1
  | .lit _ => 1
  | .nil => 1
  | .ptr d => uptoBulk d + 1
  | .slice elems spare => uptoBulkAll elems + uptoBulkAll spare + 1
  | .agg parts => uptoBulkAll parts + 1
  | .iface _ d => uptoBulk d + 1
  | .map entries => uptoBulkEntries entries + 1
  | .held _ => 1
def uptoBulkAll {H : Type} : List (DataW H) → Nat
  | [] => 0
  | d :: r => uptoBulk d + uptoBulkAll r
def uptoBulkEntries {H : Type} : List (Lit × DataW H) → Nat
  | [] => 0
  | x :: r => uptoBulkEntry x + uptoBulkEntries r
def uptoBulkEntry {H : Type} : Lit × DataW H → Nat
  | (.string bytes, d) => bytes.length + uptoBulk d + 1
  | (_, d) => uptoBulk d + 1
 end
def uptoSmall : (H : Type) → List (DataW H) → Bool := fun _ ds => decide (uptoBulkAll ds ≤ 1048576)
def OpenSpec.upto (s : _root_.Go.ChangeSpec) : _root_.Go.OpenSpec := { _root_.Go.OpenSpec.ofChange s with cond := some uptoSmall }

/-- 'mullionlaw16.RleWrites', WHERE WHAT IT READS IS OF BULK AT MOST 1048576: true; the input reads as it did. -/
def rleWritesUptoRow : OpenClaim := { program := "ytnmkpekfkfckoaa", sum := "a418d499a15628652528ef222cacc70c564399e4b70a99e48426240adacc6b0b", func := "mullion/mullionlaw16.RleWrites", spec := "rleWrites", unfollowed := true, recurses := true, apart := false, narrowed := true }
def RleWritesUptoSaid : Prop := rleWritesUptoRow.holds Try.pinned (OpenSpec.upto rleWritesSpec)

/-- 'mullionlaw16.RleReads', WHERE WHAT IT READS IS OF BULK AT MOST 1048576: true; the input reads as it did. -/
def rleReadsUptoRow : OpenClaim := { program := "ytnmkpekfkfckoaa", sum := "a418d499a15628652528ef222cacc70c564399e4b70a99e48426240adacc6b0b", func := "mullion/mullionlaw16.RleReads", spec := "rleReads", unfollowed := true, recurses := true, apart := false, narrowed := true }
def RleReadsUptoSaid : Prop := rleReadsUptoRow.holds Try.pinned (OpenSpec.upto rleReadsSpec)

/-- 'mullionlaw16.RleLays', WHERE WHAT IT READS IS OF BULK AT MOST 1048576: true; the input reads as it did. -/
def rleLaysUptoRow : OpenClaim := { program := "ytnmkpekfkfckoaa", sum := "a418d499a15628652528ef222cacc70c564399e4b70a99e48426240adacc6b0b", func := "mullion/mullionlaw16.RleLays", spec := "rleLays", unfollowed := true, recurses := true, apart := false, narrowed := true }
def RleLaysUptoSaid : Prop := rleLaysUptoRow.holds Try.pinned (OpenSpec.upto rleLaysSpec)

/-- 'mullionlaw16.RleSpoilt', WHERE WHAT IT READS IS OF BULK AT MOST 1048576: true; the input reads as it did. -/
def rleSpoiltUptoRow : OpenClaim := { program := "ytnmkpekfkfckoaa", sum := "a418d499a15628652528ef222cacc70c564399e4b70a99e48426240adacc6b0b", func := "mullion/mullionlaw16.RleSpoilt", spec := "rleSpoilt", unfollowed := true, recurses := true, apart := false, narrowed := true }
def RleSpoiltUptoSaid : Prop := rleSpoiltUptoRow.holds Try.pinned (OpenSpec.upto rleSpoiltSpec)

/-- 'mullionlaw16.RleOver', WHERE WHAT IT READS IS OF BULK AT MOST 1048576: true; the input reads as it did. -/
def rleOverUptoRow : OpenClaim := { program := "ytnmkpekfkfckoaa", sum := "a418d499a15628652528ef222cacc70c564399e4b70a99e48426240adacc6b0b", func := "mullion/mullionlaw16.RleOver", spec := "rleOver", unfollowed := true, recurses := true, apart := false, narrowed := true }
def RleOverUptoSaid : Prop := rleOverUptoRow.holds Try.pinned (OpenSpec.upto rleOverSpec)

/-- 'mullionlaw16.RleBack', WHERE WHAT IT READS IS OF BULK AT MOST 1048576: true; the input reads as it did. -/
def rleBackUptoRow : OpenClaim := { program := "ytnmkpekfkfckoaa", sum := "a418d499a15628652528ef222cacc70c564399e4b70a99e48426240adacc6b0b", func := "mullion/mullionlaw16.RleBack", spec := "rleBack", unfollowed := true, recurses := true, apart := false, narrowed := true }
def RleBackUptoSaid : Prop := rleBackUptoRow.holds Try.pinned (OpenSpec.upto rleBackSpec)

/-- 'mullionlaw16.RleRuns', WHERE WHAT IT READS IS OF BULK AT MOST 1048576: true; the input reads as it did. -/
def rleRunsUptoRow : OpenClaim := { program := "ytnmkpekfkfckoaa", sum := "a418d499a15628652528ef222cacc70c564399e4b70a99e48426240adacc6b0b", func := "mullion/mullionlaw16.RleRuns", spec := "rleRuns", unfollowed := true, recurses := true, apart := false, narrowed := true }
def RleRunsUptoSaid : Prop := rleRunsUptoRow.holds Try.pinned (OpenSpec.upto rleRunsSpec)

/-- 'mullionlaw16.RleNames', WHERE WHAT IT READS IS OF BULK AT MOST 1048576: true; the input reads as it did. -/
def rleNamesUptoRow : OpenClaim := { program := "ytnmkpekfkfckoaa", sum := "a418d499a15628652528ef222cacc70c564399e4b70a99e48426240adacc6b0b", func := "mullion/mullionlaw16.RleNames", spec := "rleNames", unfollowed := true, recurses := true, apart := false, narrowed := true }
def RleNamesUptoSaid : Prop := rleNamesUptoRow.holds Try.pinned (OpenSpec.upto rleNamesSpec)

end Rows
end Go.Proofs.Ytnmkpekfkfckoaa
