/- Helpers for a row: the numbers' bounds. No function in sight. Helpers for a row: what came in as structs and arrays of numbers is such numbers. No function in sight. Helpers for a row: what came in as slices of records of numbers. No function in sight. -/
import Derived.Test.YtafhojmnbpegpaaGreatRows
import Derived.WalkKit
import Derived.ProofKit
import Derived.OpenShut
import Derived.ShutString
import Derived.ChangeOld
import Derived.Below
import Derived.Carry
import Derived.Lib.SmallJoins
import Derived.Test.YtafhojmnbpegpaaGreatHZE
namespace Go.Proofs.YtafhojmnbpegpaaGreat
open Go.RowKit Go.ChangeShapes Go.WideShapes
theorem own : ownKnob Tryz.prog.godebug = none := by kernel_rfl
end Go.Proofs.YtafhojmnbpegpaaGreat
namespace Go.Proofs.YtafhojmnbpegpaaGreat
open Go.RowKit Go.ChangeShapes Go.WideShapes
inductive FK where
  | i (k : IntKind)
  | b
def flatF (P : Program) (go : TypeId → Option (List FK)) : List Field → Nat → Option (List FK)
  | [], _ => some []
  | f :: fs, o => match go f.type, flatF P go fs (o + P.cellsOf f.type) with
    | some l, some r => if f.offset = o ∧ l.length = P.cellsOf f.type then some (l ++ r) else none
    | _, _ => none
/-- The cells of a type that holds numbers and truths alone. -/
def flatK (P : Program) : Nat → TypeId → Option (List FK)
  | 0, _ => none
  | n + 1, t => match P.underlying t with
    | some (.int k) => some [.i k]
    | some .bool => some [.b]
    | some (.struct fs) => match flatF P (flatK P n) fs.toList 0 with
      | some l => if l.length = P.cellsOf t then some l else none
      | none => none
    | some (.array m e) => match flatK P n e with
      | some l => if l.length = P.cellsOf e ∧ m * l.length = P.cellsOf t then some (List.replicate m l).flatten else none
      | none => none
    | _ => none
def Fit : List FK → List Value → Prop
  | [], vs => vs = []
  | .i k :: ks, vs => ∃ n r, vs = .int k n :: r ∧ k.min ≤ n ∧ n ≤ k.max ∧ Fit ks r
  | .b :: ks, vs => ∃ x r, vs = .bool x :: r ∧ Fit ks r
theorem Fit.length : ∀ {ks : List FK} {vs : List Value}, Fit ks vs → vs.length = ks.length
  | [], _, h => by rw [show _ = [] from h]; rfl
  | .i k :: ks, _, ⟨n, r, e, _, _, h⟩ => by rw [e]; simp [Fit.length h]
  | .b :: ks, _, ⟨n, r, e, h⟩ => by rw [e]; simp [Fit.length h]
end Go.Proofs.YtafhojmnbpegpaaGreat
namespace Go.Proofs.YtafhojmnbpegpaaGreat
set_option linter.unusedSimpArgs false
set_option linter.unusedVariables false
open Go.RowKit Go.ChangeShapes Go.WideShapes EV
/-- The blocks that come in. -/
def wsOf : List (List Value) → Nat → Ws
  | [], _ => []
  | L :: r, i => (.l i, .l true) :: (.b i, .b (.w false L)) :: wsOf r (i + 1)
end Go.Proofs.YtafhojmnbpegpaaGreat
