/- Helpers for a row: the numbers' bounds. No function in sight. Helpers for a row: what came in as structs and arrays of numbers is such numbers. No function in sight. Helpers for a row: what came in as slices of records of numbers. No function in sight. -/
import Derived.Test.YtbjogekhedglgaaRows
import Derived.WalkKit
import Derived.ProofKit
import Derived.OpenShut
import Derived.ShutString
import Derived.ChangeOld
import Derived.Below
import Derived.Carry
import Derived.Lib.SmallJoins
import Derived.Test.YtbjogekhedglgaaHZE
namespace Go.Proofs.Ytbjogekhedglgaa
open Go.RowKit Go.ChangeShapes Go.WideShapes
theorem wf_bounds {k : IntKind} {n : Int} (h : (Lit.int k n).wf = true) : k.min ≤ n ∧ n ≤ k.max := by
  simpa only [Lit.wf, Bool.and_eq_true, decide_eq_true_eq] using h
theorem wf_i64 {n : Int} (h : (Lit.int .i64 n).wf = true) : -9223372036854775808 ≤ n ∧ n ≤ 9223372036854775807 := wf_bounds h
theorem wf_u64 {n : Int} (h : (Lit.int .u64 n).wf = true) : 0 ≤ n ∧ n < 18446744073709551616 := by
  have := wf_bounds h
  have e1 : IntKind.u64.min = 0 := rfl
  have e2 : IntKind.u64.max = 18446744073709551615 := rfl
  omega
theorem own : ownKnob Try.prog.godebug = none := by kernel_rfl
theorem laidOut : laidOutB Try.prog = true := by kernel_rfl
end Go.Proofs.Ytbjogekhedglgaa
namespace Go.Proofs.Ytbjogekhedglgaa
open Go.RowKit Go.ChangeShapes Go.WideShapes
inductive FK where
  | i (k : IntKind)
  | b
def flatF (P : Program) (go : TypeId → Option (List FK)) : List Field → Nat → Option (List FK)
  | [], _ => some []
  | f :: fs, o => match go f.type, flatF P go fs (o + P.cellsOf f.type) with
    | some l, some r => if f.offset = o ∧ l.length = P.cellsOf f.type then some (l ++ r) else none
    | _, _ => none
/-- The cells of a type that holds numbers and truths alone. -/
def flatK (P : Program) : Nat → TypeId → Option (List FK)
  | 0, _ => none
  | n + 1, t => match P.underlying t with
    | some (.int k) => some [.i k]
    | some .bool => some [.b]
    | some (.struct fs) => match flatF P (flatK P n) fs.toList 0 with
      | some l => if l.length = P.cellsOf t then some l else none
      | none => none
    | some (.array m e) => match flatK P n e with
      | some l => if l.length = P.cellsOf e ∧ m * l.length = P.cellsOf t then some (List.replicate m l).flatten else none
      | none => none
    | _ => none
def Fit : List FK → List Value → Prop
  | [], vs => vs = []
  | .i k :: ks, vs => ∃ n r, vs = .int k n :: r ∧ k.min ≤ n ∧ n ≤ k.max ∧ Fit ks r
  | .b :: ks, vs => ∃ x r, vs = .bool x :: r ∧ Fit ks r
theorem Fit.length : ∀ {ks : List FK} {vs : List Value}, Fit ks vs → vs.length = ks.length
  | [], _, h => by rw [show _ = [] from h]; rfl
  | .i k :: ks, _, ⟨n, r, e, _, _, h⟩ => by rw [e]; simp [Fit.length h]
  | .b :: ks, _, ⟨n, r, e, h⟩ => by rw [e]; simp [Fit.length h]
end Go.Proofs.Ytbjogekhedglgaa
