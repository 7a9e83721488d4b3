/- The reckoner of operations that lay or change blocks is sound. No program in sight. A state as trees; what operations make of it. No program in sight. Calls, reckoned. No program in sight. Rounds, reckoned. No program in sight. Regions, code, functions, reckoned. No program in sight. Code and functions, reckoned: the whole. No program in sight. Calls of functions of no arguments, reckoned. -/
import Derived.Test.YtjcabgoanlhhnaaHZB
import Derived.Test.YtjcabgoanlhhnaaRows
namespace Go.Proofs.Ytjcabgoanlhhnaa.EV
noncomputable section
open Go.RowKit
abbrev Hp := T (Bool × B)
/-- What trees hold, as a state. -/
def lk (t : T V) (h : Hp) : Sf
  | .t i => match t.get i with
    | some v => some (.v v)
    | none => none
  | .b n => match h.get n with
    | some (_, b) => some (.b b)
    | none => none
  | .l n => match h.get n with
    | some (a, _) => some (.l a)
    | none => none
structure ES where
  t : T V
  h : Hp
  nx : Nat
  wl : List Nat
  fm : List Nat
/-- A block, written out. -/
def fcK : B → Option B
  | .m o l => match fcLs fcC l with
    | some r => some (.m o r)
    | none => none
  | .w o l => match fcLs fcX l with
    | some r => some (.w o r)
    | none => none
  | b => some b
/-- What becomes of the heap: the heap, the next name, who is written. -/
def applyH (h : Hp) (nx : Nat) (wl : List Nat) : Eff → Option (Hp × Nat × List Nat)
  | .no => some (h, nx, wl)
  | .new b => match fcK b, fcN (nx + 1) with
    | some b', some nx' => match b'.own, T.put 40 h nx (true, b') with
      | true, some h' => some (h', nx', nx :: wl)
      | _, _ => none
    | _, _ => none
  | .chg n b => match h.get n, fcK b with
    | some (true, _), some b' => match b'.own, T.put 40 h n (true, b') with
      | true, some h' => some (h', nx, n :: wl)
      | _, _ => none
    | _, _ => none
  | .steal n b => match h.get n, fcK b, fcN (nx + 1) with
    | some (_, b0), some b', some nx' => match b'.own, T.put 40 h n (false, b0) with
      | true, some h1 => match T.put 40 h1 nx (true, b') with
        | some h' => some (h', nx', nx :: n :: wl)
        | none => none
      | _, _ => none
    | _, _, _ => none
def ES.s (S : ES) : Sf := lk S.t S.h
end
end Go.Proofs.Ytjcabgoanlhhnaa.EV
namespace Go.Proofs.Ytjcabgoanlhhnaa.EV
noncomputable section
open Go.RowKit
inductive XT where
  | normal
  | ret
  | exit (k : Nat)
def XT.ex : XT → Exit
  | .normal => .normal
  | .ret => .ret
  | .exit k => .exit k
def inB (X : List Nat) (n : Nat) : Bool := X.any (Nat.beq n)
/-- Names hidden. -/
def maskT (h : Hp) : List Nat → Option Hp
  | [] => some h
  | n :: X => match h.get n with
    | some (_, b) => match T.put 40 h n (false, b) with
      | some h1 => maskT h1 X
      | none => none
    | none => none
def wsOf (h : Hp) : List Nat → Ws
  | [] => []
  | n :: l => match h.get n with
    | some (a, b) => (.l n, .l a) :: (.b n, .b b) :: wsOf h l
    | none => wsOf h l
end
end Go.Proofs.Ytjcabgoanlhhnaa.EV
