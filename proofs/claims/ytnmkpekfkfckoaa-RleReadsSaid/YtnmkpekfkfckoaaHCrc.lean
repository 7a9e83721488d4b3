import Derived.Test.YtnmkpekfkfckoaaHZB
import Derived.Test.YtnmkpekfkfckoaaRows
import Derived.Test.YtnmkpekfkfckoaaHEw9
/- The reckoner of operations that lay or change blocks is sound. No program in sight. A state as trees; what operations make of it. No program in sight. Calls, reckoned. No program in sight. Rounds, reckoned. No program in sight. Regions, code, functions, reckoned. No program in sight. Code and functions, reckoned: the whole. No program in sight. Calls of functions of no arguments, reckoned. -/
namespace Go.Proofs.Ytnmkpekfkfckoaa.EV
noncomputable section
open Go.RowKit
abbrev Hp := T (Bool × B)
/-- What trees hold, as a state. -/
def lk (t : T V) (h : Hp) : Sf
  | .t i => match t.get i with
    | some v => some (.v v)
    | none => none
  | .b n => match h.get n with
    | some (_, b) => some (.b b)
    | none => none
  | .l n => match h.get n with
    | some (a, _) => some (.l a)
    | none => none
structure ES where
  t : T V
  h : Hp
  nx : Nat
  wl : List Nat
  fm : List Nat
/-- A block, written out. -/
def fcK : B → Option B
  | .m o l => match fcLs fcC l with
    | some r => some (.m o r)
    | none => none
  | .w o l => match fcLs fcX l with
    | some r => some (.w o r)
    | none => none
  | b => some b
/-- What becomes of the heap: the heap, the next name, who is written. -/
def applyH (h : Hp) (nx : Nat) (wl : List Nat) : Eff → Option (Hp × Nat × List Nat)
  | .no => some (h, nx, wl)
  | .new b => match fcK b, fcN (nx + 1) with
    | some b', some nx' => match b'.own, T.put 40 h nx (true, b') with
      | true, some h' => some (h', nx', nx :: wl)
      | _, _ => none
    | _, _ => none
  | .chg n b => match h.get n, fcK b with
    | some (true, _), some b' => match b'.own, T.put 40 h n (true, b') with
      | true, some h' => some (h', nx, n :: wl)
      | _, _ => none
    | _, _ => none
  | .steal n b => match h.get n, fcK b, fcN (nx + 1) with
    | some (_, b0), some b', some nx' => match b'.own, T.put 40 h n (false, b0) with
      | true, some h1 => match T.put 40 h1 nx (true, b') with
        | some h' => some (h', nx', nx :: n :: wl)
        | none => none
      | _, _ => none
    | _, _, _ => none
def ES.s (S : ES) : Sf := lk S.t S.h
end
end Go.Proofs.Ytnmkpekfkfckoaa.EV
namespace Go.Proofs.Ytnmkpekfkfckoaa.EV
noncomputable section
open Go.RowKit
inductive XT where
  | normal
  | ret
  | exit (k : Nat)
def XT.ex : XT → Exit
  | .normal => .normal
  | .ret => .ret
  | .exit k => .exit k
def inB (X : List Nat) (n : Nat) : Bool := X.any (Nat.beq n)
/-- Names hidden. -/
def maskT (h : Hp) : List Nat → Option Hp
  | [] => some h
  | n :: X => match h.get n with
    | some (_, b) => match T.put 40 h n (false, b) with
      | some h1 => maskT h1 X
      | none => none
    | none => none
def wsOf (h : Hp) : List Nat → Ws
  | [] => []
  | n :: l => match h.get n with
    | some (a, b) => (.l n, .l a) :: (.b n, .b b) :: wsOf h l
    | none => wsOf h l
end
end Go.Proofs.Ytnmkpekfkfckoaa.EV
/- Package crc: More, over a block of bytes. -/
namespace Go.Proofs.Ytnmkpekfkfckoaa
set_option linter.unusedSimpArgs false
set_option linter.unusedVariables false
open Go.RowKit EV
open SX (Wr Tv Qu Rm Sh Is conjP eqs_iff eqs_false)
open EW (PlL PlT PlV PlVs LfV Mm Bt Opn GV YT lpOf nums)
set_option maxRecDepth 20000
def xorV (a b : Int) : Int := IntKind.u32.wrap ((BitVec.ofInt 32 a ^^^ BitVec.ofInt 32 b).toNat : Int)
def andV (a b : Int) : Int := IntKind.u32.wrap ((BitVec.ofInt 32 a &&& BitVec.ofInt 32 b).toNat : Int)
def invV (a : Int) : Int := IntKind.u32.wrap ((BitVec.ofInt 32 4294967295 ^^^ BitVec.ofInt 32 a).toNat : Int)
def stepV (x : Int) : Int := xorV (x.fdiv 2) (andV 3988292384 (IntKind.u32.wrap (0 - andV x 1)))
def byteV (x b : Int) : Int := stepV (stepV (stepV (stepV (stepV (stepV (stepV (stepV (xorV x (IntKind.u32.wrap b)))))))))
def crcV (x : Int) (bs : List Int) : Int := bs.foldl byteV x
theorem crcV_succ (x : Int) (bs : List Int) (p k : Nat) (h : p + k < bs.length) : crcV x ((bs.drop p).take (k + 1)) = byteV (crcV x ((bs.drop p).take k)) (bs.getD (p + k) 0) := by
  rw [List.take_add_one, crcV, List.foldl_append, List.getElem?_drop, List.getElem?_eq_getElem h, List.getD_eq_getElem?_getD, List.getElem?_eq_getElem h]
  rfl
theorem step_ok (x : Int) (w : World) : Calls Try.prog 96 #[.int .u32 x] w fun e w' => e = .returned (.int .u32 (stepV x)) ∧ Below w.heap.size w w' := by
  refine EW.eEnter Try.func96 rfl Try.ntmps96 ?_
  all_goals try (refine EW.nm ?_)
  all_goals try ((first | refine EW.eRegL (id := 0) ?_ | refine EW.eReg (id := 0) ?_); refine EW.eAssign ?_; refine EW.eEnd ?_; (try refine EW.nm ?_))
  all_goals try ((first | refine EW.eRegL (id := 1) ?_ | refine EW.eReg (id := 1) ?_); refine EW.eMove ?_; refine EW.eShr ?_ (hr' := ⟨rfl⟩); refine EW.eMove ?_; refine EW.eAnd ?_ (r := andV x 1) (hr' := ⟨rfl⟩); refine EW.eNeg ?_ (r := IntKind.u32.wrap (0 - andV x 1)) (hr' := ⟨rfl⟩); refine EW.eAnd ?_ (r := andV 3988292384 (IntKind.u32.wrap (0 - andV x 1))) (hr' := ⟨rfl⟩); refine EW.eXor ?_ (r := stepV x) (hr' := ⟨rfl⟩); refine EW.eAssign ?_; refine EW.eEnd ?_; (try refine EW.nm ?_))
  all_goals try (with_reducible refine EW.parkK ?_)
  all_goals try (refine EW.Park.mk ?_)
  all_goals (refine EW.eLeaveP ?_; intro w' hW; refine ⟨?_, hW⟩)
  all_goals rfl
end Go.Proofs.Ytnmkpekfkfckoaa
