import Derived.Test.YtnmkpekfkfckoaaHZB
import Derived.Test.YtnmkpekfkfckoaaRows
import Derived.Test.YtnmkpekfkfckoaaHEwS
import Derived.Test.YtnmkpekfkfckoaaHCrP
/- The reckoner of operations that lay or change blocks is sound. No program in sight. A state as trees; what operations make of it. No program in sight. Calls, reckoned. No program in sight. Rounds, reckoned. No program in sight. Regions, code, functions, reckoned. No program in sight. Code and functions, reckoned: the whole. No program in sight. Calls of functions of no arguments, reckoned. -/
namespace Go.Proofs.Ytnmkpekfkfckoaa.EV
noncomputable section
open Go.RowKit
abbrev Hp := T (Bool × B)
/-- What trees hold, as a state. -/
def lk (t : T V) (h : Hp) : Sf
  | .t i => match t.get i with
    | some v => some (.v v)
    | none => none
  | .b n => match h.get n with
    | some (_, b) => some (.b b)
    | none => none
  | .l n => match h.get n with
    | some (a, _) => some (.l a)
    | none => none
structure ES where
  t : T V
  h : Hp
  nx : Nat
  wl : List Nat
  fm : List Nat
/-- A block, written out. -/
def fcK : B → Option B
  | .m o l => match fcLs fcC l with
    | some r => some (.m o r)
    | none => none
  | .w o l => match fcLs fcX l with
    | some r => some (.w o r)
    | none => none
  | b => some b
/-- What becomes of the heap: the heap, the next name, who is written. -/
def applyH (h : Hp) (nx : Nat) (wl : List Nat) : Eff → Option (Hp × Nat × List Nat)
  | .no => some (h, nx, wl)
  | .new b => match fcK b, fcN (nx + 1) with
    | some b', some nx' => match b'.own, T.put 40 h nx (true, b') with
      | true, some h' => some (h', nx', nx :: wl)
      | _, _ => none
    | _, _ => none
  | .chg n b => match h.get n, fcK b with
    | some (true, _), some b' => match b'.own, T.put 40 h n (true, b') with
      | true, some h' => some (h', nx, n :: wl)
      | _, _ => none
    | _, _ => none
  | .steal n b => match h.get n, fcK b, fcN (nx + 1) with
    | some (_, b0), some b', some nx' => match b'.own, T.put 40 h n (false, b0) with
      | true, some h1 => match T.put 40 h1 nx (true, b') with
        | some h' => some (h', nx', nx :: n :: wl)
        | none => none
      | _, _ => none
    | _, _, _ => none
def ES.s (S : ES) : Sf := lk S.t S.h
end
end Go.Proofs.Ytnmkpekfkfckoaa.EV
namespace Go.Proofs.Ytnmkpekfkfckoaa.EV
noncomputable section
open Go.RowKit
inductive XT where
  | normal
  | ret
  | exit (k : Nat)
def XT.ex : XT → Exit
  | .normal => .normal
  | .ret => .ret
  | .exit k => .exit k
def inB (X : List Nat) (n : Nat) : Bool := X.any (Nat.beq n)
/-- Names hidden. -/
def maskT (h : Hp) : List Nat → Option Hp
  | [] => some h
  | n :: X => match h.get n with
    | some (_, b) => match T.put 40 h n (false, b) with
      | some h1 => maskT h1 X
      | none => none
    | none => none
def wsOf (h : Hp) : List Nat → Ws
  | [] => []
  | n :: l => match h.get n with
    | some (a, b) => (.l n, .l a) :: (.b n, .b b) :: wsOf h l
    | none => wsOf h l
end
end Go.Proofs.Ytnmkpekfkfckoaa.EV
/- Package crc: More, over a block of bytes. -/
namespace Go.Proofs.Ytnmkpekfkfckoaa
set_option linter.unusedSimpArgs false
set_option linter.unusedVariables false
open Go.RowKit EV
open SX (Wr Tv Qu Rm Sh Is conjP eqs_iff eqs_false)
open EW (PlL PlT PlV PlVs LfV Mm Bt Opn GV YT lpOf nums)
set_option maxRecDepth 20000
def xorV (a b : Int) : Int := IntKind.u32.wrap ((BitVec.ofInt 32 a ^^^ BitVec.ofInt 32 b).toNat : Int)
def andV (a b : Int) : Int := IntKind.u32.wrap ((BitVec.ofInt 32 a &&& BitVec.ofInt 32 b).toNat : Int)
def invV (a : Int) : Int := IntKind.u32.wrap ((BitVec.ofInt 32 4294967295 ^^^ BitVec.ofInt 32 a).toNat : Int)
def stepV (x : Int) : Int := xorV (x.fdiv 2) (andV 3988292384 (IntKind.u32.wrap (0 - andV x 1)))
def byteV (x b : Int) : Int := stepV (stepV (stepV (stepV (stepV (stepV (stepV (stepV (xorV x (IntKind.u32.wrap b)))))))))
def crcV (x : Int) (bs : List Int) : Int := bs.foldl byteV x
theorem crcV_succ (x : Int) (bs : List Int) (p k : Nat) (h : p + k < bs.length) : crcV x ((bs.drop p).take (k + 1)) = byteV (crcV x ((bs.drop p).take k)) (bs.getD (p + k) 0) := by
  rw [List.take_add_one, crcV, List.foldl_append, List.getElem?_drop, List.getElem?_eq_getElem h, List.getD_eq_getElem?_getD, List.getElem?_eq_getElem h]
  rfl
theorem step_ok (x : Int) (w : World) : Calls Try.prog 96 #[.int .u32 x] w fun e w' => e = .returned (.int .u32 (stepV x)) ∧ Below w.heap.size w w' := by
  refine EW.eEnter Try.func96 rfl Try.ntmps96 ?_
  all_goals try (refine EW.nm ?_)
  all_goals try (refine EW.eReg (id := 0) ?_; refine EW.eAssign ?_; refine EW.eEnd ?_; (try refine EW.nm ?_))
  all_goals try (refine EW.eReg (id := 1) ?_; refine EW.eMove ?_; refine EW.eShr ?_ (hr' := ⟨rfl⟩); refine EW.eMove ?_; refine EW.eAnd ?_ (r := andV x 1) (hr' := ⟨rfl⟩); refine EW.eNeg ?_ (r := IntKind.u32.wrap (0 - andV x 1)) (hr' := ⟨rfl⟩); refine EW.eAnd ?_ (r := andV 3988292384 (IntKind.u32.wrap (0 - andV x 1))) (hr' := ⟨rfl⟩); refine EW.eXor ?_ (r := stepV x) (hr' := ⟨rfl⟩); refine EW.eAssign ?_; refine EW.eEnd ?_; (try refine EW.nm ?_))
  all_goals try (with_reducible refine EW.parkK ?_)
  all_goals try (refine EW.Park.mk ?_)
  all_goals (refine EW.eLeaveP ?_; intro w' hW; refine ⟨?_, hW⟩)
  all_goals rfl
end Go.Proofs.Ytnmkpekfkfckoaa
/- Sums of bytes: what the program's steps are, of naturals. -/
namespace Go.Proofs.Ytnmkpekfkfckoaa
set_option linter.unusedSimpArgs false
set_option linter.unusedVariables false
open Go.RowKit EV
open EW (nums)
set_option maxRecDepth 20000
theorem w32 {n : Nat} (h : n < 4294967296) : IntKind.u32.wrap (n : Int) = n := by rw [IntKind.wrap_u32]; omega
theorem bv32 {n : Nat} (h : n < 4294967296) : (BitVec.ofInt 32 (n : Int)).toNat = n := by rw [BitVec.toNat_ofInt]; omega
theorem xorV_nat {a b : Nat} (ha : a < 4294967296) (hB : b < 4294967296) : xorV a b = ((a ^^^ b : Nat) : Int) := by
  unfold xorV
  rw [BitVec.toNat_xor, bv32 ha, bv32 hB, w32 (Nat.xor_lt_two_pow (n := 32) ha hB)]
theorem andV_nat {a b : Nat} (ha : a < 4294967296) (hB : b < 4294967296) : andV a b = ((a &&& b : Nat) : Int) := by
  unfold andV
  rw [BitVec.toNat_and, bv32 ha, bv32 hB, w32 (Nat.lt_of_le_of_lt Nat.and_le_left ha)]
theorem stepV_nat {n : Nat} (h : n < 4294967296) : stepV n = (shN n : Int) := by
  unfold stepV shN
  have e1 : andV (n : Int) 1 = ((n % 2 : Nat) : Int) := by
    have := andV_nat (a := n) (b := 1) h (by omega)
    rw [Nat.and_one_is_mod] at this
    exact this
  rw [e1, Int.fdiv_eq_ediv_of_nonneg _ (by omega), show (n : Int) / 2 = ((n / 2 : Nat) : Int) by omega]
  by_cases hp : n % 2 = 1
  · rw [if_pos hp, hp]
    have e2 : IntKind.u32.wrap (0 - ((1 : Nat) : Int)) = ((4294967295 : Nat) : Int) := by rw [IntKind.wrap_u32]; decide
    rw [e2, show (3988292384 : Int) = ((3988292384 : Nat) : Int) from rfl, andV_nat (by omega) (by omega), xorV_nat (by omega) (by decide)]
    rfl
  · rw [if_neg hp, show n % 2 = 0 by omega]
    have e2 : IntKind.u32.wrap (0 - ((0 : Nat) : Int)) = ((0 : Nat) : Int) := by rw [IntKind.wrap_u32]; decide
    rw [e2, show (3988292384 : Int) = ((3988292384 : Nat) : Int) from rfl, andV_nat (by omega) (by omega), Nat.and_zero, xorV_nat (by omega) (by omega)]
theorem byteV_nat {n c : Nat} (h : n < 4294967296) (hc : c < 256) : byteV n c = ((bitN 8 n c : Nat) : Int) := by
  have k : n ^^^ c < 4294967296 := Nat.xor_lt_two_pow (n := 32) h (by omega)
  unfold byteV
  rw [w32 (by omega), xorV_nat h (by omega), bit_8 n c hc]
  generalize n ^^^ c = m at k
  have k1 := shN_lt k
  have k2 := shN_lt k1
  have k3 := shN_lt k2
  have k4 := shN_lt k3
  have k5 := shN_lt k4
  have k6 := shN_lt k5
  have k7 := shN_lt k6
  rw [stepV_nat k, stepV_nat k1, stepV_nat k2, stepV_nat k3, stepV_nat k4, stepV_nat k5, stepV_nat k6, stepV_nat k7]
  rfl
theorem bitN_lt : ∀ (k : Nat) {n c : Nat}, n < 4294967296 → bitN k n c < 4294967296
  | 0, _, _, h => h
  | k + 1, n, c, h => bitN_lt k (shN_lt (Nat.xor_lt_two_pow (n := 32) h (by omega)))
/-- The sum of bytes, as a natural. -/
def crcN (n : Nat) (bs : List Int) : Nat := bs.foldl (fun n b => bitN 8 n b.toNat) n
theorem crcN_lt : ∀ (bs : List Int) {n : Nat}, n < 4294967296 → crcN n bs < 4294967296
  | [], _, h => h
  | b :: bs, n, h => crcN_lt bs (bitN_lt 8 h)
theorem crcV_nat : ∀ (bs : List Int) {n : Nat}, n < 4294967296 → (∀ b ∈ bs, 0 ≤ b ∧ b < 256) → crcV n bs = (crcN n bs : Int)
  | [], _, _, _ => rfl
  | b :: bs, n, h, hb => by
    have h1 := hb b (by simp)
    have e : b = (b.toNat : Int) := (Int.toNat_of_nonneg h1.1).symm
    have := crcV_nat bs (bitN_lt 8 (n := n) (c := b.toNat) h) (fun x hx => hb x (by simp [hx]))
    unfold crcV crcN at *
    rw [List.foldl_cons, List.foldl_cons, ← this]
    congr 1
    conv => lhs; rw [e]
    exact byteV_nat h (by omega)
theorem invV_nat {n : Nat} (h : n < 4294967296) : invV n = ((4294967295 - n : Nat) : Int) := by
  have : invV (n : Int) = xorV ((4294967295 : Nat) : Int) n := rfl
  rw [this, xorV_nat (by omega) h]
  congr 1
  apply Nat.eq_of_testBit_eq
  intro i
  have h2 := Nat.testBit_two_pow_sub_succ (n := 32) h i
  rw [show 2 ^ 32 - (n + 1) = 4294967295 - n by omega] at h2
  rw [h2, Nat.testBit_xor, show (4294967295 : Nat) = 2 ^ 32 - 1 by decide, Nat.testBit_two_pow_sub_one]
  by_cases hi : i < 32
  · simp [hi]
  · have : n.testBit i = false := Nat.testBit_lt_two_pow (Nat.lt_of_lt_of_le (show n < 2 ^ 32 from h) (Nat.pow_le_pow_right (show 0 < 2 by decide) (show 32 ≤ i by omega)))
    simp [hi, this]
end Go.Proofs.Ytnmkpekfkfckoaa
