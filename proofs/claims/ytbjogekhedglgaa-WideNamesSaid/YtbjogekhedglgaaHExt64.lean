/- math/bits.Add64 and Sub64, for the reckoner. -/
import Derived.Test.YtbjogekhedglgaaHZK
import Derived.Test.YtbjogekhedglgaaRows
import Derived.Shelf.Spec.BitsCarry
namespace Go.Proofs.Ytbjogekhedglgaa.EV
open Go.RowKit Go.Shelf
def addV : List Value → Option (List Value)
  | [.int .u64 (.ofNat x), .int .u64 (.ofNat y), .int .u64 (.ofNat c)] => if x < 18446744073709551616 ∧ y < 18446744073709551616 ∧ c ≤ 1 then some [.int .u64 (.ofNat ((x + y + c) % 18446744073709551616)), .int .u64 (.ofNat ((x + y + c) / 18446744073709551616))] else none
  | _ => none
def subV : List Value → Option (List Value)
  | [.int .u64 (.ofNat x), .int .u64 (.ofNat y), .int .u64 (.ofNat c)] => if c ≤ 1 ∧ y < 18446744073709551616 then some [.int .u64 (.ofNat ((x + 18446744073709551616 - y - c) % 18446744073709551616)), .int .u64 (.ofNat (if x < y + c then 1 else 0))] else none
  | _ => none
def ext64 : FuncId → Option (List Value → Option (List Value)) := fun f => bif Nat.beq f 48 then some addV else bif Nat.beq f 49 then some subV else none
theorem ext64_ok : SoundX Try.prog ext64 := by
  intro f g L Z hf hg w
  unfold ext64 at hf
  cases h1 : Nat.beq f 48 with
  | true =>
    rw [h1, cond_true] at hf
    cases hf
    obtain rfl := Nat.eq_of_beq_eq_true h1
    unfold addV at hg
    split at hg
    · rename_i x y c
      split at hg
      · rename_i hb
        cases hg
        have := run_callFunc_extern Try.func48 (by kernel_rfl) (by kernel_rfl) (by kernel_rfl) (e := add64Entry) (by kernel_rfl) (args := #[.int .u64 (.ofNat x), .int .u64 (.ofNat y), .int .u64 (.ofNat c)]) (w := w)
        rw [this]
        have h2 := run_add64 (P := Try.prog) (w := w) x y c (by omega) (by omega) (by omega) (by omega)
        rw [show (#[Value.int .u64 (.ofNat x), .int .u64 (.ofNat y), .int .u64 (.ofNat c)] : Array Value) = #[.int .u64 x, .int .u64 y, .int .u64 c] from rfl, h2]
        rfl
      · cases hg
    · cases hg
  | false =>
    rw [h1, cond_false] at hf
    cases h2 : Nat.beq f 49 with
    | true =>
      rw [h2, cond_true] at hf
      cases hf
      obtain rfl := Nat.eq_of_beq_eq_true h2
      unfold subV at hg
      split at hg
      · rename_i x y c
        split at hg
        · rename_i hb
          cases hg
          have := run_callFunc_extern Try.func49 (by kernel_rfl) (by kernel_rfl) (by kernel_rfl) (e := sub64Entry) (by kernel_rfl) (args := #[.int .u64 (.ofNat x), .int .u64 (.ofNat y), .int .u64 (.ofNat c)]) (w := w)
          rw [this]
          have h3 := run_sub64 (P := Try.prog) (w := w) x y c (by omega)
          rw [show (#[Value.int .u64 (.ofNat x), .int .u64 (.ofNat y), .int .u64 (.ofNat c)] : Array Value) = #[.int .u64 x, .int .u64 y, .int .u64 c] from rfl, h3]
          rfl
        · cases hg
      · cases hg
    | false => rw [h2, cond_false] at hf; cases hf
end Go.Proofs.Ytbjogekhedglgaa.EV
