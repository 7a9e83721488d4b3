import Derived.Test.YtnmkpekfkfckoaaHRlA
import Derived.Test.YtnmkpekfkfckoaaHEwU
import Derived.Test.YtnmkpekfkfckoaaHEw7
/- rle: set, Runs; the document's Runs, Pairs. -/
namespace Go.Proofs.Ytnmkpekfkfckoaa
set_option linter.unusedSimpArgs false
set_option linter.unusedVariables false
open Go.RowKit EV
open SX (Wr Tv Qu Rm Sh Is conjP eqs_iff eqs_false)
open EW (PlL PlT PlV PlVs LfV Mm Bt Opn GV YT lpOf nums)
set_option maxRecDepth 20000
theorem pset (o : Bool) (l : List Px) : CT Try.prog 34 [.c (.g 0 0 l.length l.length 4)] (upd EW.emp (WP o l)) 1 2 (.c (.f 58 [(1, 0)])) (upd (upd EW.emp (WP o l)) [(.l 1, .l true), (.b 1, .b (.m true [.g 0 0 l.length l.length 4]))]) := by
  refine EW.ctEnter EW.sup1 Try.func34 rfl Try.ntmps34 rfl EW.nlP ?_; intro w0 tch ini R hR
  all_goals try (refine EW.nm ?_)
  all_goals try (refine EW.eReg (id := 0) ?_; refine EW.eBox ?_; refine EW.eAssign ?_; refine EW.eEnd ?_; (try refine EW.nm ?_))
  all_goals try (refine EW.eReg (id := 1) ?_; refine EW.eFunc ?_; refine EW.eAssign ?_; refine EW.eEnd ?_; (try refine EW.nm ?_))
  all_goals try (with_reducible refine EW.parkK ?_)
  all_goals try (refine EW.Park.mk ?_)
  all_goals (refine EW.eLeaveN [10] hR EW.orP (by rfl) (by rfl) ?_ ?_ rfl rfl EW.nlP rfl rfl; rotate_left 1; (· ((repeat (first | exact EW.atE.nil | refine EW.atE.lt rfl ?_ | refine EW.atE.lf ?_ | refine EW.atE.b rfl EW.SameB.refl ?_ | (refine EW.atE.b rfl ?_ ?_; rotate_left 1))))))
  all_goals rfl
/-- What IndexFunc tells of where the next run begins and ends. -/
theorem ix_facts {l : List Px} {a : Nat} (h : a ≤ l.length) (hl : l.length ≤ 10000) :
    (runA l a = l.length ∧ CT Try.prog 59 [.c (.g 0 0 (l.drop a).length (l.drop a).length 4), .c (.f 60 [])] (upd EW.emp (WP false (l.drop a))) 1 1 (.c (.v (.int .i64 (-1)))) (upd (upd EW.emp (WP false (l.drop a))) []))
    ∨ (runA l a < l.length ∧ ∃ s : Nat, a + s = runA l a ∧ CT Try.prog 59 [.c (.g 0 0 (l.drop a).length (l.drop a).length 4), .c (.f 60 [])] (upd EW.emp (WP false (l.drop a))) 1 1 (.c (.v (.int .i64 s))) (upd (upd EW.emp (WP false (l.drop a))) [])) := by
  have hle := runA_le h
  have hdl : (l.drop a).length = l.length - a := List.length_drop
  have hin := skipE_in (l.drop a)
  have hra : runA l a = a + skipE (l.drop a) := rfl
  rcases Nat.lt_or_ge (runA l a) l.length with h1 | h1
  · exact .inr ⟨h1, skipE (l.drop a), rfl, ixE_at false (l.drop a) (by omega) (skipE (l.drop a)) (by omega) hin (skipE_at (l.drop a) (by omega))⟩
  · exact .inl ⟨by omega, ixE_none false (l.drop a) (by omega) (fun i hi => hin i (by omega))⟩
theorem ix_facts2 {l : List Px} {a : Nat} (h : runA l a < l.length) (hl : l.length ≤ 10000) :
    ∃ (k : Int) (s : Nat), runA l a + s = runB l a ∧ ((k = -1 ∧ runB l a = l.length) ∨ k = s) ∧ CT Try.prog 59 [.c (.g 0 0 (l.drop (runA l a)).length (l.drop (runA l a)).length 4), .c (.f 61 [])] (upd EW.emp (WP false (l.drop (runA l a)))) 1 1 (.c (.v (.int .i64 k))) (upd (upd EW.emp (WP false (l.drop (runA l a)))) []) := by
  have hdl : (l.drop (runA l a)).length = l.length - runA l a := List.length_drop
  have hin := skipS_in (l.drop (runA l a))
  have hle := skipS_le (l.drop (runA l a))
  have hrb : runB l a = runA l a + skipS (l.drop (runA l a)) := rfl
  rcases Nat.lt_or_ge (skipS (l.drop (runA l a))) (l.drop (runA l a)).length with h1 | h1
  · exact ⟨_, skipS (l.drop (runA l a)), rfl, .inr rfl, ixS_at false (l.drop (runA l a)) (by omega) _ h1 hin (skipS_at _ h1)⟩
  · exact ⟨-1, skipS (l.drop (runA l a)), rfl, .inl ⟨rfl, by omega⟩, ixS_none false (l.drop (runA l a)) (by omega) (fun i hi => hin i (by omega))⟩
end Go.Proofs.Ytnmkpekfkfckoaa
/- rle: Runs; the document's Runs, Pairs. -/
/- Sums of bytes, at once and bit by bit: plain laws of naturals. -/
namespace Go.Proofs.Ytnmkpekfkfckoaa
open Go.RowKit
set_option maxRecDepth 20000
/-- One step of a sum. -/
def shN (n : Nat) : Nat := n / 2 ^^^ (if n % 2 = 1 then 3988292384 else 0)
theorem xor_div2 (a b : Nat) : (a ^^^ b) / 2 = a / 2 ^^^ b / 2 := by
  apply Nat.eq_of_testBit_eq
  intro i
  rw [Nat.testBit_xor, Nat.testBit_div_two, Nat.testBit_div_two, Nat.testBit_div_two, Nat.testBit_xor]
theorem xor_mod2 (a b : Nat) : (a ^^^ b) % 2 = (a ^^^ b % 2) % 2 := by
  have h : ∀ n : Nat, n % 2 = if n.testBit 0 then 1 else 0 := fun n => by
    rw [Nat.testBit_zero]; by_cases h : n % 2 = 1 <;> simp [h]; omega
  rw [h (a ^^^ b), h (a ^^^ b % 2), Nat.testBit_xor, Nat.testBit_xor]
  have : (b % 2).testBit 0 = b.testBit 0 := by rw [Nat.testBit_zero, Nat.testBit_zero, Nat.mod_mod]
  rw [this]
theorem sh_xor (n c : Nat) : shN (n ^^^ c) = shN (n ^^^ c % 2) ^^^ c / 2 := by
  unfold shN
  rw [xor_mod2 n c, xor_div2, xor_div2, show c % 2 / 2 = 0 by omega, Nat.xor_zero]
  rw [Nat.xor_assoc, Nat.xor_assoc, Nat.xor_comm (c / 2)]
/-- The document's way: bit by bit. -/
def bitN : Nat → Nat → Nat → Nat
  | 0, n, _ => n
  | k + 1, n, c => bitN k (shN (n ^^^ c % 2)) (c / 2)
/-- All steps. -/
def shK : Nat → Nat → Nat
  | 0, n => n
  | k + 1, n => shK k (shN n)
theorem bit_is : ∀ (k n c : Nat), shK k (n ^^^ c) = bitN k n c ^^^ c / 2 ^ k
  | 0, n, c => by simp [shK, bitN]
  | k + 1, n, c => by
    rw [shK, bitN, sh_xor, bit_is k, Nat.div_div_eq_div_mul, Nat.pow_succ, Nat.mul_comm 2]
theorem bit_8 (n c : Nat) (h : c < 256) : bitN 8 n c = shK 8 (n ^^^ c) := by
  rw [bit_is, show c / 2 ^ 8 = 0 by omega, Nat.xor_zero]
theorem shN_lt {n : Nat} (h : n < 4294967296) : shN n < 4294967296 := by
  unfold shN
  exact Nat.xor_lt_two_pow (n := 32) (by omega) (by split <;> omega)
end Go.Proofs.Ytnmkpekfkfckoaa
