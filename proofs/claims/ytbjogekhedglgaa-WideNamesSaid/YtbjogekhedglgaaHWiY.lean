/- wide: what the reckoner takes as told. -/
import Derived.Test.YtbjogekhedglgaaHZW
import Derived.Test.YtbjogekhedglgaaHEwY
import Derived.Test.YtbjogekhedglgaaHZK
import Derived.Test.YtbjogekhedglgaaHExt64
namespace Go.Proofs.Ytbjogekhedglgaa
set_option linter.unusedSimpArgs false
set_option linter.unusedVariables false
open Go.RowKit EV
open EW (PlL PlT PlV PlVs)
abbrev zJ (hi lo : Int) : Int := hi * 18446744073709551616 + lo
abbrev okJ (hi lo : Int) : Prop := -9223372036854775808 ≤ hi ∧ hi ≤ 9223372036854775807 ∧ 0 ≤ lo ∧ lo < 18446744073709551616
abbrev rW (z : Int) : List C := [.v (.int .i64 (z / 18446744073709551616)), .v (.int .u64 (z % 18446744073709551616))]
theorem zJ_in {hi lo : Int} (h : okJ hi lo) : In128 (zJ hi lo) := by unfold okJ at h; unfold In128 zJ; omega
theorem zJ_w {hi lo : Int} (h : okJ hi lo) : Value.agg #[.int .i64 hi, .int .u64 lo] = W2 (zJ hi lo) := by
  have h1 : zJ hi lo / 18446744073709551616 = hi := by unfold okJ at h; unfold zJ; omega
  have h2 : zJ hi lo % 18446744073709551616 = lo := by unfold okJ at h; unfold zJ; omega
  rw [W2, h1, h2]
def xP (z : Int) : Int := z / 18446744073709551616 % 18446744073709551616 * 18446744073709551616 + z % 18446744073709551616
def partsY : List V → Option V
  | [.a [.v (.int .i64 hi), .v (.int .u64 lo)], .c (.v (.int .u64 c))] => if okJ hi lo ∧ 0 < c ∧ c < 18446744073709551616 then some (.t [.inr (rW (w128 (xP (zJ hi lo) / c))), .inl (.v (.int .u64 (xP (zJ hi lo) % c)))]) else none
  | _ => none
def plusY : List V → Option V
  | [.a [.v (.int .i64 hi), .v (.int .u64 lo)], .a [.v (.int .i64 hi'), .v (.int .u64 lo')]] => if okJ hi lo ∧ okJ hi' lo' then some (.a (rW (w128 (zJ hi lo + zJ hi' lo')))) else none
  | _ => none
def mulY : List V → Option V
  | [.c (.v (.int .u64 x)), .c (.v (.int .u64 y))] => if (0 ≤ x ∧ x < 18446744073709551616) ∧ 0 ≤ y ∧ y < 18446744073709551616 then some (.t [.inl (.v (.int .u64 (x * y / 18446744073709551616))), .inl (.v (.int .u64 (x * y % 18446744073709551616)))]) else none
  | _ => none
def wideY : FuncId → List V → Option V := fun f vs => bif Nat.beq f 45 then partsY vs else bif Nat.beq f 35 then plusY vs else bif Nat.beq f 40 then mulY vs else none
theorem wideY_ok : EW.SoundY Try.prog wideY := by
  intro f vs v h
  unfold wideY at h
  cases h1 : Nat.beq f 45 with
  | true =>
    rw [h1, cond_true] at h
    obtain rfl := Nat.eq_of_beq_eq_true h1
    unfold partsY at h
    split at h
    · rename_i hi lo c
      split at h
      · rename_i hb
        cases h
        refine ⟨[.agg #[.int .i64 hi, .int .u64 lo], .int .u64 c], .tuple #[W2 (w128 (xP (zJ hi lo) / c)), .int .u64 (xP (zJ hi lo) % c)], ?_, ?_, rfl, fun w => ?_, _, _, Try.func45, rfl⟩
        · exact .cons (.a (.cons (.cons .nil))) (.cons .c .nil)
        · exact .t (.row (.cons (.cons .nil)) (.one .nil))
        · rw [zJ_w hb.1]
          exact wparts (zJ hi lo) _ c w (zJ_in hb.1) rfl hb.2.1 hb.2.2
      · cases h
    · cases h
  | false =>
    rw [h1, cond_false] at h
    cases h2 : Nat.beq f 35 with
    | true =>
      rw [h2, cond_true] at h
      obtain rfl := Nat.eq_of_beq_eq_true h2
      unfold plusY at h
      split at h
      · rename_i hi lo hi' lo'
        split at h
        · rename_i hb
          cases h
          refine ⟨[.agg #[.int .i64 hi, .int .u64 lo], .agg #[.int .i64 hi', .int .u64 lo']], W2 (w128 (zJ hi lo + zJ hi' lo')), ?_, ?_, rfl, fun w => ?_, _, _, Try.func35, rfl⟩
          · exact .cons (.a (.cons (.cons .nil))) (.cons (.a (.cons (.cons .nil))) .nil)
          · exact .a (.cons (.cons .nil))
          · rw [zJ_w hb.1, zJ_w hb.2]
            exact wplus _ _ w (zJ_in hb.1) (zJ_in hb.2)
        · cases h
      · cases h
    | false =>
      rw [h2, cond_false] at h
      cases h3 : Nat.beq f 40 with
      | true =>
        rw [h3, cond_true] at h
        obtain rfl := Nat.eq_of_beq_eq_true h3
        unfold mulY at h
        split at h
        · rename_i x y
          split at h
          · rename_i hb
            cases h
            refine ⟨[.int .u64 x, .int .u64 y], .tuple #[.int .u64 (x * y / 18446744073709551616), .int .u64 (x * y % 18446744073709551616)], ?_, ?_, rfl, fun w => ?_, _, _, Try.func40, rfl⟩
            · exact .cons .c (.cons .c .nil)
            · exact .t (.one (.one .nil))
            · exact mul64_any x y w hb.1.1 hb.1.2 hb.2.1 hb.2.2
          · cases h
        · cases h
      | false => rw [h3, cond_false] at h; cases h
end Go.Proofs.Ytbjogekhedglgaa
