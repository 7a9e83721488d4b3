/- pixel: what is taken of bytes: plain laws; Take and the document's, of any bytes. -/
import Derived.Test.YtnmkpekfkfckoaaHPyB
import Derived.Test.YtnmkpekfkfckoaaHPyC
namespace Go.Proofs.Ytnmkpekfkfckoaa
set_option linter.unusedSimpArgs false
set_option linter.unusedVariables false
open Go.RowKit EV
open SX (Wr Tv Qu Rm Sh Is conjP eqs_iff eqs_false)
open EW (PlL PlT PlV PlVs LfV Mm Bt Opn GV YT lpOf nums)
set_option maxRecDepth 20000
/-- The pixel that bytes begin with, and how many these are. -/
def takeP (l : List Int) : Option (Px × Nat) :=
  match num l with
  | none => none
  | some (z, k0) => if z = 16777216 then some (⟨16777216, 0, 0, 0⟩, k0) else if 16777216 < z then none else
    match num (l.drop k0) with
    | none => none
    | some (o, k1) => if 65535 < o then none else
      match num (l.drop (k0 + k1)) with
      | none => none
      | some (t, k2) => if 63 < t then none else
        match num (l.drop (k0 + k1 + k2)) with
        | none => none
        | some (c, k3) => if o = 0 ∨ 4294967295 < c then none else some (⟨z, o, t, c⟩, k0 + k1 + k2 + k3)
/-- How a pixel is taken. -/
inductive TkP (l : List Int) : Option (Px × Nat) → Prop
  | e (k0 : Nat) (h0 : num l = some (16777216, k0)) : TkP l (some (⟨16777216, 0, 0, 0⟩, k0))
  | n (z o t c k0 k1 k2 k3 : Nat) (h0 : num l = some (z, k0)) (hz : z < 16777216) (h1 : num (l.drop k0) = some (o, k1)) (ho : o ≤ 65535) (h2 : num (l.drop (k0 + k1)) = some (t, k2)) (ht : t ≤ 63) (h3 : num (l.drop (k0 + k1 + k2)) = some (c, k3)) (o1 : 1 ≤ o) (hc : c ≤ 4294967295) : TkP l (some (⟨z, o, t, c⟩, k0 + k1 + k2 + k3))
  | f0 (hf : ∀ v k, num l = some (v, k) → 16777216 < v) : TkP l none
  | f1 (z k0 : Nat) (h0 : num l = some (z, k0)) (hz : z < 16777216) (hf : ∀ v k, num (l.drop k0) = some (v, k) → 65535 < v) : TkP l none
  | f2 (z o k0 k1 : Nat) (h0 : num l = some (z, k0)) (hz : z < 16777216) (h1 : num (l.drop k0) = some (o, k1)) (ho : o ≤ 65535) (hf : ∀ v k, num (l.drop (k0 + k1)) = some (v, k) → 63 < v) : TkP l none
  | f3 (z o t k0 k1 k2 : Nat) (h0 : num l = some (z, k0)) (hz : z < 16777216) (h1 : num (l.drop k0) = some (o, k1)) (ho : o ≤ 65535) (h2 : num (l.drop (k0 + k1)) = some (t, k2)) (ht : t ≤ 63) (hf : num (l.drop (k0 + k1 + k2)) = none) : TkP l none
  | f4 (z o t c k0 k1 k2 k3 : Nat) (h0 : num l = some (z, k0)) (hz : z < 16777216) (h1 : num (l.drop k0) = some (o, k1)) (ho : o ≤ 65535) (h2 : num (l.drop (k0 + k1)) = some (t, k2)) (ht : t ≤ 63) (h3 : num (l.drop (k0 + k1 + k2)) = some (c, k3)) (hb : o = 0 ∨ 4294967295 < c) : TkP l none
theorem takeP_is (l : List Int) : TkP l (takeP l) := by
  unfold takeP
  cases h0 : num l with
  | none => exact .f0 fun v k h => by rw [h0] at h; cases h
  | some q0 =>
    obtain ⟨z, k0⟩ := q0
    dsimp only
    by_cases hz : z = 16777216
    · rw [if_pos hz]; subst hz; exact .e k0 h0
    rw [if_neg hz]
    by_cases hz2 : 16777216 < z
    · rw [if_pos hz2]; exact .f0 fun v k h => by rw [h0] at h; cases h; exact hz2
    rw [if_neg hz2]
    cases h1 : num (l.drop k0) with
    | none => exact .f1 z k0 h0 (by omega) fun v k h => by rw [h1] at h; cases h
    | some q1 =>
      obtain ⟨o, k1⟩ := q1
      dsimp only
      by_cases ho : 65535 < o
      · rw [if_pos ho]; exact .f1 z k0 h0 (by omega) fun v k h => by rw [h1] at h; cases h; exact ho
      rw [if_neg ho]
      cases h2 : num (l.drop (k0 + k1)) with
      | none => exact .f2 z o k0 k1 h0 (by omega) h1 (by omega) fun v k h => by rw [h2] at h; cases h
      | some q2 =>
        obtain ⟨t, k2⟩ := q2
        dsimp only
        by_cases ht : 63 < t
        · rw [if_pos ht]; exact .f2 z o k0 k1 h0 (by omega) h1 (by omega) fun v k h => by rw [h2] at h; cases h; exact ht
        rw [if_neg ht]
        cases h3 : num (l.drop (k0 + k1 + k2)) with
        | none => exact .f3 z o t k0 k1 k2 h0 (by omega) h1 (by omega) h2 (by omega) h3
        | some q3 =>
          obtain ⟨c, k3⟩ := q3
          dsimp only
          by_cases hb : o = 0 ∨ 4294967295 < c
          · rw [if_pos hb]; exact .f4 z o t c k0 k1 k2 k3 h0 (by omega) h1 (by omega) h2 (by omega) h3 hb
          · rw [if_neg hb]; exact .n z o t c k0 k1 k2 k3 h0 (by omega) h1 (by omega) h2 (by omega) h3 (by omega) (by omega)
theorem by_drop {l : List Int} (h : By l) (k : Nat) : By (l.drop k) := fun x hx => h x (List.mem_of_mem_drop hx)
end Go.Proofs.Ytnmkpekfkfckoaa
