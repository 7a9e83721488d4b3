/- The reckoner, of plain values that are rows too. No program in sight. -/
import Derived.Test.YtafhojmnbpegpaaGreatHZD
import Derived.Test.YtafhojmnbpegpaaGreatHZK
namespace Go.Proofs.YtafhojmnbpegpaaGreat.EW
set_option linter.unusedSimpArgs false
set_option linter.unusedVariables false
open Go.RowKit EV
def plL : List C → Option (List Value)
  | [] => some []
  | .v x :: l => match plL l with
    | some r => some (x :: r)
    | none => none
  | _ => none
theorem plL_ok : ∀ {l : List C} {L : List Value}, plL l = some L → PlL l L
  | [], L, h => by simp only [plL, Option.some.injEq] at h; subst h; exact .nil
  | .v x :: l, L, h => by
    simp only [plL] at h
    cases hl : plL l with
    | none => rw [hl] at h; cases h
    | some r => rw [hl] at h; cases h; exact .cons (plL_ok hl)
def plT : List (C ⊕ List C) → Option (List Value)
  | [] => some []
  | .inl (.v x) :: l => match plT l with
    | some r => some (x :: r)
    | none => none
  | .inr r :: l => match plL r, plT l with
    | some a, some b => some (.agg a.toArray :: b)
    | _, _ => none
  | _ => none
theorem plT_ok : ∀ {l : List (C ⊕ List C)} {L : List Value}, plT l = some L → PlT l L
  | [], L, h => by simp only [plT, Option.some.injEq] at h; subst h; exact .nil
  | .inl (.v x) :: l, L, h => by
    simp only [plT] at h
    cases hl : plT l with
    | none => rw [hl] at h; cases h
    | some r => rw [hl] at h; cases h; exact .one (plT_ok hl)
  | .inr r :: l, L, h => by
    simp only [plT] at h
    cases hr : plL r with
    | none => rw [hr] at h; cases h
    | some a =>
      cases hl : plT l with
      | none => rw [hr, hl] at h; cases h
      | some b => rw [hr, hl] at h; cases h; exact .row (plL_ok hr) (plT_ok hl)
def plV : V → Option Value
  | .c (.v x) => some x
  | .a l => (plL l).map fun L => .agg L.toArray
  | .t l => (plT l).map fun L => .tuple L.toArray
  | _ => none
theorem plV_ok {v : V} {x : Value} (h : plV v = some x) : PlV v x := by
  cases v with
  | c y =>
    cases y <;> simp only [plV] at h <;> cases h
    exact .c
  | a l =>
    simp only [plV, Option.map_eq_some_iff] at h
    obtain ⟨L, h1, rfl⟩ := h; exact .a (plL_ok h1)
  | t l =>
    simp only [plV, Option.map_eq_some_iff] at h
    obtain ⟨L, h1, rfl⟩ := h; exact .t (plT_ok h1)
end Go.Proofs.YtafhojmnbpegpaaGreat.EW
