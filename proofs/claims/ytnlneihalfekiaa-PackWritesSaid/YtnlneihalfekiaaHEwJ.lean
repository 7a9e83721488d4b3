/- Walking over named blocks: branches that come together. No program in sight. -/
import Derived.Test.YtnlneihalfekiaaHEw7
namespace Go.Proofs.Ytnlneihalfekiaa.EW
set_option linter.unusedSimpArgs false
set_option linter.unusedVariables false
open Go.RowKit EV
section
variable {c : Ctx} {F : Fence} {nn : Nat} {Q : Exit → Act → World → Prop} {σ : Sf} {sup : List Nat}
/-- A goal that waits: no step of a walk fits it. -/
structure Park (p : Prop) : Prop where
  go : p
theorem parkK {F : Fence} {m : Nat} {P : Program} {f : Func} {R : Ending → World → Prop} {x : Exit} (h : Park (KX c (bodyPostM F m P f R x) σ sup)) : KX c (bodyPostM F m P f R x) σ sup := h.go
/-- A join is a loop of one round: the branches come ahead of all. -/
def jm {ι : Type} : Option ι → Nat
  | none => 1
  | some _ => 0
/-- What a branch hands on. -/
@[reducible] def jW {ι : Type} (W : ι → Ws) : Option ι → Ws
  | none => []
  | some i => W i
theorem jm_lt {ι : Type} (i : ι) : jm (some i) < jm (none : Option ι) := Nat.zero_lt_one
theorem Frm.ofd {T : Key → Bool} {W : Ws} : Frm (EW.drp T σ) W σ := ⟨fun q _ h => by
  cases hx : EW.drp T σ q with
  | none => exact absurd hx h
  | some x => rw [SubS.drp q x hx]⟩
/-- Branches come together in a state of a family, from which the rest goes on once. -/
theorem eJoin2 {ι : Type} {x z y : Code} (ts : List Nat) (n0 : Nat) (W : Option ι → Ws)
    (hA : Cl (drp (TT ts n0) σ) → CX c F nn x (Exit.then (z.wpIn F nn c.P (Exit.then (Later c (RS σ ts n0 W) jm none) Q)) (Exit.then (Later c (RS σ ts n0 W) jm none) Q)) σ sup)
    (hB : Cl (drp (TT ts n0) σ) → ∀ i, Park (CX c F nn y Q (EV.upd (drp (TT ts n0) σ) (W (some i))) sup)) (hN : autoParam (ClD ts n0 σ) aCLD._auto_1) :
    CX c F nn x (Exit.then (z.wpIn F nn c.P (Exit.then (y.wpIn F nn c.P Q) Q)) (Exit.then (y.wpIn F nn c.P Q) Q)) σ sup :=
  ⟨⟨fun e a w hR => by
    have hcl := hN.go hR.W.cl
    have hJ : ∀ k a w, Exit.then (Later c (RS σ ts n0 W) jm none) Q k a w → Exit.then (y.wpIn F nn c.P Q) Q k a w := fun k a w h => by
      cases k with
      | normal =>
        obtain ⟨i, hlt, e', hR'⟩ := h
        cases i with
        | none => exact absurd hlt (Nat.lt_irrefl _)
        | some i => exact (hB hcl i).go.go.go e' a w hR'
      | exit => exact h
      | goto => exact h
      | ret => exact h
      | panic => exact h
      | outgrown => exact h
    refine wpIn_mono ((hA hcl).go.go e a w hR) ?_
    intro k a' w' h
    cases k with
    | normal => exact wpIn_mono h hJ
    | exit => exact h
    | goto => exact h
    | ret => exact h
    | panic => exact h
    | outgrown => exact h⟩⟩
end
end Go.Proofs.Ytnlneihalfekiaa.EW
