/- Walking over named blocks: slices told as grown ones. No program in sight. -/
import Derived.Test.YtbjogekhedglgaaHZE
namespace Go.Proofs.Ytbjogekhedglgaa.EW
set_option linter.unusedSimpArgs false
set_option linter.unusedVariables false
open Go.RowKit EV
open SX (Is)
section
variable {c : Ctx} {F : Fence} {nn : Nat} {id : Nat} {ops : Array Oper} {draw : Bool} {Q : Exit → Act → World → Prop} {σ0 σ s : Sf} {i : Nat} {rest : List Oper} {tr : List Tr} {sup : List Nat} {e : Env} {a : Act} {w : World}
/-- A block told by an equal one. -/
theorem Real.eqB (hR : Real c s e a w) {n : Nat} {b b' : B} (hb : s (.b n) = some (.b b)) (h : b = b') : Real c (upd s [(.b n, .b b')]) e a w := by
  have : upd s [(.b n, .b b')] = s := by
    funext q
    rw [upd_cons, upd_nil]
    split
    · next he => rw [← he, hb, h]
    · rfl
  rw [this]; exact hR
theorem eEqB {code : Code} (n : Nat) {b : B} (b' : B) (h : b = b') (hr : CX c F nn code Q (upd σ [(.b n, .b b')]) sup) (hb : σ (.b n) = some (.b b) := by rfl) : CX c F nn code Q σ sup := ⟨⟨fun e a w hR => hr.go.go e a w (Real.eqB hR hb h)⟩⟩
/-- A slot told by an equal one. -/
theorem Real.eqT (hR : Real c s e a w) {n : Nat} {v v' : V} (hb : s (.t n) = some (.v v)) (h : v = v') : Real c (upd s [(.t n, .v v')]) e a w := by
  have : upd s [(.t n, .v v')] = s := by
    funext q
    rw [upd_cons, upd_nil]
    split
    · next he => rw [← he, hb, h]
    · rfl
  rw [this]; exact hR
theorem eEqT {code : Code} (n : Nat) {v : V} (v' : V) (h : v = v') (hr : CX c F nn code Q (upd σ [(.t n, .v v')]) sup) (hb : σ (.t n) = some (.v v) := by rfl) : CX c F nn code Q σ sup := ⟨⟨fun e a w hR => hr.go.go e a w (Real.eqT hR hb h)⟩⟩
end
end Go.Proofs.Ytbjogekhedglgaa.EW
