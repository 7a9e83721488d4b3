/- Walking over named blocks: branches that come together. No program in sight. -/
import Derived.Test.YtflgamohploalaaHEw7
namespace Go.Proofs.Ytflgamohploalaa.EW
set_option linter.unusedSectionVars false
set_option linter.unusedSimpArgs false
set_option linter.unusedVariables false
open Go.RowKit EV
section
variable {c : Ctx} {F : Fence} {nn : Nat} {Q : Exit → Act → World → Prop} {σ : Sf} {sup : List Nat}
/-- A goal that waits: no step of a walk fits it. -/
structure Park (p : Prop) : Prop where
  go : p
theorem parkK {F : Fence} {m : Nat} {P : Program} {f : Func} {R : Ending → World → Prop} {x : Exit} (h : Park (KX c (bodyPostM F m P f R x) σ sup)) : KX c (bodyPostM F m P f R x) σ sup := h.go
end
end Go.Proofs.Ytflgamohploalaa.EW
