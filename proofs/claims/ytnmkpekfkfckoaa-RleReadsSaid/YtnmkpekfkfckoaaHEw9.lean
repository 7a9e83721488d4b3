import Derived.Test.YtnmkpekfkfckoaaHIm5
import Derived.Test.YtnmkpekfkfckoaaHEw7
/- image: Check; the document's May. -/
/- image: Slot; the document's; sign. -/
/- image: slices.Clone of pixels. -/
/- More rules. No program in sight. -/
namespace Go.Proofs.Ytnmkpekfkfckoaa.EW
set_option linter.unusedSectionVars false
set_option linter.unusedSimpArgs false
set_option linter.unusedVariables false
open Go.RowKit EV
open SX (Wr Tv Qu Rm Sh Is conjP eqs)
variable {c : Ctx} {F : Fence} {nn : Nat} {id : Nat} {ops : Array Oper} {draw : Bool} {Q : Exit → Act → World → Prop} {σ0 σ s : Sf} {i : Nat} {rest : List Oper} {tr : List Tr} {sup : List Nat} {e : Env} {a : Act} {w : World}
/-- All bits turned. -/
theorem eInv [hF : WideLike F] {d : Tmp} {x : Operand} {k : IntKind} {a r : Int} {t : TypeId} {rt : TypeId} {pos : String} {af : Array Edge} {g : Option (Nat × Bool)} {gk : List Key}
    (hr : RX c F nn id ops draw Q σ0 (i + 1) rest (upd σ [(.t d, .v (.c (.v (.int k r))))]) (⟨orR gk (kr (opk x)), [(.t d, .v (.c (.v (.int k r))))]⟩ :: tr) sup)
    (hG : autoParam (GOk ops σ g gk) aGOK._auto_1) (hx : opv σ x = some (.c (.v (.int k a))) := by rfl) (hr' : Is (k.wrap ((BitVec.ofInt k.bits (if k.signed then -1 else k.max)) ^^^ BitVec.ofInt k.bits a).toNat) r := by exact ⟨rfl⟩) (hN : dOk c.N (some d) = true := by rfl) :
    RX c F nn id ops draw Q σ0 i (⟨some d, .unOp .xor t x, rt, pos, af, g⟩ :: rest) σ tr sup := RX_po hF hr hG hN rfl (PO.un hx (by simp only [unC, hr'.eq]))
end Go.Proofs.Ytnmkpekfkfckoaa.EW
/- Rules for texts: joined, cut, read at a place. No program in sight. -/
namespace Go.Proofs.Ytnmkpekfkfckoaa.EW
set_option linter.unusedSectionVars false
set_option linter.unusedSimpArgs false
set_option linter.unusedVariables false
open Go.RowKit EV
open SX (Wr Tv Qu Rm Sh Is conjP eqs)
variable {c : Ctx} {F : Fence} {nn : Nat} {id : Nat} {ops : Array Oper} {draw : Bool} {Q : Exit → Act → World → Prop} {σ0 σ s : Sf} {i : Nat} {rest : List Oper} {tr : List Tr} {sup : List Nat} {e : Env} {a : Act} {w : World}
/-- Two texts joined. -/
theorem eStrAdd [hF : WideLike F] {d : Tmp} {x y : Operand} {a b : List UInt8} {t ty : TypeId} {rt : TypeId} {pos : String} {af : Array Edge} {g : Option (Nat × Bool)} {gk : List Key}
    (hr : RX c F nn id ops draw Q σ0 (i + 1) rest (upd σ [(.t d, .v (.c (.v (.string ⟨(a ++ b).toArray⟩))))]) (⟨orR gk (kr (opk x ++ opk y)), [(.t d, .v (.c (.v (.string ⟨(a ++ b).toArray⟩))))]⟩ :: tr) sup)
    (hG : autoParam (GOk ops σ g gk) aGOK._auto_1) (hx : opv σ x = some (.c (.v (.string ⟨a.toArray⟩))) := by rfl) (hy : opv σ y = some (.c (.v (.string ⟨b.toArray⟩))) := by rfl) (hl : autoParam (a.length + b.length ≤ 1000000000) aLEN._auto_1) (hN : dOk c.N (some d) = true := by rfl) :
    RX c F nn id ops draw Q σ0 i (⟨some d, .binOp .add t x y ty, rt, pos, af, g⟩ :: rest) σ tr sup := RX_po hF hr hG hN rfl (PO.bin hx hy (by simp only [binC, strC]; rw [if_pos (by simpa using hl)]))
end Go.Proofs.Ytnmkpekfkfckoaa.EW
