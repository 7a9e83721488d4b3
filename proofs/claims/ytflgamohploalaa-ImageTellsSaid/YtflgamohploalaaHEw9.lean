/- Rules for texts: joined, cut, read at a place. No program in sight. -/
import Derived.Test.YtflgamohploalaaHEw8
namespace Go.Proofs.Ytflgamohploalaa.EW
set_option linter.unusedSimpArgs false
set_option linter.unusedVariables false
open Go.RowKit EV
open SX (Wr Tv Qu Rm Sh Is conjP eqs)
variable {c : Ctx} {F : Fence} {nn : Nat} {id : Nat} {ops : Array Oper} {draw : Bool} {Q : Exit → Act → World → Prop} {σ0 σ s : Sf} {i : Nat} {rest : List Oper} {tr : List Tr} {sup : List Nat} {e : Env} {a : Act} {w : World}
/-- Two texts joined. -/
theorem eStrAdd [hF : WideLike F] {d : Tmp} {x y : Operand} {a b : List UInt8} {t ty : TypeId} {rt : TypeId} {pos : String} {af : Array Edge} {g : Option (Nat × Bool)} {gk : List Key}
    (hr : RX c F nn id ops draw Q σ0 (i + 1) rest (upd σ [(.t d, .v (.c (.v (.string ⟨(a ++ b).toArray⟩))))]) (⟨orR gk (kr (opk x ++ opk y)), [(.t d, .v (.c (.v (.string ⟨(a ++ b).toArray⟩))))]⟩ :: tr) sup)
    (hG : autoParam (GOk ops σ g gk) aGOK._auto_1) (hx : opv σ x = some (.c (.v (.string ⟨a.toArray⟩))) := by rfl) (hy : opv σ y = some (.c (.v (.string ⟨b.toArray⟩))) := by rfl) (hl : autoParam (a.length + b.length ≤ 1000000000) aLEN._auto_1) (hN : dOk c.N (some d) = true := by rfl) :
    RX c F nn id ops draw Q σ0 i (⟨some d, .binOp .add t x y ty, rt, pos, af, g⟩ :: rest) σ tr sup := RX_po hF hr hG hN rfl (PO.bin hx hy (by simp only [binC, strC]; rw [if_pos (by simpa using hl)]))
/-- A text cut. -/
theorem eSubT [hF : WideLike F] {d : Tmp} {x : Operand} {a : List UInt8} {l h m : Nat} {lo hi : Option Operand} {lo' hi' : Option Int} {t : TypeId} {k1 k2 : List Key} {rt : TypeId} {pos : String} {af : Array Edge} {g : Option (Nat × Bool)} {gk : List Key}
    (hr : RX c F nn id ops draw Q σ0 (i + 1) rest (upd σ [(.t d, .v (.c (.v (.string ⟨((a.drop l).take (h - l)).toArray⟩))))]) (⟨orR gk (kr (opk x ++ (k1 ++ k2))), [(.t d, .v (.c (.v (.string ⟨((a.drop l).take (h - l)).toArray⟩))))]⟩ :: tr) sup)
    (hG : autoParam (GOk ops σ g gk) aGOK._auto_1) (hx : opv σ x = some (.c (.v (.string ⟨a.toArray⟩))) := by rfl) (h1 : autoParam (OptI σ lo lo' k1) aOPT._auto_1) (h2 : autoParam (OptI σ hi hi' k2) aOPT._auto_1) (hu : c.P.underlying t = some .string := by rfl) (hb : autoParam (bnd a.length a.length lo' hi' none l h m) aBDS._auto_1) (hN : dOk c.N (some d) = true := by rfl) :
    RX c F nn id ops draw Q σ0 i (⟨some d, .slice t x lo hi none, rt, pos, af, g⟩ :: rest) σ tr sup := by
  have e1 : (⟨a.toArray⟩ : ByteArray).extract l h = ⟨((a.drop l).take (h - l)).toArray⟩ := by
    apply ByteArray.ext
    rw [ByteArray.data_extract]
    simp [List.extract_eq_take_drop]
  have := PO.sliceT (P := c.P) (b := ⟨a.toArray⟩) hx h1 h2 hu (by simpa using hb)
  rw [e1] at this
  exact RX_po hF hr hG hN rfl this
end Go.Proofs.Ytflgamohploalaa.EW
