/- Helpers for a row: slices of records that came in, told as grown ones. No function in sight. -/
import Derived.Test.YtnlneihalfekiaaHZR
import Derived.Test.YtnlneihalfekiaaHEw7
namespace Go.Proofs.Ytnlneihalfekiaa
set_option linter.unusedSimpArgs false
set_option linter.unusedVariables false
open Go.RowKit Go.ChangeShapes Go.WideShapes EV
/-- These cells stand there, and there is room. -/
def SrcG (w : World) (b off room : Nat) (L : List Value) : Prop :=
  L.length ≤ room ∧ (room = 0 ∨ ∃ cs ty fz, w.heap[b]? = some (.cells cs ty fz) ∧ off + room ≤ cs.size ∧ ∀ i x, L[i]? = some x → cs[off + i]? = some x)
/-- The slice that came in. -/
def InG (v : Value) (b off len room z : Nat) : Prop := (∃ cap, v = .slice (some ⟨b, off, none⟩) len cap ∧ len ≤ cap ∧ cap ≤ maxLen ∧ cap * z ≤ room) ∨ (len = 0 ∧ v = .slice none 0 0)
section
variable {H : Type} {enc : TypeId × Value → H} {P : Program} {w : World} {base : Nat} {sp : Nat → Bool} {held : Bool}
theorem cells_end {b off o n : Nat} {cs : List Value} (h : w.cells? base ((⟨b, off, none⟩ : Addr).add o) n = some cs) (hn : 0 < n) : ∃ cs ty fz, w.heap[b]? = some (.cells cs ty fz) ∧ off + o + n ≤ cs.size := by
  have hl := (World.cells?_some h).1
  have g3 := (World.cells?_some h).2.2 (n - 1) (by omega)
  have e2 : ∀ a b' : Nat, ((⟨b, off, none⟩ : Addr).add a).add b' = ⟨b, off + (a + b'), none⟩ := by
    intro a b'
    unfold Addr.add
    by_cases ha : a = 0 <;> by_cases hb : b' = 0 <;> simp [ha, hb] <;> omega
  rw [e2] at g3
  have hx : w.cell? ⟨b, off + (o + (n - 1)), none⟩ ≠ none := by
    rw [g3]
    intro h0
    rw [List.getElem?_eq_none_iff] at h0
    have := (World.cells?_some h).2.1
    omega
  unfold World.cell? at hx
  cases ho : w.heap[b]? with
  | none => simp [ho] at hx
  | some x =>
    cases x with
    | cells cs ty fz =>
      refine ⟨cs, ty, fz, rfl, ?_⟩
      rw [ho] at hx
      simp only [ne_eq] at hx
      rcases Nat.lt_or_ge (off + (o + (n - 1))) cs.size with h1 | h1
      · omega
      · exact absurd (Array.getElem?_eq_none h1) (by simpa using hx)
    | _ => simp [ho] at hx
end
/-- Where the blocks stand. -/
def envG (A : List (Nat × Nat × Nat)) : Env := ⟨fun n => (A.getD n (0, 0, 0)).1, fun n => (A.getD n (0, 0, 0)).2.1, fun n => (A.getD n (0, 0, 0)).2.2⟩
end Go.Proofs.Ytnlneihalfekiaa
