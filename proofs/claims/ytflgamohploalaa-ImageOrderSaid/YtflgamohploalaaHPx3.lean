/- Package pixel: lists of pixels; the document's Same. -/
import Derived.Test.YtflgamohploalaaHPx2
import Derived.Test.YtflgamohploalaaHZE
namespace Go.Proofs.Ytflgamohploalaa
set_option linter.unusedSimpArgs false
set_option linter.unusedVariables false
open Go.RowKit EV
open SX (Wr Tv Qu Rm Sh Is conjP eqs_iff eqs_false)
open EW (PlL PlT PlV PlVs LfV Mm Bt Opn GV)
set_option maxRecDepth 20000
abbrev Px.vals (p : Px) : List Value := [.int .u32 p.z, .int .i64 p.o, .int .i64 p.t, .int .u32 p.c]
def pvs (l : List Px) : List Value := l.flatMap Px.vals
theorem pvs_length : ∀ l : List Px, (pvs l).length = l.length * 4
  | [] => rfl
  | p :: l => by
    have := pvs_length l
    simp only [pvs, List.flatMap_cons, List.length_append, List.length_cons] at this ⊢
    rw [this]; simp only [Px.vals, List.length_cons, List.length_nil]; omega
theorem pvs_cut : ∀ (l : List Px) (j : Nat) (h : j < l.length), ((pvs l).drop (j * 4)).take 4 = (l[j]).vals
  | p :: l, 0, _ => rfl
  | p :: l, j + 1, h => by
    have := pvs_cut l j (by simpa using h)
    rw [show (j + 1) * 4 = j * 4 + 1 + 1 + 1 + 1 by omega]
    simpa [pvs, Px.vals] using this
theorem pvs_put : ∀ (l : List Px) (j : Nat) (p : Px), j < l.length → putL (j * 4) p.vals (pvs l) = pvs (l.set j p)
  | q :: l, 0, p, _ => rfl
  | q :: l, j + 1, p, h => by
    have := pvs_put l j p (by simpa using h)
    rw [show (j + 1) * 4 = j * 4 + 1 + 1 + 1 + 1 by omega]
    simp only [pvs, List.flatMap_cons, List.set_cons_succ] at this ⊢
    simp only [Px.vals, List.cons_append, List.nil_append, putL]
    exact congrArg _ (congrArg _ (congrArg _ (congrArg _ this)))
instance (l : List Px) : EW.RowV (pvs l) 4 l.length (fun j => (l.getD j Px.zero).vals) := ⟨pvs_length l, fun j h => by
  rw [pvs_cut l j h]; simp [List.getD_eq_getElem?_getD, List.getElem?_eq_getElem h]⟩
/-- Two lists of pixels in memory. -/
abbrev W2 (o o' : Bool) (xs ys : List Px) : Ws := [(.l 0, .l true), (.b 0, .b (.w o (pvs xs))), (.l 1, .l true), (.b 1, .b (.w o' (pvs ys)))]
theorem Px.ext4 {a b : Px} (h : a.z = b.z ∧ a.o = b.o ∧ a.t = b.t ∧ a.c = b.c) : a = b := by
  obtain ⟨z, o, t, c⟩ := a
  obtain ⟨z', o', t', c'⟩ := b
  obtain ⟨rfl, rfl, rfl, rfl⟩ := h; rfl
theorem list_of_getD {α : Type} {d : α} {xs ys : List α} (h : xs.length = ys.length) (hp : ∀ q, q < xs.length → xs.getD q d = ys.getD q d) : xs = ys := by
  refine List.ext_getElem h fun i h1 h2 => ?_
  have := hp i h1
  simpa [List.getD_eq_getElem?_getD, List.getElem?_eq_getElem h1, List.getElem?_eq_getElem h2] using this
theorem less_succ {p : Nat → Prop} {i : Nat} (h : ∀ q, q < i → p q) (hi : p i) : ∀ q, q < i + 1 → p q := fun q hq => by
  rcases Nat.lt_or_ge q i with h1 | h1
  · exact h q h1
  · rw [show q = i by omega]; exact hi
end Go.Proofs.Ytflgamohploalaa
