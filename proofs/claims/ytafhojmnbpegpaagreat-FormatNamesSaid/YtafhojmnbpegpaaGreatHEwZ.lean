/- The reckoner, with calls that are told by laws, the heap included. No program in sight. -/
import Derived.Test.YtafhojmnbpegpaaGreatHEwQ
namespace Go.Proofs.YtafhojmnbpegpaaGreat.EW
set_option linter.unusedSimpArgs false
set_option linter.unusedVariables false
open Go.RowKit EV
/-- What is told of a call, the heap included. -/
def SoundZ (P : Program) (Z : FuncId → List V → Hp → Nat → Option (V × Hp × Nat × List Nat)) : Prop := ∀ f args h nx v h' nx' wl, Z f args h nx = some (v, h', nx', wl) → (∀ n, nx ≤ n → h.get n = none) →
  Ext h nx [] h' nx' wl ∧ (∃ t', CT P f args (lk .e h) nx nx' v (lk t' h')) ∧ ∀ args w, (callFunc f args).run P w = .ok (.enter f args) w
noncomputable def funZ (Z : FuncId → List V → Hp → Nat → Option (V × Hp × Nat × List Nat)) (R : Rec) (P : Program) (f : FuncId) (args : List V) (h : Hp) (nx : Nat) : Option (V × Hp × Nat × List Nat) := match Z f args h nx with
  | some r => some r
  | none => funE R P f args h nx
theorem funZ_ok {P : Program} {Z : FuncId → List V → Hp → Nat → Option (V × Hp × Nat × List Nat)} (hE : EV.Enters P) (hZ : SoundZ P Z) {R : Rec} (hC : SoundC P R) {f : FuncId} {args : List V} {h h' : Hp} {nx nx' : Nat} {v : V} {wl : List Nat} (hh : funZ Z R P f args h nx = some (v, h', nx', wl)) (hi : ∀ n, nx ≤ n → h.get n = none) :
    Ext h nx [] h' nx' wl ∧ (∃ t', CT P f args (lk .e h) nx nx' v (lk t' h')) ∧ ∀ args w, (callFunc f args).run P w = .ok (.enter f args) w := by
  unfold funZ at hh
  split at hh
  · rename_i r hr
    cases hh
    exact hZ _ _ _ _ _ _ _ _ hr hi
  · exact funE_ok hE hC hh hi
noncomputable def evZ (P : Program) (X : FuncId → Option (List Value → Option (List Value))) (Z : FuncId → List V → Hp → Nat → Option (V × Hp × Nat × List Nat)) (n : Nat) : Rec :=
  Nat.rec ⟨X, fun _ _ _ _ => none, fun _ _ _ _ => none⟩ (fun _ R => ⟨X, fun N ro code S => codeE R P N ro code S, fun g args h nx => funZ Z R P g args h nx⟩) n
theorem evZ_X {P : Program} {X : FuncId → Option (List Value → Option (List Value))} {Z : FuncId → List V → Hp → Nat → Option (V × Hp × Nat × List Nat)} : ∀ f, (evZ P X Z f).X = X
  | 0 => rfl
  | _ + 1 => rfl
theorem evZ_ok {P : Program} {X : FuncId → Option (List Value → Option (List Value))} {Z : FuncId → List V → Hp → Nat → Option (V × Hp × Nat × List Nat)} (hE : EV.Enters P) (hX : SoundX P X) (hZ : SoundZ P Z) : ∀ f, SoundC P (evZ P X Z f) ∧ SoundF P (evZ P X Z f)
  | 0 => ⟨fun _ _ _ _ _ _ h => (by cases h), fun _ _ _ _ _ _ _ _ h => (by cases h)⟩
  | f + 1 => ⟨fun _ _ _ _ _ _ h hi => codeE_ok (by rw [evZ_X]; exact hX) (evZ_ok hE hX hZ f).1 (evZ_ok hE hX hZ f).2 h hi, fun _ _ _ _ _ _ _ _ h hi => funZ_ok hE hZ (evZ_ok hE hX hZ f).1 h hi⟩
theorem calls_plainZ {P : Program} {X : FuncId → Option (List Value → Option (List Value))} {Z : FuncId → List V → Hp → Nat → Option (V × Hp × Nat × List Nat)} (hE : EV.Enters P) (hX : SoundX P X) (hZ : SoundZ P Z) {fuel : Nat} {f : FuncId} {vs : List V} {us : List Value} {x : Value} (hv : PlVs vs us) (h1 : vs.all oneV = true) (h : (match (evZ P X Z fuel).F f vs .e 0 with
    | some (v, _) => plV v
    | _ => none) = some x) (w : World) : Calls P f us.toArray w fun en w' => en = .returned x ∧ Below w.heap.size w w' := by
  split at h
  · rename_i v r hr
    obtain ⟨h', nx', wl⟩ := r
    obtain ⟨_, ⟨t', hct⟩, _⟩ := (evZ_ok hE hX hZ fuel).2 _ _ _ _ _ _ _ _ hr (fun _ _ => rfl)
    have := hct ⟨P, w, fun _ => False, fun _ => False, ⟨fun _ => 0, fun _ => 0, fun _ => 0⟩, 0, []⟩ ⟨fun _ => 0, fun _ => 0, fun _ => 0⟩ w us rfl (fun _ _ _ h => h)
      ⟨fun n b h => by simp [lk, T.get_e] at h, fun n n' b b' h => by simp [lk, T.get_e] at h, fun n b h => by simp [lk, T.get_e] at h, ⟨fun q x h => by cases q <;> simp [lk, T.get_e] at h, fun n h => by simp [lk, T.get_e] at h⟩, fun _ h => h.elim, rfl, rfl, rfl, Nat.le_refl _, fun _ _ _ => rfl⟩
      (hv.oks h1) (fun v hv' n hn => by rw [hv.names v hv'] at hn; cases hn)
    refine this.mono ?_
    rintro en w' ⟨u, e', rfl, g1, g2, _⟩
    exact ⟨by rw [(plV_ok h).uniq g2], ⟨g1.os, g1.tape, g1.output, g1.size, fun k hk => g1.old k hk (fun h => h)⟩⟩
  · cases h
end Go.Proofs.YtafhojmnbpegpaaGreat.EW
