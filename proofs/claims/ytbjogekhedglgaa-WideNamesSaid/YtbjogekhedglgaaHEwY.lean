/- The reckoner, with functions that are told by laws of their own. No program in sight. -/
import Derived.Test.YtbjogekhedglgaaHEwQ
namespace Go.Proofs.Ytbjogekhedglgaa.EW
set_option linter.unusedSimpArgs false
set_option linter.unusedVariables false
open Go.RowKit EV
def SoundY (P : Program) (Y : FuncId → List V → Option V) : Prop := ∀ f vs v, Y f vs = some v → ∃ (L : List Value) (x : Value), PlVs vs L ∧ PlV v x ∧ oneV v = true ∧ (∀ w : World, Calls P f L.toArray w fun en w' => en = .returned x ∧ Below w.heap.size w w') ∧ ∃ fn code, P.funcs[f]? = some fn ∧ fn.body = some code
noncomputable def funY (Y : FuncId → List V → Option V) (R : Rec) (P : Program) (f : FuncId) (args : List V) (h : Hp) (nx : Nat) : Option (V × Hp × Nat × List Nat) := match Y f args with
  | some v => some (v, h, nx, [])
  | none => funE R P f args h nx
theorem funY_ok {P : Program} {Y : FuncId → List V → Option V} (hE : EV.Enters P) (hY : SoundY P Y) {R : Rec} (hC : SoundC P R) {f : FuncId} {args : List V} {h h' : Hp} {nx nx' : Nat} {v : V} {wl : List Nat} (hh : funY Y R P f args h nx = some (v, h', nx', wl)) (hi : ∀ n, nx ≤ n → h.get n = none) :
    Ext h nx [] h' nx' wl ∧ (∃ t', CT P f args (lk .e h) nx nx' v (lk t' h')) ∧ ∀ args w, (callFunc f args).run P w = .ok (.enter f args) w := by
  unfold funY at hh
  split at hh
  · rename_i v0 hv
    cases hh
    obtain ⟨L, x, h1, h2, h3, h4, fn, code, h5, h6⟩ := hY _ _ _ hv
    refine ⟨Ext.refl hi, ⟨.e, ?_⟩, hE _ _ _ h5 h6⟩
    intro c e w us hP _ hW hu _
    obtain rfl := h1.uniq hu
    refine (h4 w).mono ?_
    rintro en w' ⟨rfl, bel⟩
    exact ⟨x, e, rfl, hW.on bel, h2.ok h3, fun n hn => by rw [h2.names] at hn; cases hn⟩
  · exact funE_ok hE hC hh hi
noncomputable def evY (P : Program) (X : FuncId → Option (List Value → Option (List Value))) (Y : FuncId → List V → Option V) (n : Nat) : Rec :=
  Nat.rec ⟨X, fun _ _ _ _ => none, fun _ _ _ _ => none⟩ (fun _ R => ⟨X, fun N ro code S => codeE R P N ro code S, fun g args h nx => funY Y R P g args h nx⟩) n
theorem evY_X {P : Program} {X : FuncId → Option (List Value → Option (List Value))} {Y : FuncId → List V → Option V} : ∀ f, (evY P X Y f).X = X
  | 0 => rfl
  | _ + 1 => rfl
theorem evY_ok {P : Program} {X : FuncId → Option (List Value → Option (List Value))} {Y : FuncId → List V → Option V} (hE : EV.Enters P) (hX : SoundX P X) (hY : SoundY P Y) : ∀ f, SoundC P (evY P X Y f) ∧ SoundF P (evY P X Y f)
  | 0 => ⟨fun _ _ _ _ _ _ h => (by cases h), fun _ _ _ _ _ _ _ _ h => (by cases h)⟩
  | f + 1 => ⟨fun _ _ _ _ _ _ h hi => codeE_ok (by rw [evY_X]; exact hX) (evY_ok hE hX hY f).1 (evY_ok hE hX hY f).2 h hi, fun _ _ _ _ _ _ _ _ h hi => funY_ok hE hY (evY_ok hE hX hY f).1 h hi⟩
theorem calls_plainY {P : Program} {X : FuncId → Option (List Value → Option (List Value))} {Y : FuncId → List V → Option V} (hE : EV.Enters P) (hX : SoundX P X) (hY : SoundY P Y) {fuel : Nat} {f : FuncId} {vs : List V} {us : List Value} {x : Value} (hv : PlVs vs us) (h1 : vs.all oneV = true) (h : (match (evY P X Y fuel).F f vs .e 0 with
    | some (v, _) => plV v
    | _ => none) = some x) (w : World) : Calls P f us.toArray w fun en w' => en = .returned x ∧ Below w.heap.size w w' := by
  split at h
  · rename_i v r hr
    obtain ⟨h', nx', wl⟩ := r
    obtain ⟨_, ⟨t', hct⟩, _⟩ := (evY_ok hE hX hY fuel).2 _ _ _ _ _ _ _ _ hr (fun _ _ => rfl)
    have := hct ⟨P, w, fun _ => False, fun _ => False, ⟨fun _ => 0, fun _ => 0, fun _ => 0⟩, 0, []⟩ ⟨fun _ => 0, fun _ => 0, fun _ => 0⟩ w us rfl (fun _ _ _ h => h)
      ⟨fun n b h => by simp [lk, T.get_e] at h, fun n n' b b' h => by simp [lk, T.get_e] at h, fun n b h => by simp [lk, T.get_e] at h, ⟨fun q x h => by cases q <;> simp [lk, T.get_e] at h, fun n h => by simp [lk, T.get_e] at h⟩, fun _ h => h.elim, rfl, rfl, rfl, Nat.le_refl _, fun _ _ _ => rfl⟩
      (hv.oks h1) (fun v hv' n hn => by rw [hv.names v hv'] at hn; cases hn)
    refine this.mono ?_
    rintro en w' ⟨u, e', rfl, g1, g2, _⟩
    exact ⟨by rw [(plV_ok h).uniq g2], ⟨g1.os, g1.tape, g1.output, g1.size, fun k hk => g1.old k hk (fun h => h)⟩⟩
  · cases h
end Go.Proofs.Ytbjogekhedglgaa.EW
