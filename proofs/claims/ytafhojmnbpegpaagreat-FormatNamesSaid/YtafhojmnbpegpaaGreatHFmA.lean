/- mullionlaw07.alive, reckoned, and told to the reckoner. -/
import Derived.Test.YtafhojmnbpegpaaGreatHCn1
namespace Go.Proofs.YtafhojmnbpegpaaGreat
set_option linter.unusedSimpArgs false
set_option linter.unusedVariables false
open Go.RowKit EV
set_option maxRecDepth 20000
theorem falive (w : World) : Calls Tryz.prog 25 #[] w fun e w' => e = .returned (.bool true) ∧ Below w.heap.size w w' :=
  EW.calls_plainZ enters EV.noX_ok crcY_ok (fuel := 4000) (vs := []) (us := []) .nil rfl (by kernel_rfl) w
theorem falive_ct (h : Sf) (lo hi : Nat) : CT Tryz.prog 25 [] h lo hi (.c (.v (.bool true))) h := fun c e w us hP hg hW hus _ => by
  have hu : us = [] := hus
  subst hu
  exact (falive w).mono fun en w' ⟨he, hb⟩ => ⟨_, e, he, hW.on hb, fun _ => rfl, fun n hn => by simp [V.names, C.names] at hn⟩
noncomputable def crcA (f : FuncId) (args : List V) (h : Hp) (nx : Nat) : Option (V × Hp × Nat × List Nat) := match args with
  | [] => bif Nat.beq f 25 then some (.c (.v (.bool true)), h, nx, []) else crcY f [] h nx
  | args => crcY f args h nx
theorem crcA_ok : EW.SoundZ Tryz.prog crcA := by
  intro f args h nx v h' nx' wl hz hi
  unfold crcA at hz
  split at hz
  · cases hf : Nat.beq f 25 with
    | false => rw [hf, cond_false] at hz; exact crcY_ok _ _ _ _ _ _ _ _ hz hi
    | true =>
      rw [hf, cond_true] at hz
      cases hz
      obtain rfl := Nat.eq_of_beq_eq_true hf
      exact ⟨.refl hi, ⟨.e, falive_ct _ _ _⟩, Tryz.call25⟩
  · exact crcY_ok _ _ _ _ _ _ _ _ hz hi
end Go.Proofs.YtafhojmnbpegpaaGreat
