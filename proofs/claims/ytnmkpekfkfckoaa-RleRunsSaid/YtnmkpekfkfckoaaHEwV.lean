/- Walking over named blocks: a slice that is loaded out of a cell gets a name of its own. No program in sight. -/
import Derived.Test.YtnmkpekfkfckoaaHPxO
namespace Go.Proofs.Ytnmkpekfkfckoaa.EW
set_option linter.unusedSectionVars false
set_option linter.unusedSimpArgs false
set_option linter.unusedVariables false
open Go.RowKit EV
open SX (Is)
section
variable {c : Ctx} {F : Fence} {nn : Nat} {id : Nat} {ops : Array Oper} {draw : Bool} {Q : Exit → Act → World → Prop} {σ0 σ s s' : Sf} {i : Nat} {rest : List Oper} {tr : List Tr} {sup : List Nat} {e e' : Env} {a : Act} {w : World}
theorem LocalO.loadSub1 (hF : WideLike F) {n o n' o' len lb z m : Nat} {t : TypeId} {x : Operand} {b : B} {own : Bool} {l : List C} {L L' : List Value} {d : Option Tmp} {rt : TypeId} {pos : String} {af : Array Edge} {g : Option (Nat × Bool)} (hN : dOk c.N d = true) (hx : opv σ x = some (.c (.p n o))) (ha : σ (.l n) = some (.l true)) (hb : σ (.b n) = some (.b b)) (hl : b.cellsC = some (own, l))
    (ht : tRow c.P t = some false) (hj : l[o]? = some (.g n' o' len lb z)) (hm : ¬ c.gv m) (hn : σ (.l m) = none) (ha' : σ (.l n') = some (.l true)) (hB : σ (.b n') = some (.b (.w false L))) (hL : Sub L L' o') :
    LocalO c F nn ⟨d, .load t x, rt, pos, af, g⟩ σ ⟨kr (.l m :: .l n' :: .b n' :: .l n :: .b n :: opk x), putW d (.c (.g m 0 len len z)) ++ wsNew m (.w false L')⟩ := by
  refine LocalO.act hF hN (noDefer rfl) fun s e a w hag hR => ?_
  have hag' : ∀ q ∈ Key.l n :: .b n :: opk x, s q = σ q := fun q hq => hag q (kr_iff.2 (by
    simp only [List.mem_cons] at hq ⊢
    rcases hq with h | h | h
    · exact .inr (.inr (.inr (.inl h)))
    · exact .inr (.inr (.inr (.inr (.inl h))))
    · exact .inr (.inr (.inr (.inr (.inr h))))))
  have ex := ev1r hx hag' (fun q h => by simp [h]) hR rfl ha (by simp)
  simp only [Rep] at ex
  have hbs : s (.b n) = some (.b b) := by rw [hag' _ (by simp)]; exact hb
  have hM := hR.W.cells (n := n) (by rw [hag' _ (by simp)]; exact ha) hbs hl
  obtain ⟨u, h1, h2⟩ := hM.cell hj
  have hn1 : s (.l m) = none := by rw [hag _ (kr_iff.2 (by simp))]; exact hn
  have ha1 : s (.l n') = some (.l true) := by rw [hag _ (kr_iff.2 (by simp))]; exact ha'
  have hB1 : s (.b n') = some (.b (.w false L)) := by rw [hag _ (kr_iff.2 (by simp))]; exact hB
  refine ⟨u, w, e.set m (e.id n') (e.bs n' + o') (e.rm n' - o'), ?_, Real.sub hR hm hn1 ha1 hB1 hL, fun _ => ?_, new_names rfl⟩
  · simp only [execOp, ex, Instr.loadAt, Instr.sureAddr, Sem.run_bind, Sem.run_pure, Result.andThen_ok, loadVar, run_row ht]
    simp [run_load, h1]
  · have hrep : Rep e (.g n' o' len lb z) u := h2.ok fun q hq => by
      simp only [C.names, List.mem_singleton] at hq; subst hq; exact ha1
    rcases hrep with ⟨k2, g1, g2, g3, g4, g5⟩ | ⟨g1, g2, x2, g3⟩
    · exact .inl ⟨k2, by rw [Env.set_id, Env.set_bs]; exact g1, g2, g2, g4, by rw [Env.set_rm]; omega⟩
    · exact .inr ⟨g1, g1, x2, g3⟩
/-- A slice is loaded out of a cell: what it covers gets a name of its own. -/
theorem eLoadSub1 [hF : WideLike F] (m : Nat) {L L' : List Value} {d : Tmp} {n o n' o' len lb z : Nat} {t : TypeId} {x : Operand} {b : B} {own : Bool} {l : List C} {rt : TypeId} {pos : String} {af : Array Edge} {g : Option (Nat × Bool)} {gk : List Key}
    (hr : RX c F nn id ops draw Q σ0 (i + 1) rest (upd σ ((.t d, .v (.c (.g m 0 len len z))) :: (.l m, .l true) :: (.b m, .b (.w false L')) :: [])) (⟨orR gk (kr (.l m :: .l n' :: .b n' :: .l n :: .b n :: opk x)), (.t d, .v (.c (.g m 0 len len z))) :: (.l m, .l true) :: (.b m, .b (.w false L')) :: []⟩ :: tr) sup)
    (hL : Sub L L' o')
    (hG : autoParam (GOk ops σ g gk) aGOK._auto_1) (hx : opv σ x = some (.c (.p n o)) := by rfl) (ha : σ (.l n) = some (.l true) := by rfl) (hb : σ (.b n) = some (.b b) := by rfl) (hl : b.cellsC = some (own, l) := by rfl) (ht : tRow c.P t = some false := by rfl) (hj : l[o]? = some (.g n' o' len lb z) := by rfl) (ha' : σ (.l n') = some (.l true) := by rfl) (hB : σ (.b n') = some (.b (.w false L)) := by rfl) (hm : autoParam (¬ c.gv m) aGVN._auto_1) (hn : σ (.l m) = none := by rfl) (hN : dOk c.N (some d) = true := by rfl) :
    RX c F nn id ops draw Q σ0 i (⟨some d, .load t x, rt, pos, af, g⟩ :: rest) σ tr sup := RX_o (t := ⟨kr (.l m :: .l n' :: .b n' :: .l n :: .b n :: opk x), (.t d, .v (.c (.g m 0 len len z))) :: (.l m, .l true) :: (.b m, .b (.w false L')) :: []⟩) hr hG (LocalO.loadSub1 hF hN hx ha hb hl ht hj hm hn ha' hB hL)
end
end Go.Proofs.Ytnmkpekfkfckoaa.EW
