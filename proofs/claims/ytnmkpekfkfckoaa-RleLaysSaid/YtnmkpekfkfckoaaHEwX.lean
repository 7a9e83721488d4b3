import Derived.Test.YtnmkpekfkfckoaaHRmD
import Derived.Test.YtnmkpekfkfckoaaHRlI
/- RleReads: the walk. -/
namespace Go.Proofs.Ytnmkpekfkfckoaa
set_option linter.unusedSimpArgs false
set_option linter.unusedVariables false
open Go.RowKit Go.ChangeShapes Go.WideShapes EV
open SX (Wr Tv Qu Rm Sh Is conjP eqs_iff eqs_false)
open EW (PlL PlT PlV PlVs LfV Mm Bt Opn GV YT lpOf nums)
set_option maxRecDepth 20000
instance (j : Nat) (l : List Px) (x : Int) : EW.PutA (j * 4 + 1) [.int .i64 x] (pvs l) (pvs (l.set j ⟨(l.getD j Px.zero).z, x, (l.getD j Px.zero).t, (l.getD j Px.zero).c⟩)) (j < l.length) := ⟨fun h => by
  induction l generalizing j with
  | nil => simp at h
  | cons p l ih =>
    cases j with
    | zero => rfl
    | succ j =>
      have := ih j (by simpa using h)
      rw [show (j + 1) * 4 + 1 = j * 4 + 1 + 1 + 1 + 1 + 1 by omega]
      simp only [pvs, List.flatMap_cons, List.set_cons_succ, List.getD_cons_succ] at this ⊢
      simp only [Px.vals, List.cons_append, List.nil_append, putL]
      exact congrArg _ (congrArg _ (congrArg _ (congrArg _ this)))⟩
end Go.Proofs.Ytnmkpekfkfckoaa
/- Walking over named blocks: a slice that is moved gets a name of its own. No program in sight. -/
namespace Go.Proofs.Ytnmkpekfkfckoaa.EW
set_option linter.unusedSectionVars false
set_option linter.unusedSimpArgs false
set_option linter.unusedVariables false
open Go.RowKit EV
open SX (Is)
section
variable {c : Ctx} {F : Fence} {nn : Nat} {id : Nat} {ops : Array Oper} {draw : Bool} {Q : Exit → Act → World → Prop} {σ0 σ s s' : Sf} {i : Nat} {rest : List Oper} {tr : List Tr} {sup : List Nat} {e e' : Env} {a : Act} {w : World}
/-- A slice of a block that came in, moved: what it covers gets a name. -/
theorem eMoveSub [hF : WideLike F] (m : Nat) {L L' : List Value} {d : Tmp} {x : Operand} {n o len lb z : Nat} {rt : TypeId} {pos : String} {af : Array Edge} {g : Option (Nat × Bool)} {gk : List Key}
    (hr : RX c F nn id ops draw Q σ0 (i + 1) rest (upd σ ((.t d, .v (.c (.g m 0 len len z))) :: (.l m, .l true) :: (.b m, .b (.w false L')) :: [])) (⟨orR gk (kr (.l m :: .l n :: .b n :: opk x)), (.t d, .v (.c (.g m 0 len len z))) :: (.l m, .l true) :: (.b m, .b (.w false L')) :: []⟩ :: tr) sup)
    (hL : Sub L L' o)
    (hG : autoParam (GOk ops σ g gk) aGOK._auto_1) (hx : opv σ x = some (.c (.g n o len lb z)) := by rfl) (ha : σ (.l n) = some (.l true) := by rfl) (hB : σ (.b n) = some (.b (.w false L)) := by rfl) (hm : autoParam (¬ c.gv m) aGVN._auto_1) (hn : σ (.l m) = none := by rfl) (hN : dOk c.N (some d) = true := by rfl) :
    RX c F nn id ops draw Q σ0 i (⟨some d, .move x, rt, pos, af, g⟩ :: rest) σ tr sup := RX_o (t := ⟨kr (.l m :: .l n :: .b n :: opk x), (.t d, .v (.c (.g m 0 len len z))) :: (.l m, .l true) :: (.b m, .b (.w false L')) :: []⟩) hr hG (LocalO.sub (cap := lb) hF hN rfl (PO.move hx) hm hn ha hB hL)
end
end Go.Proofs.Ytnmkpekfkfckoaa.EW
