import Derived.Test.YtnmkpekfkfckoaaHCrz
import Derived.Test.YtnmkpekfkfckoaaHRlL
import Derived.Test.YtnmkpekfkfckoaaHRow4
/- mullionlaw16.alive, reckoned. -/
namespace Go.Proofs.Ytnmkpekfkfckoaa
set_option linter.unusedSimpArgs false
set_option linter.unusedVariables false
open Go.RowKit
set_option maxRecDepth 20000
theorem ralive (w : World) : Calls Try.prog 26 #[] w fun e w' => e = .returned (.bool true) ∧ Below w.heap.size w w' :=
  EW.calls_plainZ enters EV.noX_ok crcZ_ok (fuel := 3000) (vs := []) (us := []) .nil rfl (by kernel_rfl) w
end Go.Proofs.Ytnmkpekfkfckoaa
/- RleWrites: whatever comes in. -/
namespace Go.Proofs.Ytnmkpekfkfckoaa
set_option linter.unusedSimpArgs false
set_option linter.unusedVariables false
open Go.RowKit Go.ChangeShapes Go.WideShapes EV
open SX (Wr Tv Qu Rm Sh Is conjP eqs_iff eqs_false)
open EW (PlL PlT PlV PlVs LfV Mm Bt Opn GV YT lpOf nums)
set_option maxRecDepth 20000
theorem wf_of {l : List Px} (h : ∀ p ∈ l, p.wf) (i : Nat) (hi : i < l.length) : (l.getD i Px.zero).wf := by
  rw [List.getD_eq_getElem?_getD, List.getElem?_eq_getElem hi]
  exact h _ (List.getElem_mem hi)
theorem p1_row {f : FuncId} (W : World) {b0 o0 len0 room0 : Nat} {v0 : Value} {l : List Px} {s : Ws} {hi : Nat} (h0 : l.length = len0) (sr0 : SrcG W b0 o0 room0 (pvs l)) (hv0 : InG v0 b0 o0 len0 room0 4) (hhi : hi ≤ 1000000)
    (hT : CT Try.prog f [.c (.g 0 0 l.length l.length 4)] (upd EW.emp (WP false l)) 1 hi (.c (.v (.bool true))) (upd (upd EW.emp (WP false l)) s)) : Calls Try.prog f #[v0] W fun e w' => e = .returned (.bool true) ∧ Below W.heap.size W w' := by
  subst h0
  exact calls_rowsG (us := [v0]) (Ls := [pvs l]) (A := [(b0, o0, room0)]) (w := W) hT rfl hhi
    (fun i L hi => by
      match i, hi with
      | 0, hi => simp only [List.getElem?_cons_zero, Option.some.injEq] at hi; subst hi; exact ⟨sr0, pvs_one l⟩
      | i + 1, hi => simp at hi)
    (okvs_sliceG rfl hv0 okvs_nil)
    (fun v hv n hn => by
      simp only [List.mem_cons, List.not_mem_nil, or_false] at hv
      rcases hv with rfl
      simp [V.names, C.names, List.flatMap_cons] at hn; simp [hn])
end Go.Proofs.Ytnmkpekfkfckoaa
