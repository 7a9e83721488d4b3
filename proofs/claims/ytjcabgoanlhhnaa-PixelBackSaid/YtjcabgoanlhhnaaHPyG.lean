/- PixelForms: whatever comes in. -/
import Derived.Test.YtjcabgoanlhhnaaHPyF
import Derived.Test.YtjcabgoanlhhnaaHPkH
namespace Go.Proofs.Ytjcabgoanlhhnaa
set_option linter.unusedSimpArgs false
set_option linter.unusedVariables false
open Go.RowKit Go.ChangeShapes Go.WideShapes EV
open SX (Wr Tv Qu Rm Sh Is conjP eqs_iff eqs_false)
open EW (PlL PlT PlV PlVs LfV Mm Bt Opn GV YT lpOf nums)
set_option maxRecDepth 20000
theorem wf_at {l : List Px} (h : ∀ p ∈ l, p.wf) (i : Nat) (hi : i < l.length) : (l.getD i Px.zero).wf := by
  rw [List.getD_eq_getElem?_getD, List.getElem?_eq_getElem hi]
  exact h _ (List.getElem_mem hi)
theorem pb_row {f : FuncId} (W : World) {b0 o0 len0 room0 b1 o1 len1 room1 : Nat} {v0 v1 : Value} {l : List Px} {bs : List Int} {s : Ws} {hi : Nat} (h0 : l.length = len0) (h1 : bs.length = len1) (sr0 : SrcG W b0 o0 room0 (pvs l)) (hv0 : InG v0 b0 o0 len0 room0 4) (sr1 : SrcG W b1 o1 room1 (nums .u8 bs)) (hv1 : InG v1 b1 o1 len1 room1 1) (hhi : hi ≤ 1000000)
    (hT : CT Try.prog f [.c (.g 0 0 l.length l.length 4), .c (.g 1 0 bs.length bs.length 1)] (upd EW.emp (WPB l bs)) 2 hi (.c (.v (.bool true))) (upd (upd EW.emp (WPB l bs)) s)) : Calls Try.prog f #[v0, v1] W fun e w' => e = .returned (.bool true) ∧ Below W.heap.size W w' := by
  subst h0 h1
  exact calls_rowsG (us := [v0, v1]) (Ls := [pvs l, nums .u8 bs]) (A := [(b0, o0, room0), (b1, o1, room1)]) (w := W) hT rfl hhi
    (fun i L hi => by
      match i, hi with
      | 0, hi => simp only [List.getElem?_cons_zero, Option.some.injEq] at hi; subst hi; exact ⟨sr0, pvs_one l⟩
      | 1, hi => simp only [List.getElem?_cons_succ, List.getElem?_cons_zero, Option.some.injEq] at hi; subst hi; exact ⟨sr1, nums_one .u8 bs⟩
      | i + 2, hi => simp at hi)
    (okvs_sliceG rfl hv0 (okvs_sliceG rfl hv1 okvs_nil))
    (fun v hv n hn => by
      simp only [List.mem_cons, List.not_mem_nil, or_false] at hv
      rcases hv with rfl | rfl <;> simp [V.names, C.names, List.flatMap_cons] at hn <;> simp [hn])
end Go.Proofs.Ytjcabgoanlhhnaa
