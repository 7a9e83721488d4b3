/- PackAgain: of what comes in. -/
import Derived.Test.YtnlneihalfekiaaHPkG
import Derived.Test.YtnlneihalfekiaaHPkH
namespace Go.Proofs.Ytnlneihalfekiaa
set_option linter.unusedSimpArgs false
set_option linter.unusedVariables false
open Go.RowKit EV
open EW (PlL PlT PlV PlVs nums)
theorem again_row (W : World) {b off len room : Nat} {rows : List (List Value)} {v : Value} (hl : rows.length = len) (ft : ∀ s ∈ rows, Fit [.i .u8] s) (sr : SrcG W b off room rows.flatten) (hv : InG v b off len room 1) :
    Calls Try.prog 4 #[v] W fun e w' => e = .returned (.bool true) ∧ Below W.heap.size W w' := by
  obtain ⟨l, h1, h2, hy⟩ := bytes_of_rows ft
  rw [h2] at sr
  obtain rfl : l.length = len := by omega
  have ct : CT Try.prog 4 [.c (.g 0 0 l.length l.length 1)] (upd EW.emp (WB false l)) 1 1 (.c (.v (.bool true))) (upd (upd EW.emp (WB false l)) []) := by
    rcases Nat.lt_or_ge 2000 l.length with h | h
    · exact again_great false l h
    · exact again_ok false l hy h
  have := calls_rowsG (us := [v]) (Ls := [nums .u8 l]) (A := [(b, off, room)]) (w := W) ct rfl (by decide)
    (fun i L hi => by
      match i, hi with
      | 0, hi => simp only [List.getElem?_cons_zero, Option.some.injEq] at hi; subst hi; exact ⟨sr, nums_one .u8 l⟩
      | i + 1, hi => simp at hi)
    (okvs_sliceG rfl hv okvs_nil)
    (fun v hv n hn => by
      simp only [List.mem_cons, List.not_mem_nil, or_false] at hv
      rcases hv with rfl; simp [V.names, C.names] at hn; simp [hn])
  exact this
end Go.Proofs.Ytnlneihalfekiaa
