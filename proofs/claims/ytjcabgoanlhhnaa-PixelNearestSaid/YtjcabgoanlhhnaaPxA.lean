/- PixelNearest: of what comes in. -/
import Derived.Test.YtjcabgoanlhhnaaPx9
namespace Go.Proofs.Ytjcabgoanlhhnaa
set_option linter.unusedSimpArgs false
set_option linter.unusedVariables false
open Go.RowKit EV
open EW (PlL PlT PlV PlVs)
theorem nearest_calls (W : World) (a1 a2 a3 a4 b1 b2 b3 b4 f1 f2 f3 f4 : Int) {b off len cap : Nat} {rows : List (List Value)} {v : Value} (hl : rows.length = len) (ft : ∀ s ∈ rows, Fit [.i .u32, .i .i64, .i .i64, .i .u32] s) (sr : Src W b off rows.flatten) (hv : v = .slice (some ⟨b, off, none⟩) len cap ∨ (len = 0 ∧ cap = 0 ∧ v = .slice none 0 0)) :
    Calls Try.prog 3 #[.agg #[.int .u32 a1, .int .i64 a2, .int .i64 a3, .int .u32 a4], .agg #[.int .u32 b1, .int .i64 b2, .int .i64 b3, .int .u32 b4], .agg #[.int .u32 f1, .int .i64 f2, .int .i64 f3, .int .u32 f4], v] W fun e w' => e = .returned (.bool true) ∧ Below W.heap.size W w' := by
  obtain ⟨l, h1, h2⟩ := px_of_rows ft
  rw [h2] at sr
  obtain rfl : l.length = len := by omega
  have := calls_rows (us := [.agg #[.int .u32 a1, .int .i64 a2, .int .i64 a3, .int .u32 a4], .agg #[.int .u32 b1, .int .i64 b2, .int .i64 b3, .int .u32 b4], .agg #[.int .u32 f1, .int .i64 f2, .int .i64 f3, .int .u32 f4], v]) (Ls := [pvs l]) (A := [(b, off)]) (w := W) (nearest_ct false l cap ⟨a1, a2, a3, a4⟩ ⟨b1, b2, b3, b4⟩ ⟨f1, f2, f3, f4⟩) rfl (by decide)
    (fun i L hi => by
      match i, hi with
      | 0, hi => simp only [List.getElem?_cons_zero, Option.some.injEq] at hi; subst hi; exact ⟨sr, pvs_one l⟩
      | i + 1, hi => simp at hi)
    (okvs_plain (.a (.cons (.cons (.cons (.cons .nil))))) rfl (okvs_plain (.a (.cons (.cons (.cons (.cons .nil))))) rfl (okvs_plain (.a (.cons (.cons (.cons (.cons .nil))))) rfl (okvs_slice rfl hv okvs_nil))))
    (fun v hv n hn => by
      simp only [List.mem_cons, List.not_mem_nil, or_false] at hv
      rcases hv with rfl | rfl | rfl | rfl <;> simp [V.names, C.names, List.flatMap_cons] at hn <;> simp [hn])
  exact this
end Go.Proofs.Ytjcabgoanlhhnaa
