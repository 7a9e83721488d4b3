/- ImageOne: whatever comes in. -/
import Derived.Test.YtflgamohploalaaHImX
namespace Go.Proofs.Ytflgamohploalaa
open Go.RowKit Go.ChangeShapes Go.WideShapes EV
set_option maxRecDepth 20000
theorem one_any (xs : List Px) (f : Fg) (w h : Int) : OneP xs f w h := by
  rcases Nat.lt_or_ge 5000 xs.length with hx | hx
  · exact one_far xs f w h hx
  by_cases hi : imOk w h xs ∧ fgOk w h f
  · exact one_y xs f w h hx hi.1 hi.2
  · exact one_no xs f w h hx hi
theorem one_row (W : World) (fx fy fz fo ft fc : Int) {w h : Int} {u : Value} {b off room : Nat} {xs : List Px}
    (_ : -9223372036854775808 ≤ w ∧ w ≤ 9223372036854775807) (_ : -9223372036854775808 ≤ h ∧ h ≤ 9223372036854775807) (_ : ∀ p ∈ xs, p.wf) (s0 : SrcG W b off room (pvs xs)) (i0 : InA u b off xs.length room 4) :
    Calls Try.prog 6 #[.agg #[.int .i64 w, .int .i64 h, u], .agg #[.int .i64 fx, .int .i64 fy, .int .u32 fz, .int .i64 fo, .int .i64 ft, .int .u32 fc]] W fun e w' => e = .returned (.bool true) ∧ Below W.heap.size W w' := by
  have hT := one_any xs ⟨fx, fy, ⟨fz, fo, ft, fc⟩⟩ w h
  have := calls_rowsG (us := [.agg #[.int .i64 w, .int .i64 h, u], .agg #[.int .i64 fx, .int .i64 fy, .int .u32 fz, .int .i64 fo, .int .i64 ft, .int .u32 fc]]) (Ls := [pvs xs]) (A := [(b, off, room)]) (w := W) hT rfl (by decide)
    (fun i L hi => by
      match i, hi with
      | 0, hi => simp only [List.getElem?_cons_zero, Option.some.injEq] at hi; subst hi; exact ⟨s0, pvs_one xs⟩
      | i + 1, hi => simp at hi)
    (okvs_im rfl i0 (okvs_plain (.a (.cons (.cons (.cons (.cons (.cons (.cons .nil))))))) rfl okvs_nil))
    (fun v hv n hn => by
      simp only [List.mem_cons, List.not_mem_nil, or_false] at hv
      rcases hv with rfl | rfl <;> simp [V.names, C.names, List.flatMap_cons] at hn <;> simp [hn])
  exact this
end Go.Proofs.Ytflgamohploalaa
