/- ViewMoves: what comes in. -/
import Derived.Test.YthclhmdgfekaeaaHVm2
import Derived.Test.YthclhmdgfekaeaaHVt4
namespace Go.Proofs.Ythclhmdgfekaeaa
set_option linter.unusedSimpArgs false
set_option linter.unusedVariables false
open Go.RowKit EV
open EW (PlL PlT PlV PlVs nums)
set_option maxRecDepth 20000
theorem same_app (cc dd B : List Vx) (h : cc ++ dd = B) (hB : B.length ≤ 1000) : CT Try.prog 25 [.c (.g 0 0 (cc.length + dd.length) (cc.length + dd.length) 4), .c (.g 1 0 B.length B.length 4)] (upd EW.emp [(.l 0, .l true), (.b 0, .b (.w true (vvs cc ++ List.take (dd.length * 4) (List.drop 0 (vvs dd))))), (.l 1, .l true), (.b 1, .b (.w true (vvs B)))]) 2 2 (.c (.v (.bool true))) (upd (upd EW.emp [(.l 0, .l true), (.b 0, .b (.w true (vvs cc ++ List.take (dd.length * 4) (List.drop 0 (vvs dd))))), (.l 1, .l true), (.b 1, .b (.w true (vvs B)))]) []) := by
  subst h
  have e : vvs cc ++ List.take (dd.length * 4) (List.drop 0 (vvs dd)) = vvs (cc ++ dd) := by
    rw [List.drop_zero, ← vvs_length, List.take_length, vvs_append]
  rw [e, ← List.length_append]
  exact same_eq true true (cc ++ dd) hB
theorem take_at {l : List T3} {k i : Nat} (hi : i < k) : (l.take k).getD i T3.zero = l.getD i T3.zero := by
  rw [List.getD_eq_getElem?_getD, List.getD_eq_getElem?_getD, List.getElem?_take, if_pos hi]
theorem drop_at {l : List T3} {k i : Nat} : (l.drop k).getD i T3.zero = l.getD (k + i) T3.zero := by
  rw [List.getD_eq_getElem?_getD, List.getD_eq_getElem?_getD, List.getElem?_drop]
theorem moved_map (l : List T3) (x y z : Int) : Moved l (l.map (mvV x y z)) x y z := fun i hi => by
  rw [mv_at hi]; exact ⟨rfl, rfl, rfl, rfl⟩
theorem vmv_any (l : List T3) (x y z : Int) (hx : Sm31 x) (hy : Sm31 y) (hz : Sm31 z) (hmx : l.length ≤ maxLen) : VM l x y z := by
  rcases Nat.lt_or_ge 100 l.length with h | h
  · exact vmv_far l x y z h hmx
  by_cases hall : ∀ i, i < l.length → (l.getD i T3.zero).sm
  · obtain ⟨k, hk⟩ : ∃ k, l.length / 2 = k := ⟨_, rfl⟩
    have h0 : Sm31 0 := ⟨by omega, by omega⟩
    have ek : (l.take k).length = k := by rw [List.length_take]; omega
    have ed : (l.drop k).length = l.length - k := List.length_drop
    have t3 := through_mv (l.take k) (by omega) (fun i hi => by rw [take_at (by omega)]; exact hall i (by omega)) hx hy hz
    have t4 := through_mv (l.drop k) (by omega) (fun i hi => by rw [drop_at]; exact hall (k + i) (by omega)) hx hy hz
    rw [TH, ek] at t3
    rw [TH, ed] at t4
    exact vmv_walk l x y z (l.map (mvV 0 0 0)) (l.map (mvV x y z)) ((l.take k).map (mvV x y z)) ((l.drop k).map (mvV x y z)) k h hall hx hy hz hk (List.length_map ..) (List.length_map ..) (by rw [List.length_map, ek]) (by rw [List.length_map, ed]) (moved_map l 0 0 0) (moved_map l x y z) (through_mv l h hall h0 h0 h0) (through_mv l h hall hx hy hz) t3 t4
      (same_app _ _ _ (by rw [← List.map_append, List.take_append_drop]) (by rw [List.length_map]; omega))
  · obtain ⟨t, t1, t2, t3⟩ := first_no (p := fun i => (l.getD i T3.zero).sm) hall
    exact vmv_no l x y z t h t1 t2 t3
theorem vmv_row (W : World) (x y z : Int) {b off len room : Nat} {rows : List (List Value)} {v : Value} (hl : rows.length = len) (ft : ∀ s ∈ rows, Fit [.i .i64, .i .i64, .i .i64] s) (sr : SrcG W b off room rows.flatten) (hv : InG v b off len room 3) (hx0 : -2147483648 ≤ x) (hx1 : x ≤ 2147483647) (hy0 : -2147483648 ≤ y) (hy1 : y ≤ 2147483647) (hz0 : -2147483648 ≤ z) (hz1 : z ≤ 2147483647) :
    Calls Try.prog 10 #[v, .agg #[.int .i32 x, .int .i32 y, .int .i32 z]] W fun e w' => e = .returned (.bool true) ∧ Below W.heap.size W w' := by
  obtain ⟨l, h1, h2, _⟩ := t3_of_rows ft
  rw [h2] at sr
  obtain rfl : l.length = len := by omega
  have := calls_rowsG (us := [v, .agg #[.int .i32 x, .int .i32 y, .int .i32 z]]) (Ls := [tvs l]) (A := [(b, off, room)]) (w := W) (vmv_any l x y z ⟨hx0, hx1⟩ ⟨hy0, hy1⟩ ⟨hz0, hz1⟩ (inG_len hv)) rfl (by decide)
    (fun i L hi => by
      match i, hi with
      | 0, hi => simp only [List.getElem?_cons_zero, Option.some.injEq] at hi; subst hi; exact ⟨sr, tvs_one l⟩
      | i + 1, hi => simp at hi)
    (okvs_sliceG rfl hv (okvs_plain (.a (.cons (.cons (.cons .nil)))) rfl okvs_nil))
    (fun v hv n hn => by
      simp only [List.mem_cons, List.not_mem_nil, or_false] at hv
      rcases hv with rfl | rfl <;> simp [V.names, C.names, List.flatMap_cons] at hn <;> simp [hn])
  exact this
end Go.Proofs.Ythclhmdgfekaeaa
