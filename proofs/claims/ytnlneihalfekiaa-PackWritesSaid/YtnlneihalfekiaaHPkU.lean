/- mullionlaw05's operations that come in: with bounds of all numbers. -/
import Derived.Test.YtnlneihalfekiaaHPkQ
import Derived.Test.YtnlneihalfekiaaHPkS
namespace Go.Proofs.Ytnlneihalfekiaa
set_option linter.unusedSimpArgs false
set_option linter.unusedVariables false
open Go.RowKit Go.ChangeShapes Go.WideShapes EV
open SX (Wr Tv Qu Rm Sh Is conjP eqs_iff eqs_false)
open EW (PlL PlT PlV PlVs LfV Mm Bt Opn GV YT lpOf nums)
set_option maxRecDepth 20000
structure Ob.ok2 (w : World) (o : Ob) : Prop where
  ok : o.ok w
  n0 : -9223372036854775808 ≤ o.n
  n1 : o.n ≤ 9223372036854775807
  m0 : -9223372036854775808 ≤ o.m
  m1 : o.m ≤ 9223372036854775807
theorem op_of_trod2 {H : Type} {enc : TypeId × Value → H} {W : World} {m : Nat} {cs : List Value} {x : DataW H × List MemPlace} (h : DataW.trod enc Try.prog W 0 (fun _ => true) true m 32 cs = some x) : ∃ o : Ob, cs = o.vals ∧ o.ok2 W := by
  obtain ⟨hl, hf⟩ := trod_fields Try.underlying32 h
  have hl7 : cs.length = 7 := hl.trans (by kernel_rfl)
  match cs, hl7 with
  | [c0, c1, c2, c3, c4, c5, c6], _ =>
    obtain ⟨m0, y0, g0⟩ := hf ⟨"Kind", 3, 0, false, "", "", 0⟩ (by simp)
    obtain ⟨m1, y1, g1⟩ := hf ⟨"U", 30, 1, false, "", "", 8⟩ (by simp)
    obtain ⟨m2, y2, g2⟩ := hf ⟨"I", 2, 2, false, "", "", 16⟩ (by simp)
    obtain ⟨m3, y3, g3⟩ := hf ⟨"N", 3, 3, false, "", "", 24⟩ (by simp)
    obtain ⟨m4, y4, g4⟩ := hf ⟨"Most", 3, 4, false, "", "", 32⟩ (by simp)
    obtain ⟨m5, y5, g5⟩ := hf ⟨"Is", 4, 5, false, "", "", 40⟩ (by simp)
    obtain ⟨m6, y6, g6⟩ := hf ⟨"B", 27, 6, false, "", "", 48⟩ (by simp)
    have k3 : Try.prog.cellsOf 3 = 1 := by kernel_rfl
    have k30 : Try.prog.cellsOf 30 = 1 := by kernel_rfl
    have k2 : Try.prog.cellsOf 2 = 1 := by kernel_rfl
    have k4 : Try.prog.cellsOf 4 = 1 := by kernel_rfl
    have k27 : Try.prog.cellsOf 27 = 1 := by kernel_rfl
    simp only [k3, List.drop_succ_cons, List.drop_zero, List.take_succ_cons, List.take_zero] at g0 g3 g4
    simp only [k30, List.drop_succ_cons, List.drop_zero, List.take_succ_cons, List.take_zero] at g1
    simp only [k2, List.drop_succ_cons, List.drop_zero, List.take_succ_cons, List.take_zero] at g2
    simp only [k4, List.drop_succ_cons, List.drop_zero, List.take_succ_cons, List.take_zero] at g5
    simp only [k27, List.drop_succ_cons, List.drop_zero, List.take_succ_cons, List.take_zero] at g6
    obtain ⟨n0, rfl, _, _⟩ := trod_int Try.underlying3 g0
    obtain ⟨n1, rfl, a1, b1⟩ := trod_int Try.underlying30 g1
    obtain ⟨n2, rfl, a2, b2⟩ := trod_int Try.underlying2 g2
    obtain ⟨n3, rfl, a3, b3⟩ := trod_int Try.underlying3 g3
    obtain ⟨n4, rfl, a4, b4⟩ := trod_int Try.underlying3 g4
    obtain ⟨f, rfl⟩ := trod_bool Try.underlying4 g5
    obtain ⟨b, off, len, room, rows, q1, q2, q3, q4⟩ := open_sliceQ (Q := Fit [.i .u8]) Try.underlying27 (z := 1) (by kernel_rfl) (by decide) (fun m cs x h => flat_fit (ks := [.i .u8]) 1 5 (by simp [flatK, Try.underlying5]) _ _ _ h) g6
    obtain ⟨bs, r1, r2, r3⟩ := bytes_of_rows (fun s hs => (q2 s hs).2)
    obtain rfl : bs.length = len := by omega
    rw [r2] at q3
    have hu0 : (0 : Int) ≤ n1 := a1
    have hu1 : n1 ≤ 18446744073709551615 := b1
    have hv : ∃ a cap, c6 = .slice a bs.length cap := by
      rcases q4 with ⟨cap, e, _⟩ | ⟨e, a, e2⟩
      · exact ⟨_, cap, e⟩
      · exact ⟨a, 0, by rw [e2, e]⟩
    obtain ⟨a, cap, rfl⟩ := hv
    refine ⟨⟨n0, n1.toNat, n2, n3, n4, f, a, cap, b, off, room, bs⟩, ?_, ⟨⟨by dsimp only; omega, a2, b2, r3, q4, q3⟩, a3, b3, a4, b4⟩⟩
    show [Value.int .i64 n0, .int .u64 n1, .int .i64 n2, .int .i64 n3, .int .i64 n4, .bool f, .slice a bs.length cap] = [.int .i64 n0, .int .u64 (n1.toNat : Int), .int .i64 n2, .int .i64 n3, .int .i64 n4, .bool f, .slice a bs.length cap]
    rw [Int.toNat_of_nonneg hu0]
theorem ops_of_rows2 {W : World} : ∀ {rows : List (List Value)}, (∀ s ∈ rows, s.length = 7 ∧ ∃ o : Ob, s = o.vals ∧ o.ok2 W) → ∃ l : List Ob, l.length = rows.length ∧ rows.flatten = obs l ∧ ∀ o ∈ l, o.ok2 W
  | [], _ => ⟨[], rfl, rfl, fun o ho => by cases ho⟩
  | s :: rows, h => by
    obtain ⟨l, h1, h2, h3⟩ := ops_of_rows2 (rows := rows) (fun s hs => h s (List.mem_cons_of_mem _ hs))
    obtain ⟨_, o, rfl, ho⟩ := h s List.mem_cons_self
    refine ⟨o :: l, by simp [h1], by rw [List.flatten_cons, h2]; rfl, fun x hx => ?_⟩
    rcases List.mem_cons.1 hx with rfl | hx
    · exact ho
    · exact h3 x hx
theorem wsmall_okI (n m : Int) (bs : List Int) (h0 : 0 ≤ n) (h : n ≤ m) (hm : m ≤ 9223372036854775807) (hl : bs.length ≤ 500000) : CT Try.prog 14 [.c (.p 0 0), .c (.v (.int .i64 n)), .c (.v (.int .i64 m))] (upd EW.emp (WW bs false)) 2 3 (.t []) (upd (upd EW.emp (WW bs false)) (Wmore (bs ++ formN n.toNat))) := by
  obtain ⟨k, rfl⟩ := Int.eq_ofNat_of_zero_le h0
  exact wsmall_ok k m bs h hm hl
theorem vsmall_okI (n m : Int) (bs : List Int) (h0 : 0 ≤ n) (h : n ≤ m) (hm : m ≤ 9223372036854775807) (hl : bs.length ≤ 400000) : CT Try.prog 15 [.c (.p 0 0), .c (.v (.int .i64 n)), .c (.v (.int .i64 m))] (upd EW.emp (WV bs false)) 2 3 (.t []) (upd (upd EW.emp (WV bs false)) (Vmore (bs ++ formN n.toNat))) := by
  obtain ⟨k, rfl⟩ := Int.eq_ofNat_of_zero_le h0
  exact vsmall_ok k m bs h hm hl
theorem vtext_okA (bs src : List Int) (o : Bool) (m : Int) (h : (src.length : Int) ≤ m) (hm : m ≤ 9223372036854775807) (hl : bs.length ≤ 400000) (hs : src.length ≤ 90000) : CT Try.prog 19 [.c (.p 0 0), .c (.g 2 0 src.length src.length 1), .c (.v (.int .i64 m))] (upd EW.emp (WVs bs false o src)) 3 4 (.t []) (upd (upd EW.emp (WVs bs false o src)) [(.b 0, .b (.m true (vcs 3 (bs ++ formN src.length ++ src).length false))), (.l 3, .l true), (.b 3, .b (.w true (nums .u8 (bs ++ formN src.length ++ src))))]) := by
  rw [List.append_assoc]
  exact vtext_ok bs src o m h hm hl hs
theorem by_app {a b : List Int} (ha : By a) (hb : By b) : By (a ++ b) := fun x hx => by
  rcases List.mem_append.1 hx with hx | hx
  · exact ha x hx
  · exact hb x hx
end Go.Proofs.Ytnlneihalfekiaa
