/- ViewCorners: the law. -/
import Derived.Test.YthclhmdgfekaeaaHVt7
namespace Go.Proofs.Ythclhmdgfekaeaa
set_option linter.unusedSimpArgs false
set_option linter.unusedVariables false
open Go.RowKit EV
open SX (Wr Tv Qu Rm Sh Is conjP eqs_iff eqs_false)
open EW (PlL PlT PlV PlVs LfV Mm Bt Opn GV YT lpOf nums)
set_option maxRecDepth 20000
theorem vcl_far (o : Bool) (l : List Vx) (x y z q a b c W H : Int) (hl : 100 < l.length) (hmx : l.length ≤ maxLen) : CT Try.prog 7 [.a (Q4 x y z q), .c (.g 0 0 l.length l.length 4), .a (Q3 a b c), .c (.v (.int .i64 W)), .c (.v (.int .i64 H))] (upd EW.emp (WV4 o l)) 1 1 (.c (.v (.bool true))) (upd (upd EW.emp (WV4 o l)) []) := by
  refine EW.ctEnter [10, 20, 30, 40, 50, 60, 70, 80, 90, 100, 110, 120, 130, 140, 150, 160, 170, 180, 190, 200, 210, 220, 230, 240, 250, 260, 270, 280, 290, 300, 310, 320, 330, 340, 350, 360, 370, 380, 390, 400, 410, 420, 430, 440, 450, 460, 470, 480, 490, 500, 510, 520, 530, 540, 550, 560, 570, 580, 590, 600] Try.func7 rfl Try.ntmps7 rfl (by (((repeat (first | exact EW.NL.emp | (refine EW.NL.upd ?_ rfl) | refine EW.NL.drp ?_ | refine EW.NL.hp ?_ | refine EW.NL.argS ?_ | refine EW.NL.mix ?_)); (first | done | fail)))) ?_; intro w0 tch ini R hR
  all_goals try (refine EW.nm ?_)
  all_goals try ((first | refine EW.eRegL (id := 0) ?_ | refine EW.eReg (id := 0) ?_); refine EW.eBox ?_; refine EW.eBox ?_; refine EW.eAssign ?_; refine EW.eEnd ?_; (try refine EW.nm ?_))
  all_goals try ((first | refine EW.eRegL (id := 1) ?_ | refine EW.eReg (id := 1) ?_); refine EW.eMove ?_; (first | refine EW.eLenS ?_ | refine EW.eLenG ?_ | refine EW.eLenN ?_); refine EW.eGtr ?_; refine EW.eEnd ?_; (try refine EW.nm ?_))
  all_goals try (first | refine EW.eYes (x := Operand.tmp 28) ?_ | refine EW.eNo (x := Operand.tmp 28) ?_ | (refine EW.eCond (x := Operand.tmp 28) ?_ ?_ <;> (intro hb hb'; (try dsimp only at hb'); (try (exfalso; first | omega | with_reducible exact absurd rfl hb')))))
  all_goals try (refine EW.nm ?_)
  all_goals try ((first | refine EW.eRegL (id := 2) ?_ | refine EW.eReg (id := 2) ?_); refine EW.eAssign ?_; refine EW.eEnd ?_; (try refine EW.nm ?_))
  all_goals try (with_reducible refine EW.parkK ?_)
  all_goals try ((first | refine EW.eRegL (id := 3) ?_ | refine EW.eReg (id := 3) ?_); refine EW.eLoadA (k := 4) ?_; refine EW.eMove ?_; refine EW.eMove ?_; fail "no contract of mullion/view.Corner"; refine EW.eMove ?_; (first | refine EW.eExtC ?_ | refine EW.eExtA ?_); (first | refine EW.eExtC ?_ | refine EW.eExtA ?_); refine EW.eAlloc ?_; (first | refine EW.eStoreW (k := 3) ?_ | refine EW.eStore (k := 3) ?_); refine EW.eAssign ?_; refine EW.eEnd ?_; (try refine EW.nm ?_))
  all_goals try ((first | refine EW.eRegL (id := 4) ?_ | refine EW.eReg (id := 4) ?_); refine EW.eLoadA (k := 4) ?_; refine EW.eMove ?_; refine EW.eMove ?_; fail "no contract of mullion/mullionref10.Corner"; refine EW.eMove ?_; (first | refine EW.eExtC ?_ | refine EW.eExtA ?_); (first | refine EW.eExtC ?_ | refine EW.eExtA ?_); refine EW.eAlloc ?_; (first | refine EW.eStoreW (k := 3) ?_ | refine EW.eStore (k := 3) ?_); refine EW.eAssign ?_; refine EW.eEnd ?_; (try refine EW.nm ?_))
  all_goals try ((first | refine EW.eRegL (id := 5) ?_ | refine EW.eReg (id := 5) ?_); refine EW.eMove ?_; refine EW.eMove ?_; refine EW.eMove ?_; fail "no contract of mullion/view.Corners"; refine EW.eMove ?_; (first | refine EW.eExtC ?_ | refine EW.eExtA ?_); (first | refine EW.eExtC ?_ | refine EW.eExtA ?_); refine EW.eAssign ?_; refine EW.eAssign ?_; refine EW.eEnd ?_; (try refine EW.nm ?_))
  all_goals try ((first | refine EW.eRegL (id := 6) ?_ | refine EW.eReg (id := 6) ?_); refine EW.eMove ?_; refine EW.eMove ?_; refine EW.eMove ?_; fail "no contract of mullion/mullionref10.Corners"; refine EW.eMove ?_; (first | refine EW.eExtC ?_ | refine EW.eExtA ?_); (first | refine EW.eExtC ?_ | refine EW.eExtA ?_); refine EW.eAssign ?_; refine EW.eAssign ?_; refine EW.eEnd ?_; (try refine EW.nm ?_))
  all_goals try ((first | refine EW.eRegL (id := 7) ?_ | refine EW.eReg (id := 7) ?_); refine EW.eLoadA (k := 3) ?_; refine EW.eMove ?_; refine EW.eMove ?_; fail "no contract of mullion/view.Pixel"; refine EW.eMove ?_; (first | refine EW.eExtC ?_ | refine EW.eExtA ?_); (first | refine EW.eExtC ?_ | refine EW.eExtA ?_); (first | refine EW.eExtC ?_ | refine EW.eExtA ?_); refine EW.eAssign ?_; refine EW.eAssign ?_; refine EW.eAssign ?_; refine EW.eEnd ?_; (try refine EW.nm ?_))
  all_goals try ((first | refine EW.eRegL (id := 8) ?_ | refine EW.eReg (id := 8) ?_); refine EW.eLoadA (k := 3) ?_; refine EW.eMove ?_; refine EW.eMove ?_; fail "no contract of mullion/mullionref10.Pixel"; refine EW.eMove ?_; (first | refine EW.eExtC ?_ | refine EW.eExtA ?_); (first | refine EW.eExtC ?_ | refine EW.eExtA ?_); (first | refine EW.eExtC ?_ | refine EW.eExtA ?_); refine EW.eAssign ?_; refine EW.eAssign ?_; refine EW.eAssign ?_; refine EW.eEnd ?_; (try refine EW.nm ?_))
  all_goals try ((first | refine EW.eRegL (id := 9) ?_ | refine EW.eReg (id := 9) ?_); refine EW.eMove ?_; refine EW.eMove ?_; fail "no contract of mullion/view.Check"; refine EW.eAssign ?_; refine EW.eEnd ?_; (try refine EW.nm ?_))
  all_goals try ((first | refine EW.eRegL (id := 10) ?_ | refine EW.eReg (id := 10) ?_); refine EW.eLoadA (k := 3) ?_; refine EW.eLoadA (k := 3) ?_; refine EW.eEqlA ?_; refine EW.eMove ?_)
  all_goals try (refine EW.eGuard (j := 3) (o := ⟨some 80, _, _, _, _, _⟩) ?_ ?_ <;> (intro hb hb'; (try dsimp only at hb'); (try (exfalso; first | omega | with_reducible exact absurd rfl hb'))))
  all_goals try ((first | refine EW.eSkipT (j := 3) ?_ | refine EW.eSkipU (j := 3) ?_ | refine EW.eMove ?_); (first | refine EW.eSkipT (j := 3) ?_ | refine EW.eSkipU (j := 3) ?_ | refine EW.eMove ?_); (first | refine EW.eSkipT (j := 3) ?_ | refine EW.eSkipU (j := 3) ?_ | refine EW.eEql ?_); (first | refine EW.ePickT ?_ | refine EW.ePickF ?_); refine EW.eMove ?_)
  all_goals try (refine EW.eGuard (j := 8) (o := ⟨some 85, _, _, _, _, _⟩) ?_ ?_ <;> (intro hb hb'; (try dsimp only at hb'); (try (exfalso; first | omega | with_reducible exact absurd rfl hb'))))
  all_goals try ((first | refine EW.eSkipT (j := 8) ?_ | refine EW.eSkipU (j := 8) ?_ | refine EW.eMove ?_); (first | refine EW.eSkipT (j := 8) ?_ | refine EW.eSkipU (j := 8) ?_ | refine EW.eMove ?_); (first | refine EW.eSkipT (j := 8) ?_ | refine EW.eSkipU (j := 8) ?_ | fail "no contract of mullion/mullionref10.Same"); (first | refine EW.ePickT ?_ | refine EW.ePickF ?_); refine EW.eMove ?_)
  all_goals try (refine EW.eGuard (j := 13) (o := ⟨some 90, _, _, _, _, _⟩) ?_ ?_ <;> (intro hb hb'; (try dsimp only at hb'); (try (exfalso; first | omega | with_reducible exact absurd rfl hb'))))
  all_goals try ((first | refine EW.eSkipT (j := 13) ?_ | refine EW.eSkipU (j := 13) ?_ | refine EW.eMove ?_); (first | refine EW.eSkipT (j := 13) ?_ | refine EW.eSkipU (j := 13) ?_ | refine EW.eMove ?_); (first | refine EW.eSkipT (j := 13) ?_ | refine EW.eSkipU (j := 13) ?_ | refine EW.eEql ?_); (first | refine EW.ePickT ?_ | refine EW.ePickF ?_); refine EW.eMove ?_)
  all_goals try (refine EW.eGuard (j := 18) (o := ⟨some 95, _, _, _, _, _⟩) ?_ ?_ <;> (intro hb hb'; (try dsimp only at hb'); (try (exfalso; first | omega | with_reducible exact absurd rfl hb'))))
  all_goals try ((first | refine EW.eSkipT (j := 18) ?_ | refine EW.eSkipU (j := 18) ?_ | refine EW.eMove ?_); (first | refine EW.eSkipT (j := 18) ?_ | refine EW.eSkipU (j := 18) ?_ | refine EW.eMove ?_); (first | refine EW.eSkipT (j := 18) ?_ | refine EW.eSkipU (j := 18) ?_ | refine EW.eEql ?_); (first | refine EW.ePickT ?_ | refine EW.ePickF ?_); refine EW.eMove ?_)
  all_goals try (refine EW.eGuard (j := 23) (o := ⟨some 100, _, _, _, _, _⟩) ?_ ?_ <;> (intro hb hb'; (try dsimp only at hb'); (try (exfalso; first | omega | with_reducible exact absurd rfl hb'))))
  all_goals try ((first | refine EW.eSkipT (j := 23) ?_ | refine EW.eSkipU (j := 23) ?_ | refine EW.eMove ?_); (first | refine EW.eSkipT (j := 23) ?_ | refine EW.eSkipU (j := 23) ?_ | refine EW.eMove ?_); (first | refine EW.eSkipT (j := 23) ?_ | refine EW.eSkipU (j := 23) ?_ | refine EW.eEql ?_); (first | refine EW.ePickT ?_ | refine EW.ePickF ?_); refine EW.eMove ?_)
  all_goals try (refine EW.eGuard (j := 28) (o := ⟨some 105, _, _, _, _, _⟩) ?_ ?_ <;> (intro hb hb'; (try dsimp only at hb'); (try (exfalso; first | omega | with_reducible exact absurd rfl hb'))))
  all_goals try ((first | refine EW.eSkipT (j := 28) ?_ | refine EW.eSkipU (j := 28) ?_ | refine EW.eMove ?_); (first | refine EW.eSkipT (j := 28) ?_ | refine EW.eSkipU (j := 28) ?_ | refine EW.eMove ?_); (first | refine EW.eSkipT (j := 28) ?_ | refine EW.eSkipU (j := 28) ?_ | refine EW.eEqlB ?_); (first | refine EW.ePickT ?_ | refine EW.ePickF ?_); refine EW.eMove ?_)
  all_goals try (refine EW.eGuard (j := 33) (o := ⟨some 110, _, _, _, _, _⟩) ?_ ?_ <;> (intro hb hb'; (try dsimp only at hb'); (try (exfalso; first | omega | with_reducible exact absurd rfl hb'))))
  all_goals try ((first | refine EW.eSkipT (j := 33) ?_ | refine EW.eSkipU (j := 33) ?_ | refine EW.eMove ?_); (first | refine EW.eSkipT (j := 33) ?_ | refine EW.eSkipU (j := 33) ?_ | refine EW.eEql ?_); (first | refine EW.eSkipT (j := 33) ?_ | refine EW.eSkipU (j := 33) ?_ | refine EW.eMove ?_); (first | refine EW.eSkipT (j := 33) ?_ | refine EW.eSkipU (j := 33) ?_ | refine EW.eMove ?_); (first | refine EW.eSkipT (j := 33) ?_ | refine EW.eSkipU (j := 33) ?_ | fail "no contract of mullion/mullionref10.Size"); (first | refine EW.eSkipT (j := 33) ?_ | refine EW.eSkipU (j := 33) ?_ | refine EW.eEqlB ?_); (first | refine EW.ePickT ?_ | refine EW.ePickF ?_); refine EW.eMove ?_)
  all_goals try (refine EW.eGuard (j := 41) (o := ⟨some 118, _, _, _, _, _⟩) ?_ ?_ <;> (intro hb hb'; (try dsimp only at hb'); (try (exfalso; first | omega | with_reducible exact absurd rfl hb'))))
  all_goals try ((first | refine EW.eSkipT (j := 41) ?_ | refine EW.eSkipU (j := 41) ?_ | refine EW.eMove ?_); (first | refine EW.eSkipT (j := 41) ?_ | refine EW.eSkipU (j := 41) ?_ | refine EW.eEql ?_); (first | refine EW.eSkipT (j := 41) ?_ | refine EW.eSkipU (j := 41) ?_ | refine EW.eMove ?_))
  all_goals try (refine EW.eGuard (j := 44) (o := ⟨some 121, _, _, _, _, _⟩) ?_ ?_ <;> (intro hb hb'; (try dsimp only at hb'); (try (exfalso; first | omega | with_reducible exact absurd rfl hb'))))
  all_goals try ((first | refine EW.eSkipF (j := 44) ?_ | refine EW.eSkipU (j := 44) ?_ | refine EW.eMove ?_); (first | refine EW.eSkipF (j := 44) ?_ | refine EW.eSkipU (j := 44) ?_ | refine EW.eEql ?_); (first | refine EW.eSkipT (j := 41) ?_ | refine EW.eSkipU (j := 41) ?_ | refine EW.ePickT ?_ | refine EW.ePickF ?_); (first | refine EW.ePickT ?_ | refine EW.ePickF ?_); refine EW.eAssign ?_; refine EW.eEnd ?_; (try refine EW.nm ?_))
  all_goals try (with_reducible refine EW.parkK ?_)
  all_goals try (refine EW.Park.mk ?_)
  all_goals (refine EW.eLeaveN [] hR (by first | exact .inl rfl | exact .inr rfl) (by rfl) (by rfl) ?_ ?_ rfl rfl (by (((repeat (first | exact EW.NL.emp | (refine EW.NL.upd ?_ rfl) | refine EW.NL.drp ?_ | refine EW.NL.hp ?_ | refine EW.NL.argS ?_ | refine EW.NL.mix ?_)); (first | done | fail)))) rfl rfl; rotate_left 1; (· ((repeat (first | exact EW.atE.nil | refine EW.atE.lt rfl ?_ | refine EW.atE.lf ?_ | refine EW.atE.b rfl EW.SameB.refl ?_ | (refine EW.atE.b rfl ?_ ?_; rotate_left 1))))))
  all_goals rfl
section
variable (o : Bool) (l : List Vx) (x y z q a b c W H X Y Z e px py e3 : Int) (pb b3 : Bool) (hl : l.length ≤ 100)
  (c1 : ∀ w : World, Calls Try.prog 13 #[V4 x y z q, .int .i64 W, .int .i64 H] w fun r w' => r = .returned (.tuple #[A3 X Y Z, .int .i64 e]) ∧ Below w.heap.size w w')
  (c2 : ∀ w : World, Calls Try.prog 16 #[V4 x y z q, .int .i64 W, .int .i64 H] w fun r w' => r = .returned (.tuple #[A3 X Y Z, .int .i64 e]) ∧ Below w.heap.size w w')
  (p1 : ∀ w : World, Calls Try.prog 15 #[A3 a b c, .int .i64 W, .int .i64 H] w fun r w' => r = .returned (.tuple #[.int .i64 px, .int .i64 py, .bool pb]) ∧ Below w.heap.size w w')
  (p2 : ∀ w : World, Calls Try.prog 19 #[A3 a b c, .int .i64 W, .int .i64 H] w fun r w' => r = .returned (.tuple #[.int .i64 px, .int .i64 py, .bool pb]) ∧ Below w.heap.size w w')
  (s1 : ∀ w : World, Calls Try.prog 20 #[.int .i64 W, .int .i64 H] w fun r w' => r = .returned (.int .i64 e3) ∧ Below w.heap.size w w')
  (s2 : ∀ w : World, Calls Try.prog 22 #[.int .i64 W, .int .i64 H] w fun r w' => r = .returned (.bool b3) ∧ Below w.heap.size w w')
  (s3 : e3 = 0 ∧ b3 = true ∨ e3 = 100 ∧ b3 = false)
include hl c1 c2 p1 p2 s1 s2 s3
theorem vcl_ok (L : List T3) (hL : L.length ≤ 100)
    (hA : CT Try.prog 17 [.c (.g 0 0 l.length l.length 4), .c (.v (.int .i64 W)), .c (.v (.int .i64 H))] (upd EW.emp (WV4 o l)) 1 2 (.t [.inl (.g 1 0 L.length L.length 3), .inl (.v (.int .i64 0))]) (upd (upd EW.emp (WV4 o l)) [(.l 1, .l true), (.b 1, .b (.w true (tvs L)))]))
    (hB : CT Try.prog 18 [.c (.g 0 0 l.length l.length 4), .c (.v (.int .i64 W)), .c (.v (.int .i64 H))] (upd EW.emp (WV4 o l)) 1 2 (.t [.inl (.g 1 0 L.length L.length 3), .inl (.v (.int .i64 0))]) (upd (upd EW.emp (WV4 o l)) [(.l 1, .l true), (.b 1, .b (.w true (tvs L)))])) : CT Try.prog 7 [.a (Q4 x y z q), .c (.g 0 0 l.length l.length 4), .a (Q3 a b c), .c (.v (.int .i64 W)), .c (.v (.int .i64 H))] (upd EW.emp (WV4 o l)) 1 1 (.c (.v (.bool true))) (upd (upd EW.emp (WV4 o l)) []) := by
  have hS := csame_eq true true L (by omega)
  cases pb
  all_goals
    rcases s3 with ⟨rfl, rfl⟩ | ⟨rfl, rfl⟩
    all_goals
      refine EW.ctEnter [10, 20, 30, 40, 50, 60, 70, 80, 90, 100, 110, 120, 130, 140, 150, 160, 170, 180, 190, 200, 210, 220, 230, 240, 250, 260, 270, 280, 290, 300, 310, 320, 330, 340, 350, 360, 370, 380, 390, 400, 410, 420, 430, 440, 450, 460, 470, 480, 490, 500, 510, 520, 530, 540, 550, 560, 570, 580, 590, 600] Try.func7 rfl Try.ntmps7 rfl (by (((repeat (first | exact EW.NL.emp | (refine EW.NL.upd ?_ rfl) | refine EW.NL.drp ?_ | refine EW.NL.hp ?_ | refine EW.NL.argS ?_ | refine EW.NL.mix ?_)); (first | done | fail)))) ?_; intro w0 tch ini R hR
      all_goals try (refine EW.nm ?_)
      all_goals try ((first | refine EW.eRegL (id := 0) ?_ | refine EW.eReg (id := 0) ?_); refine EW.eBox ?_; refine EW.eBox ?_; refine EW.eAssign ?_; refine EW.eEnd ?_; (try refine EW.nm ?_))
      all_goals try ((first | refine EW.eRegL (id := 1) ?_ | refine EW.eReg (id := 1) ?_); refine EW.eMove ?_; (first | refine EW.eLenS ?_ | refine EW.eLenG ?_ | refine EW.eLenN ?_); refine EW.eGtr ?_; refine EW.eEnd ?_; (try refine EW.nm ?_))
      all_goals try (first | refine EW.eYes (x := Operand.tmp 28) ?_ | refine EW.eNo (x := Operand.tmp 28) ?_ | (refine EW.eCond (x := Operand.tmp 28) ?_ ?_ <;> (intro hb hb'; (try dsimp only at hb'); (try (exfalso; first | omega | with_reducible exact absurd rfl hb')))))
      all_goals try (refine EW.nm ?_)
      all_goals try ((first | refine EW.eRegL (id := 2) ?_ | refine EW.eReg (id := 2) ?_); refine EW.eAssign ?_; refine EW.eEnd ?_; (try refine EW.nm ?_))
      all_goals try (with_reducible refine EW.parkK ?_)
      all_goals try ((first | refine EW.eRegL (id := 3) ?_ | refine EW.eReg (id := 3) ?_); refine EW.eLoadA (k := 4) ?_; refine EW.eMove ?_; refine EW.eMove ?_; refine EW.eCall Try.call13 (fun w => c1 w) ?_; refine EW.eMove ?_; (first | refine EW.eExtC ?_ | refine EW.eExtA ?_); (first | refine EW.eExtC ?_ | refine EW.eExtA ?_); refine EW.eAlloc ?_; (first | refine EW.eStoreW (k := 3) ?_ | refine EW.eStore (k := 3) ?_); refine EW.eAssign ?_; refine EW.eEnd ?_; (try refine EW.nm ?_))
      all_goals try ((first | refine EW.eRegL (id := 4) ?_ | refine EW.eReg (id := 4) ?_); refine EW.eLoadA (k := 4) ?_; refine EW.eMove ?_; refine EW.eMove ?_; refine EW.eCall Try.call16 (fun w => c2 w) ?_; refine EW.eMove ?_; (first | refine EW.eExtC ?_ | refine EW.eExtA ?_); (first | refine EW.eExtC ?_ | refine EW.eExtA ?_); refine EW.eAlloc ?_; (first | refine EW.eStoreW (k := 3) ?_ | refine EW.eStore (k := 3) ?_); refine EW.eAssign ?_; refine EW.eEnd ?_; (try refine EW.nm ?_))
      all_goals try ((first | refine EW.eRegL (id := 5) ?_ | refine EW.eReg (id := 5) ?_); refine EW.eMove ?_; refine EW.eMove ?_; refine EW.eMove ?_; refine EW.eCallN [0] Try.call17 (hA) ?_; refine EW.eMove ?_; (first | refine EW.eExtC ?_ | refine EW.eExtA ?_); (first | refine EW.eExtC ?_ | refine EW.eExtA ?_); refine EW.eAssign ?_; refine EW.eAssign ?_; refine EW.eEnd ?_; (try refine EW.nm ?_))
      all_goals try ((first | refine EW.eRegL (id := 6) ?_ | refine EW.eReg (id := 6) ?_); refine EW.eMove ?_; refine EW.eMove ?_; refine EW.eMove ?_; refine EW.eCallN [0] Try.call18 (hB) ?_; refine EW.eMove ?_; (first | refine EW.eExtC ?_ | refine EW.eExtA ?_); (first | refine EW.eExtC ?_ | refine EW.eExtA ?_); refine EW.eAssign ?_; refine EW.eAssign ?_; refine EW.eEnd ?_; (try refine EW.nm ?_))
      all_goals try ((first | refine EW.eRegL (id := 7) ?_ | refine EW.eReg (id := 7) ?_); refine EW.eLoadA (k := 3) ?_; refine EW.eMove ?_; refine EW.eMove ?_; refine EW.eCall Try.call15 (fun w => p1 w) ?_; refine EW.eMove ?_; (first | refine EW.eExtC ?_ | refine EW.eExtA ?_); (first | refine EW.eExtC ?_ | refine EW.eExtA ?_); (first | refine EW.eExtC ?_ | refine EW.eExtA ?_); refine EW.eAssign ?_; refine EW.eAssign ?_; refine EW.eAssign ?_; refine EW.eEnd ?_; (try refine EW.nm ?_))
      all_goals try ((first | refine EW.eRegL (id := 8) ?_ | refine EW.eReg (id := 8) ?_); refine EW.eLoadA (k := 3) ?_; refine EW.eMove ?_; refine EW.eMove ?_; refine EW.eCall Try.call19 (fun w => p2 w) ?_; refine EW.eMove ?_; (first | refine EW.eExtC ?_ | refine EW.eExtA ?_); (first | refine EW.eExtC ?_ | refine EW.eExtA ?_); (first | refine EW.eExtC ?_ | refine EW.eExtA ?_); refine EW.eAssign ?_; refine EW.eAssign ?_; refine EW.eAssign ?_; refine EW.eEnd ?_; (try refine EW.nm ?_))
      all_goals try ((first | refine EW.eRegL (id := 9) ?_ | refine EW.eReg (id := 9) ?_); refine EW.eMove ?_; refine EW.eMove ?_; refine EW.eCall Try.call20 (fun w => s1 w) ?_; refine EW.eAssign ?_; refine EW.eEnd ?_; (try refine EW.nm ?_))
      all_goals try ((first | refine EW.eRegL (id := 10) ?_ | refine EW.eReg (id := 10) ?_); refine EW.eLoadA (k := 3) ?_; refine EW.eLoadA (k := 3) ?_; refine EW.eEqlA ?_; refine EW.eMove ?_)
      all_goals try (refine EW.eGuard (j := 3) (o := ⟨some 80, _, _, _, _, _⟩) ?_ ?_ <;> (intro hb hb'; (try dsimp only at hb'); (try (exfalso; first | omega | with_reducible exact absurd rfl hb'))))
      all_goals try ((first | refine EW.eSkipT (j := 3) ?_ | refine EW.eSkipU (j := 3) ?_ | refine EW.eMove ?_); (first | refine EW.eSkipT (j := 3) ?_ | refine EW.eSkipU (j := 3) ?_ | refine EW.eMove ?_); (first | refine EW.eSkipT (j := 3) ?_ | refine EW.eSkipU (j := 3) ?_ | refine EW.eEql ?_); (first | refine EW.ePickT ?_ | refine EW.ePickF ?_); refine EW.eMove ?_)
      all_goals try (refine EW.eGuard (j := 8) (o := ⟨some 85, _, _, _, _, _⟩) ?_ ?_ <;> (intro hb hb'; (try dsimp only at hb'); (try (exfalso; first | omega | with_reducible exact absurd rfl hb'))))
      all_goals try ((first | refine EW.eSkipT (j := 8) ?_ | refine EW.eSkipU (j := 8) ?_ | refine EW.eMove ?_); (first | refine EW.eSkipT (j := 8) ?_ | refine EW.eSkipU (j := 8) ?_ | refine EW.eMove ?_); (first | refine EW.eSkipT (j := 8) ?_ | refine EW.eSkipU (j := 8) ?_ | refine EW.eCallN [50, 60] Try.call21 (hS) ?_); (first | refine EW.ePickT ?_ | refine EW.ePickF ?_); refine EW.eMove ?_)
      all_goals try (refine EW.eGuard (j := 13) (o := ⟨some 90, _, _, _, _, _⟩) ?_ ?_ <;> (intro hb hb'; (try dsimp only at hb'); (try (exfalso; first | omega | with_reducible exact absurd rfl hb'))))
      all_goals try ((first | refine EW.eSkipT (j := 13) ?_ | refine EW.eSkipU (j := 13) ?_ | refine EW.eMove ?_); (first | refine EW.eSkipT (j := 13) ?_ | refine EW.eSkipU (j := 13) ?_ | refine EW.eMove ?_); (first | refine EW.eSkipT (j := 13) ?_ | refine EW.eSkipU (j := 13) ?_ | refine EW.eEql ?_); (first | refine EW.ePickT ?_ | refine EW.ePickF ?_); refine EW.eMove ?_)
      all_goals try (refine EW.eGuard (j := 18) (o := ⟨some 95, _, _, _, _, _⟩) ?_ ?_ <;> (intro hb hb'; (try dsimp only at hb'); (try (exfalso; first | omega | with_reducible exact absurd rfl hb'))))
      all_goals try ((first | refine EW.eSkipT (j := 18) ?_ | refine EW.eSkipU (j := 18) ?_ | refine EW.eMove ?_); (first | refine EW.eSkipT (j := 18) ?_ | refine EW.eSkipU (j := 18) ?_ | refine EW.eMove ?_); (first | refine EW.eSkipT (j := 18) ?_ | refine EW.eSkipU (j := 18) ?_ | refine EW.eEql ?_); (first | refine EW.ePickT ?_ | refine EW.ePickF ?_); refine EW.eMove ?_)
      all_goals try (refine EW.eGuard (j := 23) (o := ⟨some 100, _, _, _, _, _⟩) ?_ ?_ <;> (intro hb hb'; (try dsimp only at hb'); (try (exfalso; first | omega | with_reducible exact absurd rfl hb'))))
      all_goals try ((first | refine EW.eSkipT (j := 23) ?_ | refine EW.eSkipU (j := 23) ?_ | refine EW.eMove ?_); (first | refine EW.eSkipT (j := 23) ?_ | refine EW.eSkipU (j := 23) ?_ | refine EW.eMove ?_); (first | refine EW.eSkipT (j := 23) ?_ | refine EW.eSkipU (j := 23) ?_ | refine EW.eEql ?_); (first | refine EW.ePickT ?_ | refine EW.ePickF ?_); refine EW.eMove ?_)
      all_goals try (refine EW.eGuard (j := 28) (o := ⟨some 105, _, _, _, _, _⟩) ?_ ?_ <;> (intro hb hb'; (try dsimp only at hb'); (try (exfalso; first | omega | with_reducible exact absurd rfl hb'))))
      all_goals try ((first | refine EW.eSkipT (j := 28) ?_ | refine EW.eSkipU (j := 28) ?_ | refine EW.eMove ?_); (first | refine EW.eSkipT (j := 28) ?_ | refine EW.eSkipU (j := 28) ?_ | refine EW.eMove ?_); (first | refine EW.eSkipT (j := 28) ?_ | refine EW.eSkipU (j := 28) ?_ | refine EW.eEqlB ?_); (first | refine EW.ePickT ?_ | refine EW.ePickF ?_); refine EW.eMove ?_)
      all_goals try (refine EW.eGuard (j := 33) (o := ⟨some 110, _, _, _, _, _⟩) ?_ ?_ <;> (intro hb hb'; (try dsimp only at hb'); (try (exfalso; first | omega | with_reducible exact absurd rfl hb'))))
      all_goals try ((first | refine EW.eSkipT (j := 33) ?_ | refine EW.eSkipU (j := 33) ?_ | refine EW.eMove ?_); (first | refine EW.eSkipT (j := 33) ?_ | refine EW.eSkipU (j := 33) ?_ | refine EW.eEql ?_); (first | refine EW.eSkipT (j := 33) ?_ | refine EW.eSkipU (j := 33) ?_ | refine EW.eMove ?_); (first | refine EW.eSkipT (j := 33) ?_ | refine EW.eSkipU (j := 33) ?_ | refine EW.eMove ?_); (first | refine EW.eSkipT (j := 33) ?_ | refine EW.eSkipU (j := 33) ?_ | refine EW.eCall Try.call22 (fun w => s2 w) ?_); (first | refine EW.eSkipT (j := 33) ?_ | refine EW.eSkipU (j := 33) ?_ | refine EW.eEqlB ?_); (first | refine EW.ePickT ?_ | refine EW.ePickF ?_); refine EW.eMove ?_)
      all_goals try (refine EW.eGuard (j := 41) (o := ⟨some 118, _, _, _, _, _⟩) ?_ ?_ <;> (intro hb hb'; (try dsimp only at hb'); (try (exfalso; first | omega | with_reducible exact absurd rfl hb'))))
      all_goals try ((first | refine EW.eSkipT (j := 41) ?_ | refine EW.eSkipU (j := 41) ?_ | refine EW.eMove ?_); (first | refine EW.eSkipT (j := 41) ?_ | refine EW.eSkipU (j := 41) ?_ | refine EW.eEql ?_); (first | refine EW.eSkipT (j := 41) ?_ | refine EW.eSkipU (j := 41) ?_ | refine EW.eMove ?_))
      all_goals try (refine EW.eGuard (j := 44) (o := ⟨some 121, _, _, _, _, _⟩) ?_ ?_ <;> (intro hb hb'; (try dsimp only at hb'); (try (exfalso; first | omega | with_reducible exact absurd rfl hb'))))
      all_goals try ((first | refine EW.eSkipF (j := 44) ?_ | refine EW.eSkipU (j := 44) ?_ | refine EW.eMove ?_); (first | refine EW.eSkipF (j := 44) ?_ | refine EW.eSkipU (j := 44) ?_ | refine EW.eEql ?_); (first | refine EW.eSkipT (j := 41) ?_ | refine EW.eSkipU (j := 41) ?_ | refine EW.ePickT ?_ | refine EW.ePickF ?_); (first | refine EW.ePickT ?_ | refine EW.ePickF ?_); refine EW.eAssign ?_; refine EW.eEnd ?_; (try refine EW.nm ?_))
      all_goals try (with_reducible refine EW.parkK ?_)
      all_goals try (refine EW.Park.mk ?_)
      all_goals (refine EW.eLeaveN [] hR (by first | exact .inl rfl | exact .inr rfl) (by rfl) (by rfl) ?_ ?_ rfl rfl (by (((repeat (first | exact EW.NL.emp | (refine EW.NL.upd ?_ rfl) | refine EW.NL.drp ?_ | refine EW.NL.hp ?_ | refine EW.NL.argS ?_ | refine EW.NL.mix ?_)); (first | done | fail)))) rfl rfl; rotate_left 1; (· ((repeat (first | exact EW.atE.nil | refine EW.atE.lt rfl ?_ | refine EW.atE.lf ?_ | refine EW.atE.b rfl EW.SameB.refl ?_ | (refine EW.atE.b rfl ?_ ?_; rotate_left 1))))))
      all_goals rfl
theorem vcl_nil (e2 : Int)
    (hA : CT Try.prog 17 [.c (.g 0 0 l.length l.length 4), .c (.v (.int .i64 W)), .c (.v (.int .i64 H))] (upd EW.emp (WV4 o l)) 1 1 (.t [.inl (.v (.slice none 0 0)), .inl (.v (.int .i64 e2))]) (upd (upd EW.emp (WV4 o l)) []))
    (hB : CT Try.prog 18 [.c (.g 0 0 l.length l.length 4), .c (.v (.int .i64 W)), .c (.v (.int .i64 H))] (upd EW.emp (WV4 o l)) 1 1 (.t [.inl (.v (.slice none 0 0)), .inl (.v (.int .i64 e2))]) (upd (upd EW.emp (WV4 o l)) [])) : CT Try.prog 7 [.a (Q4 x y z q), .c (.g 0 0 l.length l.length 4), .a (Q3 a b c), .c (.v (.int .i64 W)), .c (.v (.int .i64 H))] (upd EW.emp (WV4 o l)) 1 1 (.c (.v (.bool true))) (upd (upd EW.emp (WV4 o l)) []) := by
  cases pb
  all_goals
    rcases s3 with ⟨rfl, rfl⟩ | ⟨rfl, rfl⟩
    all_goals
      refine EW.ctEnter [10, 20, 30, 40, 50, 60, 70, 80, 90, 100, 110, 120, 130, 140, 150, 160, 170, 180, 190, 200, 210, 220, 230, 240, 250, 260, 270, 280, 290, 300, 310, 320, 330, 340, 350, 360, 370, 380, 390, 400, 410, 420, 430, 440, 450, 460, 470, 480, 490, 500, 510, 520, 530, 540, 550, 560, 570, 580, 590, 600] Try.func7 rfl Try.ntmps7 rfl (by (((repeat (first | exact EW.NL.emp | (refine EW.NL.upd ?_ rfl) | refine EW.NL.drp ?_ | refine EW.NL.hp ?_ | refine EW.NL.argS ?_ | refine EW.NL.mix ?_)); (first | done | fail)))) ?_; intro w0 tch ini R hR
      all_goals try (refine EW.nm ?_)
      all_goals try ((first | refine EW.eRegL (id := 0) ?_ | refine EW.eReg (id := 0) ?_); refine EW.eBox ?_; refine EW.eBox ?_; refine EW.eAssign ?_; refine EW.eEnd ?_; (try refine EW.nm ?_))
      all_goals try ((first | refine EW.eRegL (id := 1) ?_ | refine EW.eReg (id := 1) ?_); refine EW.eMove ?_; (first | refine EW.eLenS ?_ | refine EW.eLenG ?_ | refine EW.eLenN ?_); refine EW.eGtr ?_; refine EW.eEnd ?_; (try refine EW.nm ?_))
      all_goals try (first | refine EW.eYes (x := Operand.tmp 28) ?_ | refine EW.eNo (x := Operand.tmp 28) ?_ | (refine EW.eCond (x := Operand.tmp 28) ?_ ?_ <;> (intro hb hb'; (try dsimp only at hb'); (try (exfalso; first | omega | with_reducible exact absurd rfl hb')))))
      all_goals try (refine EW.nm ?_)
      all_goals try ((first | refine EW.eRegL (id := 2) ?_ | refine EW.eReg (id := 2) ?_); refine EW.eAssign ?_; refine EW.eEnd ?_; (try refine EW.nm ?_))
      all_goals try (with_reducible refine EW.parkK ?_)
      all_goals try ((first | refine EW.eRegL (id := 3) ?_ | refine EW.eReg (id := 3) ?_); refine EW.eLoadA (k := 4) ?_; refine EW.eMove ?_; refine EW.eMove ?_; refine EW.eCall Try.call13 (fun w => c1 w) ?_; refine EW.eMove ?_; (first | refine EW.eExtC ?_ | refine EW.eExtA ?_); (first | refine EW.eExtC ?_ | refine EW.eExtA ?_); refine EW.eAlloc ?_; (first | refine EW.eStoreW (k := 3) ?_ | refine EW.eStore (k := 3) ?_); refine EW.eAssign ?_; refine EW.eEnd ?_; (try refine EW.nm ?_))
      all_goals try ((first | refine EW.eRegL (id := 4) ?_ | refine EW.eReg (id := 4) ?_); refine EW.eLoadA (k := 4) ?_; refine EW.eMove ?_; refine EW.eMove ?_; refine EW.eCall Try.call16 (fun w => c2 w) ?_; refine EW.eMove ?_; (first | refine EW.eExtC ?_ | refine EW.eExtA ?_); (first | refine EW.eExtC ?_ | refine EW.eExtA ?_); refine EW.eAlloc ?_; (first | refine EW.eStoreW (k := 3) ?_ | refine EW.eStore (k := 3) ?_); refine EW.eAssign ?_; refine EW.eEnd ?_; (try refine EW.nm ?_))
      all_goals try ((first | refine EW.eRegL (id := 5) ?_ | refine EW.eReg (id := 5) ?_); refine EW.eMove ?_; refine EW.eMove ?_; refine EW.eMove ?_; refine EW.eCallN [0] Try.call17 (hA) ?_; refine EW.eMove ?_; (first | refine EW.eExtC ?_ | refine EW.eExtA ?_); (first | refine EW.eExtC ?_ | refine EW.eExtA ?_); refine EW.eAssign ?_; refine EW.eAssign ?_; refine EW.eEnd ?_; (try refine EW.nm ?_))
      all_goals try ((first | refine EW.eRegL (id := 6) ?_ | refine EW.eReg (id := 6) ?_); refine EW.eMove ?_; refine EW.eMove ?_; refine EW.eMove ?_; refine EW.eCallN [0] Try.call18 (hB) ?_; refine EW.eMove ?_; (first | refine EW.eExtC ?_ | refine EW.eExtA ?_); (first | refine EW.eExtC ?_ | refine EW.eExtA ?_); refine EW.eAssign ?_; refine EW.eAssign ?_; refine EW.eEnd ?_; (try refine EW.nm ?_))
      all_goals try ((first | refine EW.eRegL (id := 7) ?_ | refine EW.eReg (id := 7) ?_); refine EW.eLoadA (k := 3) ?_; refine EW.eMove ?_; refine EW.eMove ?_; refine EW.eCall Try.call15 (fun w => p1 w) ?_; refine EW.eMove ?_; (first | refine EW.eExtC ?_ | refine EW.eExtA ?_); (first | refine EW.eExtC ?_ | refine EW.eExtA ?_); (first | refine EW.eExtC ?_ | refine EW.eExtA ?_); refine EW.eAssign ?_; refine EW.eAssign ?_; refine EW.eAssign ?_; refine EW.eEnd ?_; (try refine EW.nm ?_))
      all_goals try ((first | refine EW.eRegL (id := 8) ?_ | refine EW.eReg (id := 8) ?_); refine EW.eLoadA (k := 3) ?_; refine EW.eMove ?_; refine EW.eMove ?_; refine EW.eCall Try.call19 (fun w => p2 w) ?_; refine EW.eMove ?_; (first | refine EW.eExtC ?_ | refine EW.eExtA ?_); (first | refine EW.eExtC ?_ | refine EW.eExtA ?_); (first | refine EW.eExtC ?_ | refine EW.eExtA ?_); refine EW.eAssign ?_; refine EW.eAssign ?_; refine EW.eAssign ?_; refine EW.eEnd ?_; (try refine EW.nm ?_))
      all_goals try ((first | refine EW.eRegL (id := 9) ?_ | refine EW.eReg (id := 9) ?_); refine EW.eMove ?_; refine EW.eMove ?_; refine EW.eCall Try.call20 (fun w => s1 w) ?_; refine EW.eAssign ?_; refine EW.eEnd ?_; (try refine EW.nm ?_))
      all_goals try ((first | refine EW.eRegL (id := 10) ?_ | refine EW.eReg (id := 10) ?_); refine EW.eLoadA (k := 3) ?_; refine EW.eLoadA (k := 3) ?_; refine EW.eEqlA ?_; refine EW.eMove ?_)
      all_goals try (refine EW.eGuard (j := 3) (o := ⟨some 80, _, _, _, _, _⟩) ?_ ?_ <;> (intro hb hb'; (try dsimp only at hb'); (try (exfalso; first | omega | with_reducible exact absurd rfl hb'))))
      all_goals try ((first | refine EW.eSkipT (j := 3) ?_ | refine EW.eSkipU (j := 3) ?_ | refine EW.eMove ?_); (first | refine EW.eSkipT (j := 3) ?_ | refine EW.eSkipU (j := 3) ?_ | refine EW.eMove ?_); (first | refine EW.eSkipT (j := 3) ?_ | refine EW.eSkipU (j := 3) ?_ | refine EW.eEql ?_); (first | refine EW.ePickT ?_ | refine EW.ePickF ?_); refine EW.eMove ?_)
      all_goals try (refine EW.eGuard (j := 8) (o := ⟨some 85, _, _, _, _, _⟩) ?_ ?_ <;> (intro hb hb'; (try dsimp only at hb'); (try (exfalso; first | omega | with_reducible exact absurd rfl hb'))))
      all_goals try ((first | refine EW.eSkipT (j := 8) ?_ | refine EW.eSkipU (j := 8) ?_ | refine EW.eMove ?_); (first | refine EW.eSkipT (j := 8) ?_ | refine EW.eSkipU (j := 8) ?_ | refine EW.eMove ?_); (first | refine EW.eSkipT (j := 8) ?_ | refine EW.eSkipU (j := 8) ?_ | refine EW.eCallN [] Try.call21 (csame_nil) ?_); (first | refine EW.ePickT ?_ | refine EW.ePickF ?_); refine EW.eMove ?_)
      all_goals try (refine EW.eGuard (j := 13) (o := ⟨some 90, _, _, _, _, _⟩) ?_ ?_ <;> (intro hb hb'; (try dsimp only at hb'); (try (exfalso; first | omega | with_reducible exact absurd rfl hb'))))
      all_goals try ((first | refine EW.eSkipT (j := 13) ?_ | refine EW.eSkipU (j := 13) ?_ | refine EW.eMove ?_); (first | refine EW.eSkipT (j := 13) ?_ | refine EW.eSkipU (j := 13) ?_ | refine EW.eMove ?_); (first | refine EW.eSkipT (j := 13) ?_ | refine EW.eSkipU (j := 13) ?_ | refine EW.eEql ?_); (first | refine EW.ePickT ?_ | refine EW.ePickF ?_); refine EW.eMove ?_)
      all_goals try (refine EW.eGuard (j := 18) (o := ⟨some 95, _, _, _, _, _⟩) ?_ ?_ <;> (intro hb hb'; (try dsimp only at hb'); (try (exfalso; first | omega | with_reducible exact absurd rfl hb'))))
      all_goals try ((first | refine EW.eSkipT (j := 18) ?_ | refine EW.eSkipU (j := 18) ?_ | refine EW.eMove ?_); (first | refine EW.eSkipT (j := 18) ?_ | refine EW.eSkipU (j := 18) ?_ | refine EW.eMove ?_); (first | refine EW.eSkipT (j := 18) ?_ | refine EW.eSkipU (j := 18) ?_ | refine EW.eEql ?_); (first | refine EW.ePickT ?_ | refine EW.ePickF ?_); refine EW.eMove ?_)
      all_goals try (refine EW.eGuard (j := 23) (o := ⟨some 100, _, _, _, _, _⟩) ?_ ?_ <;> (intro hb hb'; (try dsimp only at hb'); (try (exfalso; first | omega | with_reducible exact absurd rfl hb'))))
      all_goals try ((first | refine EW.eSkipT (j := 23) ?_ | refine EW.eSkipU (j := 23) ?_ | refine EW.eMove ?_); (first | refine EW.eSkipT (j := 23) ?_ | refine EW.eSkipU (j := 23) ?_ | refine EW.eMove ?_); (first | refine EW.eSkipT (j := 23) ?_ | refine EW.eSkipU (j := 23) ?_ | refine EW.eEql ?_); (first | refine EW.ePickT ?_ | refine EW.ePickF ?_); refine EW.eMove ?_)
      all_goals try (refine EW.eGuard (j := 28) (o := ⟨some 105, _, _, _, _, _⟩) ?_ ?_ <;> (intro hb hb'; (try dsimp only at hb'); (try (exfalso; first | omega | with_reducible exact absurd rfl hb'))))
      all_goals try ((first | refine EW.eSkipT (j := 28) ?_ | refine EW.eSkipU (j := 28) ?_ | refine EW.eMove ?_); (first | refine EW.eSkipT (j := 28) ?_ | refine EW.eSkipU (j := 28) ?_ | refine EW.eMove ?_); (first | refine EW.eSkipT (j := 28) ?_ | refine EW.eSkipU (j := 28) ?_ | refine EW.eEqlB ?_); (first | refine EW.ePickT ?_ | refine EW.ePickF ?_); refine EW.eMove ?_)
      all_goals try (refine EW.eGuard (j := 33) (o := ⟨some 110, _, _, _, _, _⟩) ?_ ?_ <;> (intro hb hb'; (try dsimp only at hb'); (try (exfalso; first | omega | with_reducible exact absurd rfl hb'))))
      all_goals try ((first | refine EW.eSkipT (j := 33) ?_ | refine EW.eSkipU (j := 33) ?_ | refine EW.eMove ?_); (first | refine EW.eSkipT (j := 33) ?_ | refine EW.eSkipU (j := 33) ?_ | refine EW.eEql ?_); (first | refine EW.eSkipT (j := 33) ?_ | refine EW.eSkipU (j := 33) ?_ | refine EW.eMove ?_); (first | refine EW.eSkipT (j := 33) ?_ | refine EW.eSkipU (j := 33) ?_ | refine EW.eMove ?_); (first | refine EW.eSkipT (j := 33) ?_ | refine EW.eSkipU (j := 33) ?_ | refine EW.eCall Try.call22 (fun w => s2 w) ?_); (first | refine EW.eSkipT (j := 33) ?_ | refine EW.eSkipU (j := 33) ?_ | refine EW.eEqlB ?_); (first | refine EW.ePickT ?_ | refine EW.ePickF ?_); refine EW.eMove ?_)
      all_goals try (refine EW.eGuard (j := 41) (o := ⟨some 118, _, _, _, _, _⟩) ?_ ?_ <;> (intro hb hb'; (try dsimp only at hb'); (try (exfalso; first | omega | with_reducible exact absurd rfl hb'))))
      all_goals try ((first | refine EW.eSkipT (j := 41) ?_ | refine EW.eSkipU (j := 41) ?_ | refine EW.eMove ?_); (first | refine EW.eSkipT (j := 41) ?_ | refine EW.eSkipU (j := 41) ?_ | refine EW.eEql ?_); (first | refine EW.eSkipT (j := 41) ?_ | refine EW.eSkipU (j := 41) ?_ | refine EW.eMove ?_))
      all_goals try (refine EW.eGuard (j := 44) (o := ⟨some 121, _, _, _, _, _⟩) ?_ ?_ <;> (intro hb hb'; (try dsimp only at hb'); (try (exfalso; first | omega | with_reducible exact absurd rfl hb'))))
      all_goals try ((first | refine EW.eSkipF (j := 44) ?_ | refine EW.eSkipU (j := 44) ?_ | refine EW.eMove ?_); (first | refine EW.eSkipF (j := 44) ?_ | refine EW.eSkipU (j := 44) ?_ | refine EW.eEql ?_); (first | refine EW.eSkipT (j := 41) ?_ | refine EW.eSkipU (j := 41) ?_ | refine EW.ePickT ?_ | refine EW.ePickF ?_); (first | refine EW.ePickT ?_ | refine EW.ePickF ?_); refine EW.eAssign ?_; refine EW.eEnd ?_; (try refine EW.nm ?_))
      all_goals try (with_reducible refine EW.parkK ?_)
      all_goals try (refine EW.Park.mk ?_)
      all_goals (refine EW.eLeaveN [] hR (by first | exact .inl rfl | exact .inr rfl) (by rfl) (by rfl) ?_ ?_ rfl rfl (by (((repeat (first | exact EW.NL.emp | (refine EW.NL.upd ?_ rfl) | refine EW.NL.drp ?_ | refine EW.NL.hp ?_ | refine EW.NL.argS ?_ | refine EW.NL.mix ?_)); (first | done | fail)))) rfl rfl; rotate_left 1; (· ((repeat (first | exact EW.atE.nil | refine EW.atE.lt rfl ?_ | refine EW.atE.lf ?_ | refine EW.atE.b rfl EW.SameB.refl ?_ | (refine EW.atE.b rfl ?_ ?_; rotate_left 1))))))
      all_goals rfl
end
theorem first_no {p : Nat → Prop} [DecidablePred p] : ∀ {n : Nat}, ¬ (∀ t, t < n → p t) → ∃ t, t < n ∧ (∀ i, i < t → p i) ∧ ¬ p t
  | 0, h => absurd (fun t ht => by omega) h
  | n + 1, h => by
    by_cases h' : ∀ t, t < n → p t
    · refine ⟨n, by omega, h', fun hn => h fun t ht => ?_⟩
      rcases Nat.lt_or_ge t n with h1 | h1
      · exact h' t h1
      · obtain rfl : t = n := by omega
        exact hn
    · obtain ⟨t, h1, h2, h3⟩ := first_no h'
      exact ⟨t, by omega, h2, h3⟩
theorem vcl_any (l : List Vx) (x y z q a b c W H : Int) (hmx : l.length ≤ maxLen) : CT Try.prog 7 [.a (Q4 x y z q), .c (.g 0 0 l.length l.length 4), .a (Q3 a b c), .c (.v (.int .i64 W)), .c (.v (.int .i64 H))] (upd EW.emp (WV4 false l)) 1 1 (.c (.v (.bool true))) (upd (upd EW.emp (WV4 false l)) []) := by
  rcases Nat.lt_or_ge 100 l.length with h | h
  · exact vcl_far false l x y z q a b c W H h hmx
  have hC : ∃ X Y Z e : Int, (∀ w : World, Calls Try.prog 13 #[V4 x y z q, .int .i64 W, .int .i64 H] w fun r w' => r = .returned (.tuple #[A3 X Y Z, .int .i64 e]) ∧ Below w.heap.size w w') ∧ ∀ w : World, Calls Try.prog 16 #[V4 x y z q, .int .i64 W, .int .i64 H] w fun r w' => r = .returned (.tuple #[A3 X Y Z, .int .i64 e]) ∧ Below w.heap.size w w' := by
    by_cases hs : seenP x y z q ∧ sized W H
    · exact ⟨_, _, _, _, fun w => vcorner_y x y z q W H w hs.1 hs.2, fun w => rcorner_y x y z q W H w hs.1 hs.2⟩
    · exact ⟨_, _, _, _, fun w => vcorner_n x y z q W H w hs, fun w => rcorner_n x y z q W H w hs⟩
  obtain ⟨X, Y, Z, e, c1, c2⟩ := hC
  by_cases hz : sized W H
  · have hP : ∃ (px py : Int) (pb : Bool), (∀ w : World, Calls Try.prog 15 #[A3 a b c, .int .i64 W, .int .i64 H] w fun r w' => r = .returned (.tuple #[.int .i64 px, .int .i64 py, .bool pb]) ∧ Below w.heap.size w w') ∧ ∀ w : World, Calls Try.prog 19 #[A3 a b c, .int .i64 W, .int .i64 H] w fun r w' => r = .returned (.tuple #[.int .i64 px, .int .i64 py, .bool pb]) ∧ Below w.heap.size w w' := by
      by_cases hp : pixIn a b W H
      · exact ⟨_, _, _, fun w => vpixel_y a b c W H w hz hp, fun w => rpixel_y a b c W H w hz hp⟩
      · exact ⟨_, _, _, fun w => vpixel_n a b c W H w hz hp, fun w => rpixel_n a b c W H w hz hp⟩
    obtain ⟨px, py, pb, p1, p2⟩ := hP
    by_cases hall : ∀ i, i < l.length → (l.getD i Vx.zero).seen
    · exact vcl_ok false l x y z q a b c W H X Y Z e px py 0 pb true h c1 c2 p1 p2 (fun w => vcheck_y W H w hz) (fun w => rsize_y W H w hz) (.inl ⟨rfl, rfl⟩) (l.map (crn W H)) (by rw [List.length_map]; exact h) (vcs_ok false l W H hz (by omega) hall) (rcs_ok false l W H hz (by omega) hall)
    · obtain ⟨t, t1, t2, t3⟩ := first_no (p := fun i => (l.getD i Vx.zero).seen) hall
      exact vcl_nil false l x y z q a b c W H X Y Z e px py 0 pb true h c1 c2 p1 p2 (fun w => vcheck_y W H w hz) (fun w => rsize_y W H w hz) (.inl ⟨rfl, rfl⟩) 100 (vcs_no false l W H t hz (by omega) t1 t2 t3) (rcs_no false l W H t hz (by omega) t1 t2 t3)
  · exact vcl_nil false l x y z q a b c W H X Y Z e 0 0 100 false false h c1 c2 (fun w => vpixel_s a b c W H w hz) (fun w => rpixel_s a b c W H w hz) (fun w => vcheck_n W H w hz) (fun w => rsize_n W H w hz) (.inr ⟨rfl, rfl⟩) 100 (vcs_s false l W H hz) (rcs_s false l W H hz)
theorem vx_of_rows : ∀ {rows : List (List Value)}, (∀ s ∈ rows, Fit [.i .i64, .i .i64, .i .i64, .i .i64] s) → ∃ l : List Vx, l.length = rows.length ∧ rows.flatten = vvs l
  | [], _ => ⟨[], rfl, rfl⟩
  | r :: rows, h => by
    obtain ⟨l, h1, h2⟩ := vx_of_rows (rows := rows) (fun s hs => h s (by simp [hs]))
    obtain ⟨z, _, rfl, _, _, o, _, rfl, _, _, t, _, rfl, _, _, c, _, rfl, _, _, rfl⟩ := h r (by simp)
    exact ⟨⟨z, o, t, c⟩ :: l, by simp [h1], by rw [List.flatten_cons, h2]; rfl⟩
theorem vvs_one (l : List Vx) : ∀ x ∈ vvs l, x.oneCell' = true := by
  intro x hx
  simp only [vvs, List.mem_flatMap] at hx
  obtain ⟨p, _, hx⟩ := hx
  simp only [List.mem_cons, List.not_mem_nil, or_false] at hx
  rcases hx with rfl | rfl | rfl | rfl <;> rfl
theorem inG_len {v : Value} {b off len room z : Nat} (h : InG v b off len room z) : len ≤ maxLen := by
  rcases h with ⟨cap, _, e1, e2, _⟩ | ⟨e1, _⟩
  · exact Nat.le_trans e1 e2
  · rw [e1]; exact Nat.zero_le _
theorem vcl_row (Wd : World) (x y z q a b c W H : Int) {b' off len room : Nat} {rows : List (List Value)} {v : Value} (hl : rows.length = len) (ft : ∀ s ∈ rows, Fit [.i .i64, .i .i64, .i .i64, .i .i64] s) (sr : SrcG Wd b' off room rows.flatten) (hv : InG v b' off len room 4) :
    Calls Try.prog 7 #[V4 x y z q, v, A3 a b c, .int .i64 W, .int .i64 H] Wd fun e w' => e = .returned (.bool true) ∧ Below Wd.heap.size Wd w' := by
  obtain ⟨l, h1, h2⟩ := vx_of_rows ft
  rw [h2] at sr
  obtain rfl : l.length = len := by omega
  have := calls_rowsG (us := [V4 x y z q, v, A3 a b c, .int .i64 W, .int .i64 H]) (Ls := [vvs l]) (A := [(b', off, room)]) (w := Wd) (vcl_any l x y z q a b c W H (inG_len hv)) rfl (by decide)
    (fun i L hi => by
      match i, hi with
      | 0, hi => simp only [List.getElem?_cons_zero, Option.some.injEq] at hi; subst hi; exact ⟨sr, vvs_one l⟩
      | i + 1, hi => simp at hi)
    (okvs_plain (.a (.cons (.cons (.cons (.cons .nil))))) rfl (okvs_sliceG rfl hv (okvs_plain (.a (.cons (.cons (.cons .nil)))) rfl (okvs_plain .c rfl (okvs_plain .c rfl okvs_nil)))))
    (fun v hv n hn => by
      simp only [List.mem_cons, List.not_mem_nil, or_false] at hv
      rcases hv with rfl | rfl | rfl | rfl | rfl <;> simp [V.names, C.names, List.flatMap_cons] at hn <;> simp [hn])
  exact this
end Go.Proofs.Ythclhmdgfekaeaa
