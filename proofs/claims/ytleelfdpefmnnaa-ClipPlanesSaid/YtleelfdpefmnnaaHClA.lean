/- ClipPlanes, ClipTriangles: the walks of the laws. -/
import Derived.Test.YtleelfdpefmnnaaHCl9
import Derived.Test.YtleelfdpefmnnaaHRow4
namespace Go.Proofs.Ytleelfdpefmnnaa
set_option linter.unusedSimpArgs false
set_option linter.unusedVariables false
open Go.RowKit EV
open SX (Wr Tv Qu Rm Sh Is conjP eqs_iff eqs_false)
open EW (PlL PlT PlV PlVs LfV Mm Bt Opn GV YT lpOf nums)
set_option maxRecDepth 20000
abbrev MAY (A : Value) (m : Bool) : Prop := ∀ w : World, Calls Try.prog 20 #[A] w fun e w' => e = .returned (.bool m) ∧ Below w.heap.size w w'
abbrev RMY (A : Value) (m : Bool) : Prop := ∀ w : World, Calls Try.prog 21 #[A] w fun e w' => e = .returned (.bool m) ∧ Below w.heap.size w w'
theorem planes_far (ol : Bool) (p : Int) (a b : Vx) (l : List Vx) (hl : 110 < l.length) : CT Try.prog 5 [.c (.v (.int .i64 p)), .a a.cs, .a b.cs, .c (.g 0 0 l.length l.length 4)] (upd EW.emp (WF ol l)) 1 1 (.c (.v (.bool true))) (upd (upd EW.emp (WF ol l)) []) := by
  obtain ⟨a0, a1, a2, a3⟩ := a
  obtain ⟨b0, b1, b2, b3⟩ := b
  refine EW.ctEnter [10, 20, 30, 40, 50, 60, 70, 80, 90, 100, 110, 120, 130, 140, 150, 160, 170, 180, 190, 200, 210, 220, 230, 240, 250, 260, 270, 280, 290, 300, 310, 320, 330, 340, 350, 360, 370, 380, 390, 400, 410, 420, 430, 440, 450, 460, 470, 480, 490, 500, 510, 520, 530, 540, 550, 560, 570, 580, 590, 600] Try.func5 rfl Try.ntmps5 rfl (by (((repeat (first | exact EW.NL.emp | (refine EW.NL.upd ?_ rfl) | refine EW.NL.drp ?_ | refine EW.NL.hp ?_ | refine EW.NL.argS ?_ | refine EW.NL.mix ?_)); (first | done | fail)))) ?_; intro w0 tch ini R hR
  all_goals try (refine EW.nm ?_)
  all_goals try ((first | refine EW.eRegL (id := 0) ?_ | refine EW.eReg (id := 0) ?_); refine EW.eBox ?_; refine EW.eBox ?_; refine EW.eAssign ?_; refine EW.eEnd ?_; (try refine EW.nm ?_))
  all_goals try ((first | refine EW.eRegL (id := 1) ?_ | refine EW.eReg (id := 1) ?_); refine EW.eMove ?_; (first | refine EW.eLenS ?_ | refine EW.eLenG ?_ | refine EW.eLenN ?_); refine EW.eGtr ?_; refine EW.eEnd ?_; (try refine EW.nm ?_))
  all_goals try (first | refine EW.eYes (x := Operand.tmp 23) ?_ | refine EW.eNo (x := Operand.tmp 23) ?_ | (refine EW.eCond (x := Operand.tmp 23) ?_ ?_ <;> (intro hb hb'; (try dsimp only at hb'); (try (exfalso; first | omega | with_reducible exact absurd rfl hb')))))
  all_goals try (refine EW.nm ?_)
  all_goals try ((first | refine EW.eRegL (id := 2) ?_ | refine EW.eReg (id := 2) ?_); refine EW.eAssign ?_; refine EW.eEnd ?_; (try refine EW.nm ?_))
  all_goals try ((first | refine EW.eRegL (id := 3) ?_ | refine EW.eReg (id := 3) ?_); refine EW.eMove ?_; refine EW.eLoadA (k := 4) ?_; fail "no contract of mullion/clip.Dist"; refine EW.eMove ?_; (first | refine EW.eExtC ?_ | refine EW.eExtA ?_); (first | refine EW.eExtC ?_ | refine EW.eExtA ?_); refine EW.eAssign ?_; refine EW.eAssign ?_; refine EW.eEnd ?_; (try refine EW.nm ?_))
  all_goals try ((first | refine EW.eRegL (id := 4) ?_ | refine EW.eReg (id := 4) ?_); refine EW.eMove ?_; refine EW.eLoadA (k := 4) ?_; fail "no contract of mullion/mullionref09.Dist"; refine EW.eMove ?_; (first | refine EW.eExtC ?_ | refine EW.eExtA ?_); (first | refine EW.eExtC ?_ | refine EW.eExtA ?_); refine EW.eAssign ?_; refine EW.eAssign ?_; refine EW.eEnd ?_; (try refine EW.nm ?_))
  all_goals try ((first | refine EW.eRegL (id := 5) ?_ | refine EW.eReg (id := 5) ?_); refine EW.eMove ?_; refine EW.eLoadA (k := 4) ?_; refine EW.eLoadA (k := 4) ?_; fail "no contract of mullion/clip.Cross"; refine EW.eMove ?_; (first | refine EW.eExtC ?_ | refine EW.eExtA ?_); (first | refine EW.eExtC ?_ | refine EW.eExtA ?_); refine EW.eAlloc ?_; (first | refine EW.eStoreW (k := 4) ?_ | refine EW.eStore (k := 4) ?_); refine EW.eAssign ?_; refine EW.eEnd ?_; (try refine EW.nm ?_))
  all_goals try ((first | refine EW.eRegL (id := 6) ?_ | refine EW.eReg (id := 6) ?_); refine EW.eMove ?_; refine EW.eLoadA (k := 4) ?_; refine EW.eLoadA (k := 4) ?_; fail "no contract of mullion/mullionref09.Cross"; refine EW.eMove ?_; (first | refine EW.eExtC ?_ | refine EW.eExtA ?_); (first | refine EW.eExtC ?_ | refine EW.eExtA ?_); refine EW.eAlloc ?_; (first | refine EW.eStoreW (k := 4) ?_ | refine EW.eStore (k := 4) ?_); refine EW.eAssign ?_; refine EW.eEnd ?_; (try refine EW.nm ?_))
  all_goals try ((first | refine EW.eRegL (id := 7) ?_ | refine EW.eReg (id := 7) ?_); refine EW.eMove ?_; refine EW.eMove ?_; fail "no contract of mullion/clip.Cut"; refine EW.eMove ?_; (first | refine EW.eExtC ?_ | refine EW.eExtA ?_); (first | refine EW.eExtC ?_ | refine EW.eExtA ?_); refine EW.eAssign ?_; refine EW.eAssign ?_; refine EW.eEnd ?_; (try refine EW.nm ?_))
  all_goals try ((first | refine EW.eRegL (id := 8) ?_ | refine EW.eReg (id := 8) ?_); refine EW.eMove ?_; refine EW.eMove ?_; fail "no contract of mullion/mullionref09.Cut"; refine EW.eMove ?_; (first | refine EW.eExtC ?_ | refine EW.eExtA ?_); (first | refine EW.eExtC ?_ | refine EW.eExtA ?_); refine EW.eAssign ?_; refine EW.eAssign ?_; refine EW.eEnd ?_; (try refine EW.nm ?_))
  all_goals try ((first | refine EW.eRegL (id := 9) ?_ | refine EW.eReg (id := 9) ?_); refine EW.eMove ?_; refine EW.eMove ?_; refine EW.eEql ?_; refine EW.eMove ?_)
  all_goals try (refine EW.eGuard (j := 3) (o := ⟨some 66, _, _, _, _, _⟩) ?_ ?_ <;> (intro hb hb'; (try dsimp only at hb'); (try (exfalso; first | omega | with_reducible exact absurd rfl hb'))))
  all_goals try ((first | refine EW.eSkipT (j := 3) ?_ | refine EW.eSkipU (j := 3) ?_ | refine EW.eMove ?_); (first | refine EW.eSkipT (j := 3) ?_ | refine EW.eSkipU (j := 3) ?_ | refine EW.eMove ?_); (first | refine EW.eSkipT (j := 3) ?_ | refine EW.eSkipU (j := 3) ?_ | refine EW.eEql ?_); (first | refine EW.ePickT ?_ | refine EW.ePickF ?_); refine EW.eMove ?_)
  all_goals try (refine EW.eGuard (j := 8) (o := ⟨some 71, _, _, _, _, _⟩) ?_ ?_ <;> (intro hb hb'; (try dsimp only at hb'); (try (exfalso; first | omega | with_reducible exact absurd rfl hb'))))
  all_goals try ((first | refine EW.eSkipT (j := 8) ?_ | refine EW.eSkipU (j := 8) ?_ | refine EW.eLoadA (k := 4) ?_); (first | refine EW.eSkipT (j := 8) ?_ | refine EW.eSkipU (j := 8) ?_ | refine EW.eLoadA (k := 4) ?_); (first | refine EW.eSkipT (j := 8) ?_ | refine EW.eSkipU (j := 8) ?_ | refine EW.eEqlA ?_); (first | refine EW.ePickT ?_ | refine EW.ePickF ?_); refine EW.eMove ?_)
  all_goals try (refine EW.eGuard (j := 13) (o := ⟨some 76, _, _, _, _, _⟩) ?_ ?_ <;> (intro hb hb'; (try dsimp only at hb'); (try (exfalso; first | omega | with_reducible exact absurd rfl hb'))))
  all_goals try ((first | refine EW.eSkipT (j := 13) ?_ | refine EW.eSkipU (j := 13) ?_ | refine EW.eMove ?_); (first | refine EW.eSkipT (j := 13) ?_ | refine EW.eSkipU (j := 13) ?_ | refine EW.eMove ?_); (first | refine EW.eSkipT (j := 13) ?_ | refine EW.eSkipU (j := 13) ?_ | refine EW.eEql ?_); (first | refine EW.ePickT ?_ | refine EW.ePickF ?_); refine EW.eMove ?_)
  all_goals try (refine EW.eGuard (j := 18) (o := ⟨some 81, _, _, _, _, _⟩) ?_ ?_ <;> (intro hb hb'; (try dsimp only at hb'); (try (exfalso; first | omega | with_reducible exact absurd rfl hb'))))
  all_goals try ((first | refine EW.eSkipT (j := 18) ?_ | refine EW.eSkipU (j := 18) ?_ | refine EW.eMove ?_); (first | refine EW.eSkipT (j := 18) ?_ | refine EW.eSkipU (j := 18) ?_ | refine EW.eMove ?_); (first | refine EW.eSkipT (j := 18) ?_ | refine EW.eSkipU (j := 18) ?_ | fail "no contract of mullion/mullionref09.Same"); (first | refine EW.ePickT ?_ | refine EW.ePickF ?_); refine EW.eMove ?_)
  all_goals try (refine EW.eGuard (j := 23) (o := ⟨some 86, _, _, _, _, _⟩) ?_ ?_ <;> (intro hb hb'; (try dsimp only at hb'); (try (exfalso; first | omega | with_reducible exact absurd rfl hb'))))
  all_goals try ((first | refine EW.eSkipT (j := 23) ?_ | refine EW.eSkipU (j := 23) ?_ | refine EW.eMove ?_); (first | refine EW.eSkipT (j := 23) ?_ | refine EW.eSkipU (j := 23) ?_ | refine EW.eMove ?_); (first | refine EW.eSkipT (j := 23) ?_ | refine EW.eSkipU (j := 23) ?_ | refine EW.eEql ?_); (first | refine EW.ePickT ?_ | refine EW.ePickF ?_); refine EW.eMove ?_)
  all_goals try (refine EW.eGuard (j := 28) (o := ⟨some 91, _, _, _, _, _⟩) ?_ ?_ <;> (intro hb hb'; (try dsimp only at hb'); (try (exfalso; first | omega | with_reducible exact absurd rfl hb'))))
  all_goals try ((first | refine EW.eSkipT (j := 28) ?_ | refine EW.eSkipU (j := 28) ?_ | refine EW.eLoadA (k := 4) ?_); (first | refine EW.eSkipT (j := 28) ?_ | refine EW.eSkipU (j := 28) ?_ | fail "no contract of mullion/clip.May"); (first | refine EW.eSkipT (j := 28) ?_ | refine EW.eSkipU (j := 28) ?_ | refine EW.eLoadA (k := 4) ?_); (first | refine EW.eSkipT (j := 28) ?_ | refine EW.eSkipU (j := 28) ?_ | fail "no contract of mullion/mullionref09.May"); (first | refine EW.eSkipT (j := 28) ?_ | refine EW.eSkipU (j := 28) ?_ | refine EW.eEqlB ?_); (first | refine EW.ePickT ?_ | refine EW.ePickF ?_); refine EW.eAssign ?_; refine EW.eDraw ?_; (try refine EW.nm ?_))
  all_goals (refine EW.eLeaveN [] hR (by first | exact .inl rfl | exact .inr rfl) (by rfl) (by rfl) ?_ ?_ rfl rfl (by (((repeat (first | exact EW.NL.emp | (refine EW.NL.upd ?_ rfl) | refine EW.NL.drp ?_ | refine EW.NL.hp ?_ | refine EW.NL.argS ?_ | refine EW.NL.mix ?_)); (first | done | fail)))) rfl rfl; rotate_left 1; (· ((repeat (first | exact EW.atE.nil | refine EW.atE.lt rfl ?_ | refine EW.atE.lf ?_ | refine EW.atE.b rfl EW.SameB.refl ?_ | (refine EW.atE.b rfl ?_ ?_; rotate_left 1))))))
  all_goals rfl
theorem planes_nil (ol : Bool) (p : Int) (a b : Vx) (l : List Vx) (d e x0 x1 x2 x3 f ce : Int) (mb : Bool) (hl : l.length ≤ 110) (hD : DST p a.val d e) (hRD : RDS p a.val d e) (hX : CRS p a.val b.val (V4 x0 x1 x2 x3) f) (hRX : RCR p a.val b.val (V4 x0 x1 x2 x3) f) (hM : MAY a.val mb) (hRM : RMY a.val mb)
    (hC : CT Try.prog 18 [.c (.g 0 0 l.length l.length 4), .c (.v (.int .i64 p))] (upd EW.emp (WF ol l)) 1 1 (.t [.inl (.v (.slice none 0 0)), .inl (.v (.int .i64 ce))]) (upd (upd EW.emp (WF ol l)) []))
    (hR : CT Try.prog 19 [.c (.g 0 0 l.length l.length 4), .c (.v (.int .i64 p))] (upd EW.emp (WF ol l)) 1 1 (.t [.inl (.v (.slice none 0 0)), .inl (.v (.int .i64 ce))]) (upd (upd EW.emp (WF ol l)) [])) :
    CT Try.prog 5 [.c (.v (.int .i64 p)), .a a.cs, .a b.cs, .c (.g 0 0 l.length l.length 4)] (upd EW.emp (WF ol l)) 1 1 (.c (.v (.bool true))) (upd (upd EW.emp (WF ol l)) []) := by
  obtain ⟨a0, a1, a2, a3⟩ := a
  obtain ⟨b0, b1, b2, b3⟩ := b
  have hCC := hC
  have hRR := hR
  clear hC hR
  cases mb
  all_goals
    refine EW.ctEnter [10, 20, 30, 40, 50, 60, 70, 80, 90, 100, 110, 120, 130, 140, 150, 160, 170, 180, 190, 200, 210, 220, 230, 240, 250, 260, 270, 280, 290, 300, 310, 320, 330, 340, 350, 360, 370, 380, 390, 400, 410, 420, 430, 440, 450, 460, 470, 480, 490, 500, 510, 520, 530, 540, 550, 560, 570, 580, 590, 600] Try.func5 rfl Try.ntmps5 rfl (by (((repeat (first | exact EW.NL.emp | (refine EW.NL.upd ?_ rfl) | refine EW.NL.drp ?_ | refine EW.NL.hp ?_ | refine EW.NL.argS ?_ | refine EW.NL.mix ?_)); (first | done | fail)))) ?_; intro w0 tch ini R hR
    all_goals try (refine EW.nm ?_)
    all_goals try ((first | refine EW.eRegL (id := 0) ?_ | refine EW.eReg (id := 0) ?_); refine EW.eBox ?_; refine EW.eBox ?_; refine EW.eAssign ?_; refine EW.eEnd ?_; (try refine EW.nm ?_))
    all_goals try ((first | refine EW.eRegL (id := 1) ?_ | refine EW.eReg (id := 1) ?_); refine EW.eMove ?_; (first | refine EW.eLenS ?_ | refine EW.eLenG ?_ | refine EW.eLenN ?_); refine EW.eGtr ?_; refine EW.eEnd ?_; (try refine EW.nm ?_))
    all_goals try (first | refine EW.eYes (x := Operand.tmp 23) ?_ | refine EW.eNo (x := Operand.tmp 23) ?_ | (refine EW.eCond (x := Operand.tmp 23) ?_ ?_ <;> (intro hb hb'; (try dsimp only at hb'); (try (exfalso; first | omega | with_reducible exact absurd rfl hb')))))
    all_goals try (refine EW.nm ?_)
    all_goals try ((first | refine EW.eRegL (id := 2) ?_ | refine EW.eReg (id := 2) ?_); refine EW.eAssign ?_; refine EW.eEnd ?_; (try refine EW.nm ?_))
    all_goals try ((first | refine EW.eRegL (id := 3) ?_ | refine EW.eReg (id := 3) ?_); refine EW.eMove ?_; refine EW.eLoadA (k := 4) ?_; refine EW.eCall Try.call11 (fun w => hD w) ?_; refine EW.eMove ?_; (first | refine EW.eExtC ?_ | refine EW.eExtA ?_); (first | refine EW.eExtC ?_ | refine EW.eExtA ?_); refine EW.eAssign ?_; refine EW.eAssign ?_; refine EW.eEnd ?_; (try refine EW.nm ?_))
    all_goals try ((first | refine EW.eRegL (id := 4) ?_ | refine EW.eReg (id := 4) ?_); refine EW.eMove ?_; refine EW.eLoadA (k := 4) ?_; refine EW.eCall Try.call16 (fun w => hRD w) ?_; refine EW.eMove ?_; (first | refine EW.eExtC ?_ | refine EW.eExtA ?_); (first | refine EW.eExtC ?_ | refine EW.eExtA ?_); refine EW.eAssign ?_; refine EW.eAssign ?_; refine EW.eEnd ?_; (try refine EW.nm ?_))
    all_goals try ((first | refine EW.eRegL (id := 5) ?_ | refine EW.eReg (id := 5) ?_); refine EW.eMove ?_; refine EW.eLoadA (k := 4) ?_; refine EW.eLoadA (k := 4) ?_; refine EW.eCall Try.call10 (fun w => hX w) ?_; refine EW.eMove ?_; (first | refine EW.eExtC ?_ | refine EW.eExtA ?_); (first | refine EW.eExtC ?_ | refine EW.eExtA ?_); refine EW.eAlloc ?_; (first | refine EW.eStoreW (k := 4) ?_ | refine EW.eStore (k := 4) ?_); refine EW.eAssign ?_; refine EW.eEnd ?_; (try refine EW.nm ?_))
    all_goals try ((first | refine EW.eRegL (id := 6) ?_ | refine EW.eReg (id := 6) ?_); refine EW.eMove ?_; refine EW.eLoadA (k := 4) ?_; refine EW.eLoadA (k := 4) ?_; refine EW.eCall Try.call17 (fun w => hRX w) ?_; refine EW.eMove ?_; (first | refine EW.eExtC ?_ | refine EW.eExtA ?_); (first | refine EW.eExtC ?_ | refine EW.eExtA ?_); refine EW.eAlloc ?_; (first | refine EW.eStoreW (k := 4) ?_ | refine EW.eStore (k := 4) ?_); refine EW.eAssign ?_; refine EW.eEnd ?_; (try refine EW.nm ?_))
    all_goals try ((first | refine EW.eRegL (id := 7) ?_ | refine EW.eReg (id := 7) ?_); refine EW.eMove ?_; refine EW.eMove ?_; refine EW.eCallN [0] Try.call18 (hCC) ?_; refine EW.eMove ?_; (first | refine EW.eExtC ?_ | refine EW.eExtA ?_); (first | refine EW.eExtC ?_ | refine EW.eExtA ?_); refine EW.eAssign ?_; refine EW.eAssign ?_; refine EW.eEnd ?_; (try refine EW.nm ?_))
    all_goals try ((first | refine EW.eRegL (id := 8) ?_ | refine EW.eReg (id := 8) ?_); refine EW.eMove ?_; refine EW.eMove ?_; refine EW.eCallN [0] Try.call19 (hRR) ?_; refine EW.eMove ?_; (first | refine EW.eExtC ?_ | refine EW.eExtA ?_); (first | refine EW.eExtC ?_ | refine EW.eExtA ?_); refine EW.eAssign ?_; refine EW.eAssign ?_; refine EW.eEnd ?_; (try refine EW.nm ?_))
    all_goals try ((first | refine EW.eRegL (id := 9) ?_ | refine EW.eReg (id := 9) ?_); refine EW.eMove ?_; refine EW.eMove ?_; refine EW.eEql ?_; refine EW.eMove ?_)
    all_goals try (refine EW.eGuard (j := 3) (o := ⟨some 66, _, _, _, _, _⟩) ?_ ?_ <;> (intro hb hb'; (try dsimp only at hb'); (try (exfalso; first | omega | with_reducible exact absurd rfl hb'))))
    all_goals try ((first | refine EW.eSkipT (j := 3) ?_ | refine EW.eSkipU (j := 3) ?_ | refine EW.eMove ?_); (first | refine EW.eSkipT (j := 3) ?_ | refine EW.eSkipU (j := 3) ?_ | refine EW.eMove ?_); (first | refine EW.eSkipT (j := 3) ?_ | refine EW.eSkipU (j := 3) ?_ | refine EW.eEql ?_); (first | refine EW.ePickT ?_ | refine EW.ePickF ?_); refine EW.eMove ?_)
    all_goals try (refine EW.eGuard (j := 8) (o := ⟨some 71, _, _, _, _, _⟩) ?_ ?_ <;> (intro hb hb'; (try dsimp only at hb'); (try (exfalso; first | omega | with_reducible exact absurd rfl hb'))))
    all_goals try ((first | refine EW.eSkipT (j := 8) ?_ | refine EW.eSkipU (j := 8) ?_ | refine EW.eLoadA (k := 4) ?_); (first | refine EW.eSkipT (j := 8) ?_ | refine EW.eSkipU (j := 8) ?_ | refine EW.eLoadA (k := 4) ?_); (first | refine EW.eSkipT (j := 8) ?_ | refine EW.eSkipU (j := 8) ?_ | refine EW.eEqlA ?_); (first | refine EW.ePickT ?_ | refine EW.ePickF ?_); refine EW.eMove ?_)
    all_goals try (refine EW.eGuard (j := 13) (o := ⟨some 76, _, _, _, _, _⟩) ?_ ?_ <;> (intro hb hb'; (try dsimp only at hb'); (try (exfalso; first | omega | with_reducible exact absurd rfl hb'))))
    all_goals try ((first | refine EW.eSkipT (j := 13) ?_ | refine EW.eSkipU (j := 13) ?_ | refine EW.eMove ?_); (first | refine EW.eSkipT (j := 13) ?_ | refine EW.eSkipU (j := 13) ?_ | refine EW.eMove ?_); (first | refine EW.eSkipT (j := 13) ?_ | refine EW.eSkipU (j := 13) ?_ | refine EW.eEql ?_); (first | refine EW.ePickT ?_ | refine EW.ePickF ?_); refine EW.eMove ?_)
    all_goals try (refine EW.eGuard (j := 18) (o := ⟨some 81, _, _, _, _, _⟩) ?_ ?_ <;> (intro hb hb'; (try dsimp only at hb'); (try (exfalso; first | omega | with_reducible exact absurd rfl hb'))))
    all_goals try ((first | refine EW.eSkipT (j := 18) ?_ | refine EW.eSkipU (j := 18) ?_ | refine EW.eMove ?_); (first | refine EW.eSkipT (j := 18) ?_ | refine EW.eSkipU (j := 18) ?_ | refine EW.eMove ?_); (first | refine EW.eSkipT (j := 18) ?_ | refine EW.eSkipU (j := 18) ?_ | refine EW.eCall Try.call15 (fun w => vsame_nil w) ?_); (first | refine EW.ePickT ?_ | refine EW.ePickF ?_); refine EW.eMove ?_)
    all_goals try (refine EW.eGuard (j := 23) (o := ⟨some 86, _, _, _, _, _⟩) ?_ ?_ <;> (intro hb hb'; (try dsimp only at hb'); (try (exfalso; first | omega | with_reducible exact absurd rfl hb'))))
    all_goals try ((first | refine EW.eSkipT (j := 23) ?_ | refine EW.eSkipU (j := 23) ?_ | refine EW.eMove ?_); (first | refine EW.eSkipT (j := 23) ?_ | refine EW.eSkipU (j := 23) ?_ | refine EW.eMove ?_); (first | refine EW.eSkipT (j := 23) ?_ | refine EW.eSkipU (j := 23) ?_ | refine EW.eEql ?_); (first | refine EW.ePickT ?_ | refine EW.ePickF ?_); refine EW.eMove ?_)
    all_goals try (refine EW.eGuard (j := 28) (o := ⟨some 91, _, _, _, _, _⟩) ?_ ?_ <;> (intro hb hb'; (try dsimp only at hb'); (try (exfalso; first | omega | with_reducible exact absurd rfl hb'))))
    all_goals try ((first | refine EW.eSkipT (j := 28) ?_ | refine EW.eSkipU (j := 28) ?_ | refine EW.eLoadA (k := 4) ?_); (first | refine EW.eSkipT (j := 28) ?_ | refine EW.eSkipU (j := 28) ?_ | refine EW.eCall Try.call20 (fun w => hM w) ?_); (first | refine EW.eSkipT (j := 28) ?_ | refine EW.eSkipU (j := 28) ?_ | refine EW.eLoadA (k := 4) ?_); (first | refine EW.eSkipT (j := 28) ?_ | refine EW.eSkipU (j := 28) ?_ | refine EW.eCall Try.call21 (fun w => hRM w) ?_); (first | refine EW.eSkipT (j := 28) ?_ | refine EW.eSkipU (j := 28) ?_ | refine EW.eEqlB ?_); (first | refine EW.ePickT ?_ | refine EW.ePickF ?_); refine EW.eAssign ?_; refine EW.eDraw ?_; (try refine EW.nm ?_))
  all_goals (refine EW.eLeaveN [] hR (by first | exact .inl rfl | exact .inr rfl) (by rfl) (by rfl) ?_ ?_ rfl rfl (by (((repeat (first | exact EW.NL.emp | (refine EW.NL.upd ?_ rfl) | refine EW.NL.drp ?_ | refine EW.NL.hp ?_ | refine EW.NL.argS ?_ | refine EW.NL.mix ?_)); (first | done | fail)))) rfl rfl; rotate_left 1; (· ((repeat (first | exact EW.atE.nil | refine EW.atE.lt rfl ?_ | refine EW.atE.lf ?_ | refine EW.atE.b rfl EW.SameB.refl ?_ | (refine EW.atE.b rfl ?_ ?_; rotate_left 1))))))
  all_goals rfl
theorem planes_ok (ol : Bool) (p : Int) (a b : Vx) (l : List Vx) (d e x0 x1 x2 x3 f : Int) (mb : Bool) (p0 : 0 ≤ p) (p1 : p < 7) (hl : l.length ≤ 100) (hs : ∀ v ∈ l, v.sm) (hD : DST p a.val d e) (hRD : RDS p a.val d e) (hX : CRS p a.val b.val (V4 x0 x1 x2 x3) f) (hRX : RCR p a.val b.val (V4 x0 x1 x2 x3) f) (hM : MAY a.val mb) (hRM : RMY a.val mb) :
    CT Try.prog 5 [.c (.v (.int .i64 p)), .a a.cs, .a b.cs, .c (.g 0 0 l.length l.length 4)] (upd EW.emp (WF ol l)) 1 1 (.c (.v (.bool true))) (upd (upd EW.emp (WF ol l)) []) := by
  have hn := cutL_len p l
  have hCC := Cut_ok ol p l p0 p1 hl hs
  have hRR := rCut_ok ol p l p0 p1 hl hs
  have hSS := vsame_self true true (cutL p l) (by omega)
  generalize cutL p l = L at *
  obtain ⟨a0, a1, a2, a3⟩ := a
  obtain ⟨b0, b1, b2, b3⟩ := b
  cases mb
  all_goals
    refine EW.ctEnter [10, 20, 30, 40, 50, 60, 70, 80, 90, 100, 110, 120, 130, 140, 150, 160, 170, 180, 190, 200, 210, 220, 230, 240, 250, 260, 270, 280, 290, 300, 310, 320, 330, 340, 350, 360, 370, 380, 390, 400, 410, 420, 430, 440, 450, 460, 470, 480, 490, 500, 510, 520, 530, 540, 550, 560, 570, 580, 590, 600] Try.func5 rfl Try.ntmps5 rfl (by (((repeat (first | exact EW.NL.emp | (refine EW.NL.upd ?_ rfl) | refine EW.NL.drp ?_ | refine EW.NL.hp ?_ | refine EW.NL.argS ?_ | refine EW.NL.mix ?_)); (first | done | fail)))) ?_; intro w0 tch ini R hR
    all_goals try (refine EW.nm ?_)
    all_goals try ((first | refine EW.eRegL (id := 0) ?_ | refine EW.eReg (id := 0) ?_); refine EW.eBox ?_; refine EW.eBox ?_; refine EW.eAssign ?_; refine EW.eEnd ?_; (try refine EW.nm ?_))
    all_goals try ((first | refine EW.eRegL (id := 1) ?_ | refine EW.eReg (id := 1) ?_); refine EW.eMove ?_; (first | refine EW.eLenS ?_ | refine EW.eLenG ?_ | refine EW.eLenN ?_); refine EW.eGtr ?_; refine EW.eEnd ?_; (try refine EW.nm ?_))
    all_goals try (first | refine EW.eYes (x := Operand.tmp 23) ?_ | refine EW.eNo (x := Operand.tmp 23) ?_ | (refine EW.eCond (x := Operand.tmp 23) ?_ ?_ <;> (intro hb hb'; (try dsimp only at hb'); (try (exfalso; first | omega | with_reducible exact absurd rfl hb')))))
    all_goals try (refine EW.nm ?_)
    all_goals try ((first | refine EW.eRegL (id := 2) ?_ | refine EW.eReg (id := 2) ?_); refine EW.eAssign ?_; refine EW.eEnd ?_; (try refine EW.nm ?_))
    all_goals try ((first | refine EW.eRegL (id := 3) ?_ | refine EW.eReg (id := 3) ?_); refine EW.eMove ?_; refine EW.eLoadA (k := 4) ?_; refine EW.eCall Try.call11 (fun w => hD w) ?_; refine EW.eMove ?_; (first | refine EW.eExtC ?_ | refine EW.eExtA ?_); (first | refine EW.eExtC ?_ | refine EW.eExtA ?_); refine EW.eAssign ?_; refine EW.eAssign ?_; refine EW.eEnd ?_; (try refine EW.nm ?_))
    all_goals try ((first | refine EW.eRegL (id := 4) ?_ | refine EW.eReg (id := 4) ?_); refine EW.eMove ?_; refine EW.eLoadA (k := 4) ?_; refine EW.eCall Try.call16 (fun w => hRD w) ?_; refine EW.eMove ?_; (first | refine EW.eExtC ?_ | refine EW.eExtA ?_); (first | refine EW.eExtC ?_ | refine EW.eExtA ?_); refine EW.eAssign ?_; refine EW.eAssign ?_; refine EW.eEnd ?_; (try refine EW.nm ?_))
    all_goals try ((first | refine EW.eRegL (id := 5) ?_ | refine EW.eReg (id := 5) ?_); refine EW.eMove ?_; refine EW.eLoadA (k := 4) ?_; refine EW.eLoadA (k := 4) ?_; refine EW.eCall Try.call10 (fun w => hX w) ?_; refine EW.eMove ?_; (first | refine EW.eExtC ?_ | refine EW.eExtA ?_); (first | refine EW.eExtC ?_ | refine EW.eExtA ?_); refine EW.eAlloc ?_; (first | refine EW.eStoreW (k := 4) ?_ | refine EW.eStore (k := 4) ?_); refine EW.eAssign ?_; refine EW.eEnd ?_; (try refine EW.nm ?_))
    all_goals try ((first | refine EW.eRegL (id := 6) ?_ | refine EW.eReg (id := 6) ?_); refine EW.eMove ?_; refine EW.eLoadA (k := 4) ?_; refine EW.eLoadA (k := 4) ?_; refine EW.eCall Try.call17 (fun w => hRX w) ?_; refine EW.eMove ?_; (first | refine EW.eExtC ?_ | refine EW.eExtA ?_); (first | refine EW.eExtC ?_ | refine EW.eExtA ?_); refine EW.eAlloc ?_; (first | refine EW.eStoreW (k := 4) ?_ | refine EW.eStore (k := 4) ?_); refine EW.eAssign ?_; refine EW.eEnd ?_; (try refine EW.nm ?_))
    all_goals try ((first | refine EW.eRegL (id := 7) ?_ | refine EW.eReg (id := 7) ?_); refine EW.eMove ?_; refine EW.eMove ?_; refine EW.eCallN [0] Try.call18 (hCC) ?_; refine EW.eMove ?_; (first | refine EW.eExtC ?_ | refine EW.eExtA ?_); (first | refine EW.eExtC ?_ | refine EW.eExtA ?_); refine EW.eAssign ?_; refine EW.eAssign ?_; refine EW.eEnd ?_; (try refine EW.nm ?_))
    all_goals try ((first | refine EW.eRegL (id := 8) ?_ | refine EW.eReg (id := 8) ?_); refine EW.eMove ?_; refine EW.eMove ?_; refine EW.eCallN [0] Try.call19 (hRR) ?_; refine EW.eMove ?_; (first | refine EW.eExtC ?_ | refine EW.eExtA ?_); (first | refine EW.eExtC ?_ | refine EW.eExtA ?_); refine EW.eAssign ?_; refine EW.eAssign ?_; refine EW.eEnd ?_; (try refine EW.nm ?_))
    all_goals try ((first | refine EW.eRegL (id := 9) ?_ | refine EW.eReg (id := 9) ?_); refine EW.eMove ?_; refine EW.eMove ?_; refine EW.eEql ?_; refine EW.eMove ?_)
    all_goals try (refine EW.eGuard (j := 3) (o := ⟨some 66, _, _, _, _, _⟩) ?_ ?_ <;> (intro hb hb'; (try dsimp only at hb'); (try (exfalso; first | omega | with_reducible exact absurd rfl hb'))))
    all_goals try ((first | refine EW.eSkipT (j := 3) ?_ | refine EW.eSkipU (j := 3) ?_ | refine EW.eMove ?_); (first | refine EW.eSkipT (j := 3) ?_ | refine EW.eSkipU (j := 3) ?_ | refine EW.eMove ?_); (first | refine EW.eSkipT (j := 3) ?_ | refine EW.eSkipU (j := 3) ?_ | refine EW.eEql ?_); (first | refine EW.ePickT ?_ | refine EW.ePickF ?_); refine EW.eMove ?_)
    all_goals try (refine EW.eGuard (j := 8) (o := ⟨some 71, _, _, _, _, _⟩) ?_ ?_ <;> (intro hb hb'; (try dsimp only at hb'); (try (exfalso; first | omega | with_reducible exact absurd rfl hb'))))
    all_goals try ((first | refine EW.eSkipT (j := 8) ?_ | refine EW.eSkipU (j := 8) ?_ | refine EW.eLoadA (k := 4) ?_); (first | refine EW.eSkipT (j := 8) ?_ | refine EW.eSkipU (j := 8) ?_ | refine EW.eLoadA (k := 4) ?_); (first | refine EW.eSkipT (j := 8) ?_ | refine EW.eSkipU (j := 8) ?_ | refine EW.eEqlA ?_); (first | refine EW.ePickT ?_ | refine EW.ePickF ?_); refine EW.eMove ?_)
    all_goals try (refine EW.eGuard (j := 13) (o := ⟨some 76, _, _, _, _, _⟩) ?_ ?_ <;> (intro hb hb'; (try dsimp only at hb'); (try (exfalso; first | omega | with_reducible exact absurd rfl hb'))))
    all_goals try ((first | refine EW.eSkipT (j := 13) ?_ | refine EW.eSkipU (j := 13) ?_ | refine EW.eMove ?_); (first | refine EW.eSkipT (j := 13) ?_ | refine EW.eSkipU (j := 13) ?_ | refine EW.eMove ?_); (first | refine EW.eSkipT (j := 13) ?_ | refine EW.eSkipU (j := 13) ?_ | refine EW.eEql ?_); (first | refine EW.ePickT ?_ | refine EW.ePickF ?_); refine EW.eMove ?_)
    all_goals try (refine EW.eGuard (j := 18) (o := ⟨some 81, _, _, _, _, _⟩) ?_ ?_ <;> (intro hb hb'; (try dsimp only at hb'); (try (exfalso; first | omega | with_reducible exact absurd rfl hb'))))
    all_goals try ((first | refine EW.eSkipT (j := 18) ?_ | refine EW.eSkipU (j := 18) ?_ | refine EW.eMove ?_); (first | refine EW.eSkipT (j := 18) ?_ | refine EW.eSkipU (j := 18) ?_ | refine EW.eMove ?_); (first | refine EW.eSkipT (j := 18) ?_ | refine EW.eSkipU (j := 18) ?_ | refine EW.eCallN [50, 60] Try.call15 (hSS) ?_); (first | refine EW.ePickT ?_ | refine EW.ePickF ?_); refine EW.eMove ?_)
    all_goals try (refine EW.eGuard (j := 23) (o := ⟨some 86, _, _, _, _, _⟩) ?_ ?_ <;> (intro hb hb'; (try dsimp only at hb'); (try (exfalso; first | omega | with_reducible exact absurd rfl hb'))))
    all_goals try ((first | refine EW.eSkipT (j := 23) ?_ | refine EW.eSkipU (j := 23) ?_ | refine EW.eMove ?_); (first | refine EW.eSkipT (j := 23) ?_ | refine EW.eSkipU (j := 23) ?_ | refine EW.eMove ?_); (first | refine EW.eSkipT (j := 23) ?_ | refine EW.eSkipU (j := 23) ?_ | refine EW.eEql ?_); (first | refine EW.ePickT ?_ | refine EW.ePickF ?_); refine EW.eMove ?_)
    all_goals try (refine EW.eGuard (j := 28) (o := ⟨some 91, _, _, _, _, _⟩) ?_ ?_ <;> (intro hb hb'; (try dsimp only at hb'); (try (exfalso; first | omega | with_reducible exact absurd rfl hb'))))
    all_goals try ((first | refine EW.eSkipT (j := 28) ?_ | refine EW.eSkipU (j := 28) ?_ | refine EW.eLoadA (k := 4) ?_); (first | refine EW.eSkipT (j := 28) ?_ | refine EW.eSkipU (j := 28) ?_ | refine EW.eCall Try.call20 (fun w => hM w) ?_); (first | refine EW.eSkipT (j := 28) ?_ | refine EW.eSkipU (j := 28) ?_ | refine EW.eLoadA (k := 4) ?_); (first | refine EW.eSkipT (j := 28) ?_ | refine EW.eSkipU (j := 28) ?_ | refine EW.eCall Try.call21 (fun w => hRM w) ?_); (first | refine EW.eSkipT (j := 28) ?_ | refine EW.eSkipU (j := 28) ?_ | refine EW.eEqlB ?_); (first | refine EW.ePickT ?_ | refine EW.ePickF ?_); refine EW.eAssign ?_; refine EW.eDraw ?_; (try refine EW.nm ?_))
  all_goals (refine EW.eLeaveN [] hR (by first | exact .inl rfl | exact .inr rfl) (by rfl) (by rfl) ?_ ?_ rfl rfl (by (((repeat (first | exact EW.NL.emp | (refine EW.NL.upd ?_ rfl) | refine EW.NL.drp ?_ | refine EW.NL.hp ?_ | refine EW.NL.argS ?_ | refine EW.NL.mix ?_)); (first | done | fail)))) rfl rfl; rotate_left 1; (· ((repeat (first | exact EW.atE.nil | refine EW.atE.lt rfl ?_ | refine EW.atE.lf ?_ | refine EW.atE.b rfl EW.SameB.refl ?_ | (refine EW.atE.b rfl ?_ ?_; rotate_left 1))))))
  all_goals rfl
theorem first_bad {p : Nat → Prop} [DecidablePred p] : ∀ {n : Nat}, ¬ (∀ t, t < n → p t) → ∃ t, t < n ∧ (∀ i, i < t → p i) ∧ ¬ p t
  | 0, h => absurd (fun t ht => by omega) h
  | n + 1, h => by
    by_cases h' : ∀ t, t < n → p t
    · refine ⟨n, by omega, h', fun hn => h fun t ht => ?_⟩
      rcases Nat.lt_or_ge t n with h1 | h1
      · exact h' t h1
      · obtain rfl : t = n := by omega
        exact hn
    · obtain ⟨t, h1, h2, h3⟩ := first_bad h'
      exact ⟨t, by omega, h2, h3⟩
theorem sm_or (l : List Vx) : (∀ v ∈ l, v.sm) ∨ ∃ t, t < l.length ∧ (∀ i, i < t → (l.getD i Vx.zero).sm) ∧ ¬ (l.getD t Vx.zero).sm := by
  by_cases h : ∀ t, t < l.length → (l.getD t Vx.zero).sm
  · left
    intro v hv
    obtain ⟨i, hi, rfl⟩ := List.getElem_of_mem hv
    have := h i hi
    rwa [List.getD_eq_getElem?_getD, List.getElem?_eq_getElem hi] at this
  · exact .inr (first_bad h)
theorem planes (ol : Bool) (p : Int) (a b : Vx) (l : List Vx) : CT Try.prog 5 [.c (.v (.int .i64 p)), .a a.cs, .a b.cs, .c (.g 0 0 l.length l.length 4)] (upd EW.emp (WF ol l)) 1 1 (.c (.v (.bool true))) (upd (upd EW.emp (WF ol l)) []) := by
  rcases Nat.lt_or_ge 110 l.length with hl | hl
  · exact planes_far ol p a b l hl
  have hM : MAY a.val (decide a.sm) := fun w => cmay a.x a.y a.z a.q w
  have hRM : RMY a.val (decide a.sm) := fun w => rmay a.x a.y a.z a.q w
  rcases Int.lt_or_le p 0 with h0 | h0
  · exact planes_nil ol p a b l 0 2 0 0 0 0 2 2 _ hl (dst_arg _ _ _ _ _ (.inl h0)) (rdst_arg _ _ _ _ _ (.inl h0)) (Cross_arg _ _ _ _ _ _ _ _ _ (dst_arg _ _ _ _ _ (.inl h0)) (dst_arg _ _ _ _ _ (.inl h0))) (rCross_e1 _ _ _ _ _ _ _ _ _ _ _ (by decide) (rdst_arg _ _ _ _ _ (.inl h0))) hM hRM (Cut_arg ol p l (by omega) (.inl h0)) (rCut_arg ol p l (by omega) (.inl h0))
  rcases (Int.lt_or_le p 7).symm with h7 | h7
  · exact planes_nil ol p a b l 0 2 0 0 0 0 2 2 _ hl (dst_arg _ _ _ _ _ (.inr h7)) (rdst_arg _ _ _ _ _ (.inr h7)) (Cross_arg _ _ _ _ _ _ _ _ _ (dst_arg _ _ _ _ _ (.inr h7)) (dst_arg _ _ _ _ _ (.inr h7))) (rCross_e1 _ _ _ _ _ _ _ _ _ _ _ (by decide) (rdst_arg _ _ _ _ _ (.inr h7))) hM hRM (Cut_arg ol p l (by omega) (.inr (.inl h7))) (rCut_arg ol p l (by omega) (.inr (.inl h7)))
  have hDE : ∃ d e, DST p a.val d e ∧ RDS p a.val d e := by
    by_cases ha : a.sm
    · exact ⟨_, _, dst_ok p _ _ _ _ h0 h7 ha, rdst_ok p _ _ _ _ h0 h7 ha⟩
    · exact ⟨_, _, dst_no p _ _ _ _ h0 h7 ha, rdst_no p _ _ _ _ h0 h7 ha⟩
  have hXE : ∃ x0 x1 x2 x3 f, CRS p a.val b.val (V4 x0 x1 x2 x3) f ∧ RCR p a.val b.val (V4 x0 x1 x2 x3) f := by
    by_cases ha : a.sm
    · by_cases hB : b.sm
      · have dA := dst_ok p _ _ _ _ h0 h7 ha
        have dB := dst_ok p _ _ _ _ h0 h7 hB
        have rA := rdst_ok p _ _ _ _ h0 h7 ha
        have rB := rdst_ok p _ _ _ _ h0 h7 hB
        by_cases hs : a.ds p < 0 ↔ b.ds p < 0
        · exact ⟨_, _, _, _, _, Cross_same p _ _ _ _ _ _ _ _ _ _ dA dB hs, rCross_same p _ _ _ _ _ _ _ _ _ _ rA rB hs⟩
        · rcases Int.lt_or_le (a.ds p) 0 with h | h
          · have hq : 0 ≤ b.ds p := by omega
            exact ⟨_, _, _, _, _, Cross_neg p _ _ _ _ _ _ _ _ _ _ _ _ _ _ dA dB h hq (fun w => ccross p _ _ _ _ _ _ _ _ (b.ds p) (a.ds p) w hB ha rfl rfl hq h), rCross_neg p _ _ _ _ _ _ _ _ _ _ _ _ _ _ rA rB h hq (fun w => rcrossV p b a w h0 h7 hB ha hq h)⟩
          · have hq : b.ds p < 0 := by omega
            exact ⟨_, _, _, _, _, Cross_pos p _ _ _ _ _ _ _ _ _ _ _ _ _ _ dA dB h hq (fun w => ccross p _ _ _ _ _ _ _ _ (a.ds p) (b.ds p) w ha hB rfl rfl h hq), rCross_pos p _ _ _ _ _ _ _ _ _ _ _ _ _ _ rA rB h hq (fun w => rcrossV p a b w h0 h7 ha hB h hq)⟩
      · exact ⟨_, _, _, _, _, Cross_e2 p _ _ _ _ _ _ _ _ _ _ (dst_ok p _ _ _ _ h0 h7 ha) (dst_no p _ _ _ _ h0 h7 hB), rCross_e2 p _ _ _ _ _ _ _ _ _ _ _ (by decide) (rdst_ok p _ _ _ _ h0 h7 ha) (rdst_no p _ _ _ _ h0 h7 hB)⟩
    · have hg : ∃ f g, DST p b.val f g := by
        by_cases hB : b.sm
        · exact ⟨_, _, dst_ok p _ _ _ _ h0 h7 hB⟩
        · exact ⟨_, _, dst_no p _ _ _ _ h0 h7 hB⟩
      obtain ⟨f, g, hg⟩ := hg
      exact ⟨_, _, _, _, _, Cross_e1 p _ _ _ _ _ _ _ _ _ _ _ (dst_no p _ _ _ _ h0 h7 ha) hg, rCross_e1 p _ _ _ _ _ _ _ _ _ _ (by decide) (rdst_no p _ _ _ _ h0 h7 ha)⟩
  obtain ⟨d, e, hD, hRD⟩ := hDE
  obtain ⟨x0, x1, x2, x3, f, hX, hRX⟩ := hXE
  rcases Nat.lt_or_ge 100 l.length with hl2 | hl2
  · exact planes_nil ol p a b l d e x0 x1 x2 x3 f 2 _ hl hD hRD hX hRX hM hRM (Cut_arg ol p l (by omega) (.inr (.inr hl2))) (rCut_arg ol p l (by omega) (.inr (.inr hl2)))
  rcases sm_or l with hs | ⟨t, h1, h2, h3⟩
  · exact planes_ok ol p a b l d e x0 x1 x2 x3 f _ h0 h7 hl2 hs hD hRD hX hRX hM hRM
  · exact planes_nil ol p a b l d e x0 x1 x2 x3 f 90 _ hl hD hRD hX hRX hM hRM (Cut_no ol p l t h0 h7 hl2 h1 h2 h3) (rCut_no ol p l t h0 h7 hl2 h1 h2 h3)
theorem vx_of_rows : ∀ {rows : List (List Value)}, (∀ s ∈ rows, Fit [.i .i64, .i .i64, .i .i64, .i .i64] s) → ∃ l : List Vx, l.length = rows.length ∧ rows.flatten = vvs l
  | [], _ => ⟨[], rfl, rfl⟩
  | r :: rows, h => by
    obtain ⟨l, h1, h2⟩ := vx_of_rows (rows := rows) (fun s hs => h s (by simp [hs]))
    obtain ⟨z, _, rfl, _, _, o, _, rfl, _, _, t, _, rfl, _, _, c, _, rfl, _, _, rfl⟩ := h r (by simp)
    exact ⟨⟨z, o, t, c⟩ :: l, by simp [h1], by rw [List.flatten_cons, h2]; rfl⟩
theorem vvs_one (l : List Vx) : ∀ x ∈ vvs l, x.oneCell' = true := by
  intro x hx
  simp only [vvs, List.mem_flatMap] at hx
  obtain ⟨p, _, hx⟩ := hx
  simp only [List.mem_cons, List.not_mem_nil, or_false] at hx
  rcases hx with rfl | rfl | rfl | rfl <;> rfl
theorem planes_row (W : World) (p a0 a1 a2 a3 b0 b1 b2 b3 : Int) {b off len room : Nat} {rows : List (List Value)} {v : Value} (hl : rows.length = len) (ft : ∀ s ∈ rows, Fit [.i .i64, .i .i64, .i .i64, .i .i64] s) (sr : SrcG W b off room rows.flatten) (hv : InG v b off len room 4) :
    Calls Try.prog 5 #[.int .i64 p, V4 a0 a1 a2 a3, V4 b0 b1 b2 b3, v] W fun e w' => e = .returned (.bool true) ∧ Below W.heap.size W w' := by
  obtain ⟨l, h1, h2⟩ := vx_of_rows ft
  rw [h2] at sr
  obtain rfl : l.length = len := by omega
  have := calls_rowsG (us := [.int .i64 p, V4 a0 a1 a2 a3, V4 b0 b1 b2 b3, v]) (Ls := [vvs l]) (A := [(b, off, room)]) (w := W) (planes false p ⟨a0, a1, a2, a3⟩ ⟨b0, b1, b2, b3⟩ l) rfl (by decide)
    (fun i L hi => by
      match i, hi with
      | 0, hi => simp only [List.getElem?_cons_zero, Option.some.injEq] at hi; subst hi; exact ⟨sr, vvs_one l⟩
      | i + 1, hi => simp at hi)
    (okvs_plain .c rfl (okvs_plain (.a (.cons (.cons (.cons (.cons .nil))))) rfl (okvs_plain (.a (.cons (.cons (.cons (.cons .nil))))) rfl (okvs_sliceG rfl hv okvs_nil))))
    (fun v hv n hn => by
      simp only [List.mem_cons, List.not_mem_nil, or_false] at hv
      rcases hv with rfl | rfl | rfl | rfl <;> simp [V.names, C.names, List.flatMap_cons] at hn <;> simp [hn])
  exact this
end Go.Proofs.Ytleelfdpefmnnaa
