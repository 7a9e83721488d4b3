/- ImageOne: the walk. -/
import Derived.Test.YtflgamohploalaaHImV
import Derived.Test.YtflgamohploalaaHImS
namespace Go.Proofs.Ytflgamohploalaa
set_option linter.unusedSimpArgs false
set_option linter.unusedVariables false
open Go.RowKit Go.ChangeShapes Go.WideShapes EV
open SX (Wr Tv Qu Rm Sh Is conjP eqs_iff eqs_false)
open EW (PlL PlT PlV PlVs LfV Mm Bt Opn GV YT lpOf nums)
set_option maxRecDepth 20000
abbrev OneP (xs : List Px) (f : Fg) (w h : Int) : Prop := CT Try.prog 6 [.a (imC 0 w h xs.length), .a (fcl f)] (upd EW.emp (WP false xs)) 1 1 (.c (.v (.bool true))) (upd (upd EW.emp (WP false xs)) [])
theorem one_far (xs : List Px) (f : Fg) (w h : Int) (hx : 5000 < xs.length) : OneP xs f w h := by
  have hG := igreat_y false xs w h hx
  refine EW.ctEnter [10, 20, 30, 40, 50, 60, 70, 80, 90, 100, 110, 120, 130, 140, 150, 160, 170, 180, 190, 200, 210, 220, 230, 240, 250, 260, 270, 280, 290, 300, 310, 320, 330, 340, 350, 360, 370, 380, 390, 400, 410, 420, 430, 440, 450, 460, 470, 480, 490, 500, 510, 520, 530, 540, 550, 560, 570, 580, 590, 600] Try.func6 rfl Try.ntmps6 rfl (by (((repeat (first | exact EW.NL.emp | (refine EW.NL.upd ?_ rfl) | refine EW.NL.drp ?_ | refine EW.NL.hp ?_ | refine EW.NL.argS ?_ | refine EW.NL.mix ?_)); (first | done | fail)))) ?_; intro w0 tch ini R hR
  all_goals try (refine EW.nm ?_)
  all_goals try ((first | refine EW.eRegL (id := 0) ?_ | refine EW.eReg (id := 0) ?_); refine EW.eBox ?_; refine EW.eBox ?_; refine EW.eAssign ?_; refine EW.eEnd ?_; (try refine EW.nm ?_))
  all_goals try ((first | refine EW.eRegL (id := 1) ?_ | refine EW.eReg (id := 1) ?_); refine EW.eCall Try.call39 (fun w => ialive w) ?_; refine EW.eAssign ?_; refine EW.eEnd ?_; (try refine EW.nm ?_))
  all_goals try ((first | refine EW.eRegL (id := 2) ?_ | refine EW.eReg (id := 2) ?_); refine EW.eLoadA (k := 3) ?_; refine EW.eCallN [0] Try.call11 (hG) ?_; refine EW.eMove ?_)
  all_goals try (refine EW.eGuard (j := 2) (o := ⟨some 18, _, _, _, _, _⟩) ?_ ?_ <;> (intro hb hb'; (try dsimp only at hb'); (try (exfalso; first | omega | with_reducible exact absurd rfl hb'))))
  all_goals try ((first | refine EW.eSkipF (j := 2) ?_ | refine EW.eSkipU (j := 2) ?_ | refine EW.eMove ?_); (first | refine EW.eSkipF (j := 2) ?_ | refine EW.eSkipU (j := 2) ?_ | refine EW.eNot ?_); (first | refine EW.ePickT ?_ | refine EW.ePickF ?_); refine EW.eEnd ?_; (try refine EW.nm ?_))
  all_goals try (first | refine EW.eYes (x := Operand.tmp 20) ?_ | refine EW.eNo (x := Operand.tmp 20) ?_ | (refine EW.eCond (x := Operand.tmp 20) ?_ ?_ <;> (intro hb hb'; (try dsimp only at hb'); (try (exfalso; first | omega | with_reducible exact absurd rfl hb')))))
  all_goals try (refine EW.nm ?_)
  all_goals try ((first | refine EW.eRegL (id := 3) ?_ | refine EW.eReg (id := 3) ?_); refine EW.eMove ?_; refine EW.eAssign ?_; refine EW.eEnd ?_; (try refine EW.nm ?_))
  all_goals try (with_reducible refine EW.parkK ?_)
  all_goals try ((first | refine EW.eRegL (id := 4) ?_ | refine EW.eReg (id := 4) ?_); refine EW.eLoadA (k := 3) ?_; refine EW.eLoadA (k := 6) ?_; refine EW.eBuildSlice (k := 6) ?_; fail "no contract of mullion/image.Lay"; refine EW.eMove ?_; (first | refine EW.eExtC ?_ | refine EW.eExtA ?_); (first | refine EW.eExtC ?_ | refine EW.eExtA ?_); refine EW.eAlloc ?_; (first | refine EW.eStoreW (k := 3) ?_ | refine EW.eStore (k := 3) ?_); refine EW.eAssign ?_; refine EW.eEnd ?_; (try refine EW.nm ?_))
  all_goals try ((first | refine EW.eRegL (id := 5) ?_ | refine EW.eReg (id := 5) ?_); refine EW.eLoadA (k := 6) ?_; fail "no contract of mullion/pixel.Of"; refine EW.eMove ?_; (first | refine EW.eExtC ?_ | refine EW.eExtA ?_); (first | refine EW.eExtC ?_ | refine EW.eExtA ?_); refine EW.eAlloc ?_; (first | refine EW.eStoreW (k := 4) ?_ | refine EW.eStore (k := 4) ?_); refine EW.eAssign ?_; refine EW.eEnd ?_; (try refine EW.nm ?_))
  all_goals try ((first | refine EW.eRegL (id := 6) ?_ | refine EW.eReg (id := 6) ?_); refine EW.eLoadA (k := 3) ?_; refine EW.eFieldAddr (k := 1) ?_; refine EW.eLoad1 ?_; refine EW.eFieldAddr (k := 1) ?_; refine EW.eLoad1 ?_; fail "no contract of mullion/image.Slot"; refine EW.eMove ?_; (first | refine EW.eExtC ?_ | refine EW.eExtA ?_); (first | refine EW.eExtC ?_ | refine EW.eExtA ?_); refine EW.eAssign ?_; refine EW.eAssign ?_; refine EW.eEnd ?_; (try refine EW.nm ?_))
  all_goals try ((first | refine EW.eRegL (id := 7) ?_ | refine EW.eReg (id := 7) ?_); refine EW.eMove ?_; refine EW.eEql ?_; refine EW.eLoadA (k := 3) ?_; fail "no contract of mullion/image.Check"; refine EW.eEql ?_; refine EW.eMove ?_)
  all_goals try (refine EW.eGuard (j := 5) (o := ⟨some 49, _, _, _, _, _⟩) ?_ ?_ <;> (intro hb hb'; (try dsimp only at hb'); (try (exfalso; first | omega | with_reducible exact absurd rfl hb'))))
  all_goals try ((first | refine EW.eSkipT (j := 5) ?_ | refine EW.eSkipU (j := 5) ?_ | refine EW.eMove ?_); (first | refine EW.eSkipT (j := 5) ?_ | refine EW.eSkipU (j := 5) ?_ | refine EW.eEql ?_); (first | refine EW.ePickT ?_ | refine EW.ePickF ?_); refine EW.eMove ?_)
  all_goals try (refine EW.eGuard (j := 9) (o := ⟨some 53, _, _, _, _, _⟩) ?_ ?_ <;> (intro hb hb'; (try dsimp only at hb'); (try (exfalso; first | omega | with_reducible exact absurd rfl hb'))))
  all_goals try ((first | refine EW.eSkipT (j := 9) ?_ | refine EW.eSkipU (j := 9) ?_ | refine EW.eMove ?_); (first | refine EW.ePickT ?_ | refine EW.ePickF ?_); refine EW.eNeqB ?_; refine EW.eEnd ?_; (try refine EW.nm ?_))
  all_goals try (first | refine EW.eYes (x := Operand.tmp 55) ?_ | refine EW.eNo (x := Operand.tmp 55) ?_ | (refine EW.eCond (x := Operand.tmp 55) ?_ ?_ <;> (intro hb hb'; (try dsimp only at hb'); (try (exfalso; first | omega | with_reducible exact absurd rfl hb')))))
  all_goals try (refine EW.nm ?_)
  all_goals try ((first | refine EW.eRegL (id := 8) ?_ | refine EW.eReg (id := 8) ?_); refine EW.eAssign ?_; refine EW.eEnd ?_; (try refine EW.nm ?_))
  all_goals try (with_reducible refine EW.parkK ?_)
  all_goals try ((first | refine EW.eRegL (id := 9) ?_ | refine EW.eReg (id := 9) ?_); refine EW.eMove ?_; refine EW.eNeq ?_; refine EW.eEnd ?_; (try refine EW.nm ?_))
  all_goals try (first | refine EW.eYes (x := Operand.tmp 57) ?_ | refine EW.eNo (x := Operand.tmp 57) ?_ | (refine EW.eCond (x := Operand.tmp 57) ?_ ?_ <;> (intro hb hb'; (try dsimp only at hb'); (try (exfalso; first | omega | with_reducible exact absurd rfl hb')))))
  all_goals try (refine EW.nm ?_)
  all_goals try ((first | refine EW.eRegL (id := 10) ?_ | refine EW.eReg (id := 10) ?_); refine EW.eMove ?_; refine EW.eMove ?_)
  all_goals try (refine EW.eGuard (j := 1) (o := ⟨some 60, _, _, _, _, _⟩) ?_ ?_ <;> (intro hb hb'; (try dsimp only at hb'); (try (exfalso; first | omega | with_reducible exact absurd rfl hb'))))
  all_goals try ((first | refine EW.eSkipT (j := 1) ?_ | refine EW.eSkipU (j := 1) ?_ | refine EW.eFieldAddr (k := 1) ?_); (first | refine EW.eSkipT (j := 1) ?_ | refine EW.eSkipU (j := 1) ?_ | refine EW.eLoad1 ?_); (first | refine EW.eSkipT (j := 1) ?_ | refine EW.eSkipU (j := 1) ?_ | refine EW.eLenS ?_ | refine EW.eLenG ?_ | refine EW.eLenN ?_); (first | refine EW.eSkipT (j := 1) ?_ | refine EW.eSkipU (j := 1) ?_ | refine EW.eEql ?_); (first | refine EW.ePickT ?_ | refine EW.ePickF ?_); refine EW.eAssign ?_; refine EW.eEnd ?_; (try refine EW.nm ?_))
  all_goals try (with_reducible refine EW.parkK ?_)
  all_goals try ((first | refine EW.eRegL (id := 11) ?_ | refine EW.eReg (id := 11) ?_); refine EW.eFieldAddr (k := 1) ?_; refine EW.eLoad1 ?_; (first | refine EW.eLenS ?_ | refine EW.eLenG ?_ | refine EW.eLenN ?_); refine EW.eMove ?_; refine EW.eEnd ?_; (try refine EW.nm ?_))
  all_goals try (refine EW.eUnroll 6 ?_)
  all_goals try (refine EW.nm ?_)
  iterate 6 (
    all_goals try ((first | refine EW.eRegL (id := 12) ?_ | refine EW.eReg (id := 12) ?_); refine EW.eLss ?_; refine EW.eEnd ?_; (try refine EW.nm ?_))
    all_goals try (first | refine EW.eYes (x := Operand.tmp 69) ?_ | refine EW.eNo (x := Operand.tmp 69) ?_ | (refine EW.eCond (x := Operand.tmp 69) ?_ ?_ <;> (intro hb hb'; (try dsimp only at hb'); (try (exfalso; first | omega | with_reducible exact absurd rfl hb')))))
    all_goals try (refine EW.nm ?_)
    all_goals try ((first | refine EW.eRegL (id := 13) ?_ | refine EW.eReg (id := 13) ?_); refine EW.eMove ?_; refine EW.eAssign ?_; refine EW.eEnd ?_; (try refine EW.nm ?_))
    all_goals try ((first | refine EW.eRegL (id := 14) ?_ | refine EW.eReg (id := 14) ?_); refine EW.eFieldAddr (k := 1) ?_; refine EW.eLoad1 ?_; refine EW.eMove ?_; (first | refine EW.eIndexAddrS (z := 4) ?_ | refine EW.eIndexAddrG (z := 4) ?_); refine EW.eLoadA (k := 4) ?_; refine EW.eAlloc ?_; (first | refine EW.eStoreW (k := 4) ?_ | refine EW.eStore (k := 4) ?_); refine EW.eEnd ?_; (try refine EW.nm ?_))
    all_goals try ((first | refine EW.eRegL (id := 15) ?_ | refine EW.eReg (id := 15) ?_); refine EW.eMove ?_; refine EW.eMove ?_; refine EW.eEql ?_; refine EW.eEnd ?_; (try refine EW.nm ?_))
    all_goals try (first | refine EW.eYes (x := Operand.tmp 78) ?_ | refine EW.eNo (x := Operand.tmp 78) ?_ | (refine EW.eCond (x := Operand.tmp 78) ?_ ?_ <;> (intro hb hb'; (try dsimp only at hb'); (try (exfalso; first | omega | with_reducible exact absurd rfl hb')))))
    all_goals try (refine EW.nm ?_)
    all_goals try ((first | refine EW.eRegL (id := 16) ?_ | refine EW.eReg (id := 16) ?_); refine EW.eLoadA (k := 4) ?_; refine EW.eLoadA (k := 4) ?_; fail "no contract of mullion/pixel.Near"; (first | refine EW.eStoreW (k := 4) ?_ | refine EW.eStore (k := 4) ?_); refine EW.eEnd ?_; (try refine EW.nm ?_))
    all_goals try ((first | refine EW.eRegL (id := 17) ?_ | refine EW.eReg (id := 17) ?_); refine EW.eFieldAddr (k := 1) ?_; refine EW.eLoad1 ?_; refine EW.eMove ?_; (first | refine EW.eIndexAddrS (z := 4) ?_ | refine EW.eIndexAddrG (z := 4) ?_); refine EW.eLoadA (k := 4) ?_; refine EW.eLoadA (k := 4) ?_; refine EW.eNeqA ?_; refine EW.eDraw ?_; (try refine EW.nm ?_))
    all_goals try (first | refine EW.eYes (x := Operand.tmp 88) ?_ | refine EW.eNo (x := Operand.tmp 88) ?_ | (refine EW.eCond (x := Operand.tmp 88) ?_ ?_ <;> (intro hb hb'; (try dsimp only at hb'); (try (exfalso; first | omega | with_reducible exact absurd rfl hb')))))
    all_goals try (refine EW.nm ?_)
    all_goals try ((first | refine EW.eRegL (id := 18) ?_ | refine EW.eReg (id := 18) ?_); refine EW.eAssign ?_; refine EW.eEnd ?_; (try refine EW.nm ?_))
    all_goals try (with_reducible refine EW.parkK ?_)
    all_goals try ((first | refine EW.eRegL (id := 19) ?_ | refine EW.eReg (id := 19) ?_); refine EW.eAdd ?_; refine EW.eMove ?_; refine EW.eEnd ?_; (try refine EW.nm ?_)))
  all_goals try ((first | refine EW.eRegL (id := 20) ?_ | refine EW.eReg (id := 20) ?_); refine EW.eMove ?_; refine EW.eMove ?_)
  all_goals try (refine EW.eGuard (j := 1) (o := ⟨some 92, _, _, _, _, _⟩) ?_ ?_ <;> (intro hb hb'; (try dsimp only at hb'); (try (exfalso; first | omega | with_reducible exact absurd rfl hb'))))
  all_goals try ((first | refine EW.eSkipT (j := 1) ?_ | refine EW.eSkipU (j := 1) ?_ | refine EW.eFieldAddr (k := 1) ?_); (first | refine EW.eSkipT (j := 1) ?_ | refine EW.eSkipU (j := 1) ?_ | refine EW.eLoad1 ?_); (first | refine EW.eSkipT (j := 1) ?_ | refine EW.eSkipU (j := 1) ?_ | refine EW.eFieldAddr (k := 1) ?_); (first | refine EW.eSkipT (j := 1) ?_ | refine EW.eSkipU (j := 1) ?_ | refine EW.eLoad1 ?_); (first | refine EW.eSkipT (j := 1) ?_ | refine EW.eSkipU (j := 1) ?_ | refine EW.eEql ?_); (first | refine EW.ePickT ?_ | refine EW.ePickF ?_); refine EW.eMove ?_)
  all_goals try (refine EW.eGuard (j := 8) (o := ⟨some 99, _, _, _, _, _⟩) ?_ ?_ <;> (intro hb hb'; (try dsimp only at hb'); (try (exfalso; first | omega | with_reducible exact absurd rfl hb'))))
  all_goals try ((first | refine EW.eSkipT (j := 8) ?_ | refine EW.eSkipU (j := 8) ?_ | refine EW.eFieldAddr (k := 1) ?_); (first | refine EW.eSkipT (j := 8) ?_ | refine EW.eSkipU (j := 8) ?_ | refine EW.eLoad1 ?_); (first | refine EW.eSkipT (j := 8) ?_ | refine EW.eSkipU (j := 8) ?_ | refine EW.eFieldAddr (k := 1) ?_); (first | refine EW.eSkipT (j := 8) ?_ | refine EW.eSkipU (j := 8) ?_ | refine EW.eLoad1 ?_); (first | refine EW.eSkipT (j := 8) ?_ | refine EW.eSkipU (j := 8) ?_ | refine EW.eEql ?_); (first | refine EW.ePickT ?_ | refine EW.ePickF ?_); refine EW.eMove ?_)
  all_goals try (refine EW.eGuard (j := 15) (o := ⟨some 106, _, _, _, _, _⟩) ?_ ?_ <;> (intro hb hb'; (try dsimp only at hb'); (try (exfalso; first | omega | with_reducible exact absurd rfl hb'))))
  all_goals try ((first | refine EW.eSkipT (j := 15) ?_ | refine EW.eSkipU (j := 15) ?_ | refine EW.eFieldAddr (k := 1) ?_); (first | refine EW.eSkipT (j := 15) ?_ | refine EW.eSkipU (j := 15) ?_ | refine EW.eLoad1 ?_); (first | refine EW.eSkipT (j := 15) ?_ | refine EW.eSkipU (j := 15) ?_ | refine EW.eLenS ?_ | refine EW.eLenG ?_ | refine EW.eLenN ?_); (first | refine EW.eSkipT (j := 15) ?_ | refine EW.eSkipU (j := 15) ?_ | refine EW.eFieldAddr (k := 1) ?_); (first | refine EW.eSkipT (j := 15) ?_ | refine EW.eSkipU (j := 15) ?_ | refine EW.eLoad1 ?_); (first | refine EW.eSkipT (j := 15) ?_ | refine EW.eSkipU (j := 15) ?_ | refine EW.eLenS ?_ | refine EW.eLenG ?_ | refine EW.eLenN ?_); (first | refine EW.eSkipT (j := 15) ?_ | refine EW.eSkipU (j := 15) ?_ | refine EW.eEql ?_); (first | refine EW.ePickT ?_ | refine EW.ePickF ?_); refine EW.eAssign ?_; refine EW.eEnd ?_; (try refine EW.nm ?_))
  all_goals try (with_reducible refine EW.parkK ?_)
  all_goals try (refine EW.Park.mk ?_)
  all_goals (refine EW.eLeaveN [] hR (by first | exact .inl rfl | exact .inr rfl) (by rfl) (by rfl) ?_ ?_ rfl rfl (by (((repeat (first | exact EW.NL.emp | (refine EW.NL.upd ?_ rfl) | refine EW.NL.drp ?_ | refine EW.NL.hp ?_ | refine EW.NL.argS ?_ | refine EW.NL.mix ?_)); (first | done | fail)))) rfl rfl; rotate_left 1; (· ((repeat (first | exact EW.atE.nil | refine EW.atE.lt rfl ?_ | refine EW.atE.lf ?_ | refine EW.atE.b rfl EW.SameB.refl ?_ | (refine EW.atE.b rfl ?_ ?_; rotate_left 1))))))
  all_goals rfl
theorem check_i (o : Bool) (l : List Px) (w h : Int) (hl : l.length ≤ 10000) : ∃ e : Int, CT Try.prog 34 [.a (imC 0 w h l.length)] (upd EW.emp (WP o l)) 1 1 (.c (.v (.int .i64 e))) (upd (upd EW.emp (WP o l)) []) ∧ (e = 0 → imOk w h l) := by
  by_cases hi : imOk w h l
  · exact ⟨0, icheck_y o l w h hi, fun _ => hi⟩
  · exact ⟨140, icheck_n o l w h hi hl, fun h => by omega⟩
set_option maxHeartbeats 2000000 in
theorem one_no (xs : List Px) (f : Fg) (w h : Int) (hx : xs.length ≤ 5000) (hno : ¬ (imOk w h xs ∧ fgOk w h f)) : OneP xs f w h := by
  have hG := igreat_n false xs w h hx
  have hL := lay1_bad false xs f w h (by omega) hno
  obtain ⟨ce, hC, hce⟩ := check_i false xs w h (by omega)
  obtain ⟨st, dt, is, hSt, _, hst, _⟩ := slot_e false xs w h f.x f.y
  obtain ⟨qt, et, hOt, _, het⟩ := of_e f
  have hbad : ¬ (ce = 0 ∧ et = 0 ∧ is = true) := fun x => hno ⟨hce x.1, hst.1 x.2.2, het.1 x.2.1⟩
  clear hce hst het hno
  cases is
  all_goals
    (simp only [Bool.false_eq_true, and_false, not_false_eq_true, and_true] at hbad)
    refine EW.ctEnter [10, 20, 30, 40, 50, 60, 70, 80, 90, 100, 110, 120, 130, 140, 150, 160, 170, 180, 190, 200, 210, 220, 230, 240, 250, 260, 270, 280, 290, 300, 310, 320, 330, 340, 350, 360, 370, 380, 390, 400, 410, 420, 430, 440, 450, 460, 470, 480, 490, 500, 510, 520, 530, 540, 550, 560, 570, 580, 590, 600] Try.func6 rfl Try.ntmps6 rfl (by (((repeat (first | exact EW.NL.emp | (refine EW.NL.upd ?_ rfl) | refine EW.NL.drp ?_ | refine EW.NL.hp ?_ | refine EW.NL.argS ?_ | refine EW.NL.mix ?_)); (first | done | fail)))) ?_; intro w0 tch ini R hR
    all_goals try (refine EW.nm ?_)
    all_goals try ((first | refine EW.eRegL (id := 0) ?_ | refine EW.eReg (id := 0) ?_); refine EW.eBox ?_; refine EW.eBox ?_; refine EW.eAssign ?_; refine EW.eEnd ?_; (try refine EW.nm ?_))
    all_goals try ((first | refine EW.eRegL (id := 1) ?_ | refine EW.eReg (id := 1) ?_); refine EW.eCall Try.call39 (fun w => ialive w) ?_; refine EW.eAssign ?_; refine EW.eEnd ?_; (try refine EW.nm ?_))
    all_goals try ((first | refine EW.eRegL (id := 2) ?_ | refine EW.eReg (id := 2) ?_); refine EW.eLoadA (k := 3) ?_; refine EW.eCallN [0] Try.call11 (hG) ?_; refine EW.eMove ?_)
    all_goals try (refine EW.eGuard (j := 2) (o := ⟨some 18, _, _, _, _, _⟩) ?_ ?_ <;> (intro hb hb'; (try dsimp only at hb'); (try (exfalso; first | omega | with_reducible exact absurd rfl hb'))))
    all_goals try ((first | refine EW.eSkipF (j := 2) ?_ | refine EW.eSkipU (j := 2) ?_ | refine EW.eMove ?_); (first | refine EW.eSkipF (j := 2) ?_ | refine EW.eSkipU (j := 2) ?_ | refine EW.eNot ?_); (first | refine EW.ePickT ?_ | refine EW.ePickF ?_); refine EW.eEnd ?_; (try refine EW.nm ?_))
    all_goals try (first | refine EW.eYes (x := Operand.tmp 20) ?_ | refine EW.eNo (x := Operand.tmp 20) ?_ | (refine EW.eCond (x := Operand.tmp 20) ?_ ?_ <;> (intro hb hb'; (try dsimp only at hb'); (try (exfalso; first | omega | with_reducible exact absurd rfl hb')))))
    all_goals try (refine EW.nm ?_)
    all_goals try ((first | refine EW.eRegL (id := 3) ?_ | refine EW.eReg (id := 3) ?_); refine EW.eMove ?_; refine EW.eAssign ?_; refine EW.eEnd ?_; (try refine EW.nm ?_))
    all_goals try (with_reducible refine EW.parkK ?_)
    all_goals try ((first | refine EW.eRegL (id := 4) ?_ | refine EW.eReg (id := 4) ?_); refine EW.eLoadA (k := 3) ?_; refine EW.eLoadA (k := 6) ?_; refine EW.eBuildSlice (k := 6) ?_; refine EW.eCallN [0, 40] Try.call35 (hL) ?_; refine EW.eMove ?_; (first | refine EW.eExtC ?_ | refine EW.eExtA ?_); (first | refine EW.eExtC ?_ | refine EW.eExtA ?_); refine EW.eAlloc ?_; (first | refine EW.eStoreW (k := 3) ?_ | refine EW.eStore (k := 3) ?_); refine EW.eAssign ?_; refine EW.eEnd ?_; (try refine EW.nm ?_))
    all_goals try ((first | refine EW.eRegL (id := 5) ?_ | refine EW.eReg (id := 5) ?_); refine EW.eLoadA (k := 6) ?_; refine EW.eCall Try.call40 (fun w => hOt w) ?_; refine EW.eMove ?_; (first | refine EW.eExtC ?_ | refine EW.eExtA ?_); (first | refine EW.eExtC ?_ | refine EW.eExtA ?_); refine EW.eAlloc ?_; (first | refine EW.eStoreW (k := 4) ?_ | refine EW.eStore (k := 4) ?_); refine EW.eAssign ?_; refine EW.eEnd ?_; (try refine EW.nm ?_))
    all_goals try ((first | refine EW.eRegL (id := 6) ?_ | refine EW.eReg (id := 6) ?_); refine EW.eLoadA (k := 3) ?_; refine EW.eFieldAddr (k := 1) ?_; refine EW.eLoad1 ?_; refine EW.eFieldAddr (k := 1) ?_; refine EW.eLoad1 ?_; refine EW.eCallN [0] Try.call31 (hSt) ?_; refine EW.eMove ?_; (first | refine EW.eExtC ?_ | refine EW.eExtA ?_); (first | refine EW.eExtC ?_ | refine EW.eExtA ?_); refine EW.eAssign ?_; refine EW.eAssign ?_; refine EW.eEnd ?_; (try refine EW.nm ?_))
    all_goals try ((first | refine EW.eRegL (id := 7) ?_ | refine EW.eReg (id := 7) ?_); refine EW.eMove ?_; refine EW.eEql ?_; refine EW.eLoadA (k := 3) ?_; refine EW.eCallN [0] Try.call34 (hC) ?_; refine EW.eEql ?_; refine EW.eMove ?_)
    all_goals try (refine EW.eGuard (j := 5) (o := ⟨some 49, _, _, _, _, _⟩) ?_ ?_ <;> (intro hb hb'; (try dsimp only at hb'); (try (exfalso; first | omega | with_reducible exact absurd rfl hb'))))
    all_goals try ((first | refine EW.eSkipT (j := 5) ?_ | refine EW.eSkipU (j := 5) ?_ | refine EW.eMove ?_); (first | refine EW.eSkipT (j := 5) ?_ | refine EW.eSkipU (j := 5) ?_ | refine EW.eEql ?_); (first | refine EW.ePickT ?_ | refine EW.ePickF ?_); refine EW.eMove ?_)
    all_goals try (refine EW.eGuard (j := 9) (o := ⟨some 53, _, _, _, _, _⟩) ?_ ?_ <;> (intro hb hb'; (try dsimp only at hb'); (try (exfalso; first | omega | with_reducible exact absurd rfl hb'))))
    all_goals try ((first | refine EW.eSkipT (j := 9) ?_ | refine EW.eSkipU (j := 9) ?_ | refine EW.eMove ?_); (first | refine EW.ePickT ?_ | refine EW.ePickF ?_); refine EW.eNeqB ?_; refine EW.eEnd ?_; (try refine EW.nm ?_))
    all_goals try (first | refine EW.eYes (x := Operand.tmp 55) ?_ | refine EW.eNo (x := Operand.tmp 55) ?_ | (refine EW.eCond (x := Operand.tmp 55) ?_ ?_ <;> (intro hb hb'; (try dsimp only at hb'); (try (exfalso; first | omega | with_reducible exact absurd rfl hb')))))
    all_goals try (refine EW.nm ?_)
    all_goals try ((first | refine EW.eRegL (id := 8) ?_ | refine EW.eReg (id := 8) ?_); refine EW.eAssign ?_; refine EW.eEnd ?_; (try refine EW.nm ?_))
    all_goals try (with_reducible refine EW.parkK ?_)
    all_goals try ((first | refine EW.eRegL (id := 9) ?_ | refine EW.eReg (id := 9) ?_); refine EW.eMove ?_; refine EW.eNeq ?_; refine EW.eEnd ?_; (try refine EW.nm ?_))
    all_goals try (first | refine EW.eYes (x := Operand.tmp 57) ?_ | refine EW.eNo (x := Operand.tmp 57) ?_ | (refine EW.eCond (x := Operand.tmp 57) ?_ ?_ <;> (intro hb hb'; (try dsimp only at hb'); (try (exfalso; first | omega | with_reducible exact absurd rfl hb')))))
    all_goals try (refine EW.nm ?_)
    all_goals try ((first | refine EW.eRegL (id := 10) ?_ | refine EW.eReg (id := 10) ?_); refine EW.eMove ?_; refine EW.eMove ?_)
    all_goals try (refine EW.eGuard (j := 1) (o := ⟨some 60, _, _, _, _, _⟩) ?_ ?_ <;> (intro hb hb'; (try dsimp only at hb'); (try (exfalso; first | omega | with_reducible exact absurd rfl hb'))))
    all_goals try ((first | refine EW.eSkipT (j := 1) ?_ | refine EW.eSkipU (j := 1) ?_ | refine EW.eFieldAddr (k := 1) ?_); (first | refine EW.eSkipT (j := 1) ?_ | refine EW.eSkipU (j := 1) ?_ | refine EW.eLoad1 ?_); (first | refine EW.eSkipT (j := 1) ?_ | refine EW.eSkipU (j := 1) ?_ | refine EW.eLenS ?_ | refine EW.eLenG ?_ | refine EW.eLenN ?_); (first | refine EW.eSkipT (j := 1) ?_ | refine EW.eSkipU (j := 1) ?_ | refine EW.eEql ?_); (first | refine EW.ePickT ?_ | refine EW.ePickF ?_); refine EW.eAssign ?_; refine EW.eEnd ?_; (try refine EW.nm ?_))
    all_goals try (with_reducible refine EW.parkK ?_)
    all_goals try ((first | refine EW.eRegL (id := 11) ?_ | refine EW.eReg (id := 11) ?_); refine EW.eFieldAddr (k := 1) ?_; refine EW.eLoad1 ?_; (first | refine EW.eLenS ?_ | refine EW.eLenG ?_ | refine EW.eLenN ?_); refine EW.eMove ?_; refine EW.eEnd ?_; (try refine EW.nm ?_))
    all_goals try (refine EW.eUnroll 6 ?_)
    all_goals try (refine EW.nm ?_)
    iterate 6 (
      all_goals try ((first | refine EW.eRegL (id := 12) ?_ | refine EW.eReg (id := 12) ?_); refine EW.eLss ?_; refine EW.eEnd ?_; (try refine EW.nm ?_))
      all_goals try (first | refine EW.eYes (x := Operand.tmp 69) ?_ | refine EW.eNo (x := Operand.tmp 69) ?_ | (refine EW.eCond (x := Operand.tmp 69) ?_ ?_ <;> (intro hb hb'; (try dsimp only at hb'); (try (exfalso; first | omega | with_reducible exact absurd rfl hb')))))
      all_goals try (refine EW.nm ?_)
      all_goals try ((first | refine EW.eRegL (id := 13) ?_ | refine EW.eReg (id := 13) ?_); refine EW.eMove ?_; refine EW.eAssign ?_; refine EW.eEnd ?_; (try refine EW.nm ?_))
      all_goals try ((first | refine EW.eRegL (id := 14) ?_ | refine EW.eReg (id := 14) ?_); refine EW.eFieldAddr (k := 1) ?_; refine EW.eLoad1 ?_; refine EW.eMove ?_; (first | refine EW.eIndexAddrS (z := 4) ?_ | refine EW.eIndexAddrG (z := 4) ?_); refine EW.eLoadA (k := 4) ?_; refine EW.eAlloc ?_; (first | refine EW.eStoreW (k := 4) ?_ | refine EW.eStore (k := 4) ?_); refine EW.eEnd ?_; (try refine EW.nm ?_))
      all_goals try ((first | refine EW.eRegL (id := 15) ?_ | refine EW.eReg (id := 15) ?_); refine EW.eMove ?_; refine EW.eMove ?_; refine EW.eEql ?_; refine EW.eEnd ?_; (try refine EW.nm ?_))
      all_goals try (first | refine EW.eYes (x := Operand.tmp 78) ?_ | refine EW.eNo (x := Operand.tmp 78) ?_ | (refine EW.eCond (x := Operand.tmp 78) ?_ ?_ <;> (intro hb hb'; (try dsimp only at hb'); (try (exfalso; first | omega | with_reducible exact absurd rfl hb')))))
      all_goals try (refine EW.nm ?_)
      all_goals try ((first | refine EW.eRegL (id := 16) ?_ | refine EW.eReg (id := 16) ?_); refine EW.eLoadA (k := 4) ?_; refine EW.eLoadA (k := 4) ?_; fail "no contract of mullion/pixel.Near"; (first | refine EW.eStoreW (k := 4) ?_ | refine EW.eStore (k := 4) ?_); refine EW.eEnd ?_; (try refine EW.nm ?_))
      all_goals try ((first | refine EW.eRegL (id := 17) ?_ | refine EW.eReg (id := 17) ?_); refine EW.eFieldAddr (k := 1) ?_; refine EW.eLoad1 ?_; refine EW.eMove ?_; (first | refine EW.eIndexAddrS (z := 4) ?_ | refine EW.eIndexAddrG (z := 4) ?_); refine EW.eLoadA (k := 4) ?_; refine EW.eLoadA (k := 4) ?_; refine EW.eNeqA ?_; refine EW.eDraw ?_; (try refine EW.nm ?_))
      all_goals try (first | refine EW.eYes (x := Operand.tmp 88) ?_ | refine EW.eNo (x := Operand.tmp 88) ?_ | (refine EW.eCond (x := Operand.tmp 88) ?_ ?_ <;> (intro hb hb'; (try dsimp only at hb'); (try (exfalso; first | omega | with_reducible exact absurd rfl hb')))))
      all_goals try (refine EW.nm ?_)
      all_goals try ((first | refine EW.eRegL (id := 18) ?_ | refine EW.eReg (id := 18) ?_); refine EW.eAssign ?_; refine EW.eEnd ?_; (try refine EW.nm ?_))
      all_goals try (with_reducible refine EW.parkK ?_)
      all_goals try ((first | refine EW.eRegL (id := 19) ?_ | refine EW.eReg (id := 19) ?_); refine EW.eAdd ?_; refine EW.eMove ?_; refine EW.eEnd ?_; (try refine EW.nm ?_)))
    all_goals try ((first | refine EW.eRegL (id := 20) ?_ | refine EW.eReg (id := 20) ?_); refine EW.eMove ?_; refine EW.eMove ?_)
    all_goals try (refine EW.eGuard (j := 1) (o := ⟨some 92, _, _, _, _, _⟩) ?_ ?_ <;> (intro hb hb'; (try dsimp only at hb'); (try (exfalso; first | omega | with_reducible exact absurd rfl hb'))))
    all_goals try ((first | refine EW.eSkipT (j := 1) ?_ | refine EW.eSkipU (j := 1) ?_ | refine EW.eFieldAddr (k := 1) ?_); (first | refine EW.eSkipT (j := 1) ?_ | refine EW.eSkipU (j := 1) ?_ | refine EW.eLoad1 ?_); (first | refine EW.eSkipT (j := 1) ?_ | refine EW.eSkipU (j := 1) ?_ | refine EW.eFieldAddr (k := 1) ?_); (first | refine EW.eSkipT (j := 1) ?_ | refine EW.eSkipU (j := 1) ?_ | refine EW.eLoad1 ?_); (first | refine EW.eSkipT (j := 1) ?_ | refine EW.eSkipU (j := 1) ?_ | refine EW.eEql ?_); (first | refine EW.ePickT ?_ | refine EW.ePickF ?_); refine EW.eMove ?_)
    all_goals try (refine EW.eGuard (j := 8) (o := ⟨some 99, _, _, _, _, _⟩) ?_ ?_ <;> (intro hb hb'; (try dsimp only at hb'); (try (exfalso; first | omega | with_reducible exact absurd rfl hb'))))
    all_goals try ((first | refine EW.eSkipT (j := 8) ?_ | refine EW.eSkipU (j := 8) ?_ | refine EW.eFieldAddr (k := 1) ?_); (first | refine EW.eSkipT (j := 8) ?_ | refine EW.eSkipU (j := 8) ?_ | refine EW.eLoad1 ?_); (first | refine EW.eSkipT (j := 8) ?_ | refine EW.eSkipU (j := 8) ?_ | refine EW.eFieldAddr (k := 1) ?_); (first | refine EW.eSkipT (j := 8) ?_ | refine EW.eSkipU (j := 8) ?_ | refine EW.eLoad1 ?_); (first | refine EW.eSkipT (j := 8) ?_ | refine EW.eSkipU (j := 8) ?_ | refine EW.eEql ?_); (first | refine EW.ePickT ?_ | refine EW.ePickF ?_); refine EW.eMove ?_)
    all_goals try (refine EW.eGuard (j := 15) (o := ⟨some 106, _, _, _, _, _⟩) ?_ ?_ <;> (intro hb hb'; (try dsimp only at hb'); (try (exfalso; first | omega | with_reducible exact absurd rfl hb'))))
    all_goals try ((first | refine EW.eSkipT (j := 15) ?_ | refine EW.eSkipU (j := 15) ?_ | refine EW.eFieldAddr (k := 1) ?_); (first | refine EW.eSkipT (j := 15) ?_ | refine EW.eSkipU (j := 15) ?_ | refine EW.eLoad1 ?_); (first | refine EW.eSkipT (j := 15) ?_ | refine EW.eSkipU (j := 15) ?_ | refine EW.eLenS ?_ | refine EW.eLenG ?_ | refine EW.eLenN ?_); (first | refine EW.eSkipT (j := 15) ?_ | refine EW.eSkipU (j := 15) ?_ | refine EW.eFieldAddr (k := 1) ?_); (first | refine EW.eSkipT (j := 15) ?_ | refine EW.eSkipU (j := 15) ?_ | refine EW.eLoad1 ?_); (first | refine EW.eSkipT (j := 15) ?_ | refine EW.eSkipU (j := 15) ?_ | refine EW.eLenS ?_ | refine EW.eLenG ?_ | refine EW.eLenN ?_); (first | refine EW.eSkipT (j := 15) ?_ | refine EW.eSkipU (j := 15) ?_ | refine EW.eEql ?_); (first | refine EW.ePickT ?_ | refine EW.ePickF ?_); refine EW.eAssign ?_; refine EW.eEnd ?_; (try refine EW.nm ?_))
    all_goals try (with_reducible refine EW.parkK ?_)
    all_goals try (refine EW.Park.mk ?_)
  all_goals (refine EW.eLeaveN [] hR (by first | exact .inl rfl | exact .inr rfl) (by rfl) (by rfl) ?_ ?_ rfl rfl (by (((repeat (first | exact EW.NL.emp | (refine EW.NL.upd ?_ rfl) | refine EW.NL.drp ?_ | refine EW.NL.hp ?_ | refine EW.NL.argS ?_ | refine EW.NL.mix ?_)); (first | done | fail)))) rfl rfl; rotate_left 1; (· ((repeat (first | exact EW.atE.nil | refine EW.atE.lt rfl ?_ | refine EW.atE.lf ?_ | refine EW.atE.b rfl EW.SameB.refl ?_ | (refine EW.atE.b rfl ?_ ?_; rotate_left 1))))))
  all_goals rfl
set_option maxHeartbeats 2000000 in
theorem one_y (xs : List Px) (f : Fg) (w h : Int) (hx : xs.length ≤ 5000) (hi : imOk w h xs) (hs : fgOk w h f) : OneP xs f w h := by
  have hG := igreat_n false xs w h hx
  have hL := lay1_y false xs f w h hi hs
  have hC := icheck_y false xs w h hi
  obtain ⟨ha1, ha2⟩ := fat_is hi hs.1
  have hSt := islot_y false xs w h f.x f.y hs.1
  rw [ha1] at hSt
  have hOt := of_y f hs.2
  have hat := fun k => lay1_at (k := k) (f := f) (w := w) ha2
  have hRl := lay1_len w xs f
  generalize lay1 w xs f = Yp at *
  generalize fat w f = at9 at *
  clear hi hs
  refine EW.ctEnter [10, 20, 30, 40, 50, 60, 70, 80, 90, 100, 110, 120, 130, 140, 150, 160, 170, 180, 190, 200, 210, 220, 230, 240, 250, 260, 270, 280, 290, 300, 310, 320, 330, 340, 350, 360, 370, 380, 390, 400, 410, 420, 430, 440, 450, 460, 470, 480, 490, 500, 510, 520, 530, 540, 550, 560, 570, 580, 590, 600] Try.func6 rfl Try.ntmps6 rfl (by (((repeat (first | exact EW.NL.emp | (refine EW.NL.upd ?_ rfl) | refine EW.NL.drp ?_ | refine EW.NL.hp ?_ | refine EW.NL.argS ?_ | refine EW.NL.mix ?_)); (first | done | fail)))) ?_; intro w0 tch ini R hR
  all_goals try (refine EW.nm ?_)
  all_goals try ((first | refine EW.eRegL (id := 0) ?_ | refine EW.eReg (id := 0) ?_); refine EW.eBox ?_; refine EW.eBox ?_; refine EW.eAssign ?_; refine EW.eEnd ?_; (try refine EW.nm ?_))
  all_goals try ((first | refine EW.eRegL (id := 1) ?_ | refine EW.eReg (id := 1) ?_); refine EW.eCall Try.call39 (fun w => ialive w) ?_; refine EW.eAssign ?_; refine EW.eEnd ?_; (try refine EW.nm ?_))
  all_goals try ((first | refine EW.eRegL (id := 2) ?_ | refine EW.eReg (id := 2) ?_); refine EW.eLoadA (k := 3) ?_; refine EW.eCallN [0] Try.call11 (hG) ?_; refine EW.eMove ?_)
  all_goals try (refine EW.eGuard (j := 2) (o := ⟨some 18, _, _, _, _, _⟩) ?_ ?_ <;> (intro hb hb'; (try dsimp only at hb'); (try (exfalso; first | omega | with_reducible exact absurd rfl hb'))))
  all_goals try ((first | refine EW.eSkipF (j := 2) ?_ | refine EW.eSkipU (j := 2) ?_ | refine EW.eMove ?_); (first | refine EW.eSkipF (j := 2) ?_ | refine EW.eSkipU (j := 2) ?_ | refine EW.eNot ?_); (first | refine EW.ePickT ?_ | refine EW.ePickF ?_); refine EW.eEnd ?_; (try refine EW.nm ?_))
  all_goals try (first | refine EW.eYes (x := Operand.tmp 20) ?_ | refine EW.eNo (x := Operand.tmp 20) ?_ | (refine EW.eCond (x := Operand.tmp 20) ?_ ?_ <;> (intro hb hb'; (try dsimp only at hb'); (try (exfalso; first | omega | with_reducible exact absurd rfl hb')))))
  all_goals try (refine EW.nm ?_)
  all_goals try ((first | refine EW.eRegL (id := 3) ?_ | refine EW.eReg (id := 3) ?_); refine EW.eMove ?_; refine EW.eAssign ?_; refine EW.eEnd ?_; (try refine EW.nm ?_))
  all_goals try (with_reducible refine EW.parkK ?_)
  all_goals try ((first | refine EW.eRegL (id := 4) ?_ | refine EW.eReg (id := 4) ?_); refine EW.eLoadA (k := 3) ?_; refine EW.eLoadA (k := 6) ?_; refine EW.eBuildSlice (k := 6) ?_; refine EW.eCallN [0, 40] Try.call35 (hL) ?_; refine EW.eMove ?_; (first | refine EW.eExtC ?_ | refine EW.eExtA ?_); (first | refine EW.eExtC ?_ | refine EW.eExtA ?_); refine EW.eAlloc ?_; (first | refine EW.eStoreW (k := 3) ?_ | refine EW.eStore (k := 3) ?_); refine EW.eAssign ?_; refine EW.eEnd ?_; (try refine EW.nm ?_))
  all_goals try ((first | refine EW.eRegL (id := 5) ?_ | refine EW.eReg (id := 5) ?_); refine EW.eLoadA (k := 6) ?_; refine EW.eCall Try.call40 (fun w => hOt w) ?_; refine EW.eMove ?_; (first | refine EW.eExtC ?_ | refine EW.eExtA ?_); (first | refine EW.eExtC ?_ | refine EW.eExtA ?_); refine EW.eAlloc ?_; (first | refine EW.eStoreW (k := 4) ?_ | refine EW.eStore (k := 4) ?_); refine EW.eAssign ?_; refine EW.eEnd ?_; (try refine EW.nm ?_))
  all_goals try ((first | refine EW.eRegL (id := 6) ?_ | refine EW.eReg (id := 6) ?_); refine EW.eLoadA (k := 3) ?_; refine EW.eFieldAddr (k := 1) ?_; refine EW.eLoad1 ?_; refine EW.eFieldAddr (k := 1) ?_; refine EW.eLoad1 ?_; refine EW.eCallN [0] Try.call31 (hSt) ?_; refine EW.eMove ?_; (first | refine EW.eExtC ?_ | refine EW.eExtA ?_); (first | refine EW.eExtC ?_ | refine EW.eExtA ?_); refine EW.eAssign ?_; refine EW.eAssign ?_; refine EW.eEnd ?_; (try refine EW.nm ?_))
  all_goals try ((first | refine EW.eRegL (id := 7) ?_ | refine EW.eReg (id := 7) ?_); refine EW.eMove ?_; refine EW.eEql ?_; refine EW.eLoadA (k := 3) ?_; refine EW.eCallN [0] Try.call34 (hC) ?_; refine EW.eEql ?_; refine EW.eMove ?_)
  all_goals try (refine EW.eGuard (j := 5) (o := ⟨some 49, _, _, _, _, _⟩) ?_ ?_ <;> (intro hb hb'; (try dsimp only at hb'); (try (exfalso; first | omega | with_reducible exact absurd rfl hb'))))
  all_goals try ((first | refine EW.eSkipT (j := 5) ?_ | refine EW.eSkipU (j := 5) ?_ | refine EW.eMove ?_); (first | refine EW.eSkipT (j := 5) ?_ | refine EW.eSkipU (j := 5) ?_ | refine EW.eEql ?_); (first | refine EW.ePickT ?_ | refine EW.ePickF ?_); refine EW.eMove ?_)
  all_goals try (refine EW.eGuard (j := 9) (o := ⟨some 53, _, _, _, _, _⟩) ?_ ?_ <;> (intro hb hb'; (try dsimp only at hb'); (try (exfalso; first | omega | with_reducible exact absurd rfl hb'))))
  all_goals try ((first | refine EW.eSkipT (j := 9) ?_ | refine EW.eSkipU (j := 9) ?_ | refine EW.eMove ?_); (first | refine EW.ePickT ?_ | refine EW.ePickF ?_); refine EW.eNeqB ?_; refine EW.eEnd ?_; (try refine EW.nm ?_))
  all_goals try (first | refine EW.eYes (x := Operand.tmp 55) ?_ | refine EW.eNo (x := Operand.tmp 55) ?_ | (refine EW.eCond (x := Operand.tmp 55) ?_ ?_ <;> (intro hb hb'; (try dsimp only at hb'); (try (exfalso; first | omega | with_reducible exact absurd rfl hb')))))
  all_goals try (refine EW.nm ?_)
  all_goals try ((first | refine EW.eRegL (id := 8) ?_ | refine EW.eReg (id := 8) ?_); refine EW.eAssign ?_; refine EW.eEnd ?_; (try refine EW.nm ?_))
  all_goals try (with_reducible refine EW.parkK ?_)
  all_goals try ((first | refine EW.eRegL (id := 9) ?_ | refine EW.eReg (id := 9) ?_); refine EW.eMove ?_; refine EW.eNeq ?_; refine EW.eEnd ?_; (try refine EW.nm ?_))
  all_goals try (first | refine EW.eYes (x := Operand.tmp 57) ?_ | refine EW.eNo (x := Operand.tmp 57) ?_ | (refine EW.eCond (x := Operand.tmp 57) ?_ ?_ <;> (intro hb hb'; (try dsimp only at hb'); (try (exfalso; first | omega | with_reducible exact absurd rfl hb')))))
  all_goals try (refine EW.nm ?_)
  all_goals try ((first | refine EW.eRegL (id := 10) ?_ | refine EW.eReg (id := 10) ?_); refine EW.eMove ?_; refine EW.eMove ?_)
  all_goals try (refine EW.eGuard (j := 1) (o := ⟨some 60, _, _, _, _, _⟩) ?_ ?_ <;> (intro hb hb'; (try dsimp only at hb'); (try (exfalso; first | omega | with_reducible exact absurd rfl hb'))))
  all_goals try ((first | refine EW.eSkipT (j := 1) ?_ | refine EW.eSkipU (j := 1) ?_ | refine EW.eFieldAddr (k := 1) ?_); (first | refine EW.eSkipT (j := 1) ?_ | refine EW.eSkipU (j := 1) ?_ | refine EW.eLoad1 ?_); (first | refine EW.eSkipT (j := 1) ?_ | refine EW.eSkipU (j := 1) ?_ | refine EW.eLenS ?_ | refine EW.eLenG ?_ | refine EW.eLenN ?_); (first | refine EW.eSkipT (j := 1) ?_ | refine EW.eSkipU (j := 1) ?_ | refine EW.eEql ?_); (first | refine EW.ePickT ?_ | refine EW.ePickF ?_); refine EW.eAssign ?_; refine EW.eEnd ?_; (try refine EW.nm ?_))
  all_goals try (with_reducible refine EW.parkK ?_)
  all_goals try ((first | refine EW.eRegL (id := 11) ?_ | refine EW.eReg (id := 11) ?_); refine EW.eFieldAddr (k := 1) ?_; refine EW.eLoad1 ?_; (first | refine EW.eLenS ?_ | refine EW.eLenG ?_ | refine EW.eLenN ?_); refine EW.eMove ?_; refine EW.eEnd ?_; (try refine EW.nm ?_))
  all_goals first | (fail_if_success (refine EW.eUnroll 1 ?_)) | (refine EW.eLoopD [4, 12, 13, 68, 69, 70, 71, 72, 73, 74, 75, 76, 77, 78, 79, 80, 81, 82, 83, 84, 85, 86, 87, 88, 89] 95 (fun j : {k : Nat // k ≤ xs.length} => [(.t 68, .v (.c (.v (.int .i64 j.1))))]) (fun j => xs.length - j.1) (⟨0, by omega⟩) (by ((repeat (first | exact EW.subW.nil | refine EW.subW.cons rfl ?_ | refine EW.subW.conv rfl ?_)); (first | done | fail))) ?_; rintro hcl12 ⟨k, hk⟩; (try dsimp only))
  all_goals try (refine EW.nm ?_)
  all_goals try ((first | refine EW.eRegL (id := 12) ?_ | refine EW.eReg (id := 12) ?_); refine EW.eLss ?_; refine EW.eEnd ?_; (try refine EW.nm ?_))
  all_goals try (first | refine EW.eYes (x := Operand.tmp 69) ?_ | refine EW.eNo (x := Operand.tmp 69) ?_ | (refine EW.eCond (x := Operand.tmp 69) ?_ ?_ <;> (intro hb hb'; (try dsimp only at hb'); (try (exfalso; first | omega | with_reducible exact absurd rfl hb')))))
  all_goals try (refine EW.nm ?_)
  all_goals (try ((try dsimp only at hk); have hkl : k < xs.length := (by omega); obtain ⟨hk1, hk2⟩ := hat k; have hNr := pnear f.p (xs.getD k Px.zero); obtain ⟨q, hq⟩ : ∃ q, f.p.near (xs.getD k Px.zero) = q := ⟨_, rfl⟩; rw [hq] at hNr hk1; rcases Nat.decEq k at9 with hka | hka; (obtain ⟨g1, g2, g3, g4⟩ := px_eq (hk2 hka)); rotate_left; (obtain ⟨g1, g2, g3, g4⟩ := px_eq (hk1 hka)); rotate_left))
  all_goals try ((first | refine EW.eRegL (id := 13) ?_ | refine EW.eReg (id := 13) ?_); refine EW.eMove ?_; refine EW.eAssign ?_; refine EW.eEnd ?_; (try refine EW.nm ?_))
  all_goals try ((first | refine EW.eRegL (id := 14) ?_ | refine EW.eReg (id := 14) ?_); refine EW.eFieldAddr (k := 1) ?_; refine EW.eLoad1 ?_; refine EW.eMove ?_; (first | refine EW.eIndexAddrS (z := 4) ?_ | refine EW.eIndexAddrG (z := 4) ?_); refine EW.eLoadA (k := 4) ?_; refine EW.eAlloc ?_; (first | refine EW.eStoreW (k := 4) ?_ | refine EW.eStore (k := 4) ?_); refine EW.eEnd ?_; (try refine EW.nm ?_))
  all_goals try ((first | refine EW.eRegL (id := 15) ?_ | refine EW.eReg (id := 15) ?_); refine EW.eMove ?_; refine EW.eMove ?_; refine EW.eEql ?_; refine EW.eEnd ?_; (try refine EW.nm ?_))
  all_goals try (first | refine EW.eYes (x := Operand.tmp 78) ?_ | refine EW.eNo (x := Operand.tmp 78) ?_ | (refine EW.eCond (x := Operand.tmp 78) ?_ ?_ <;> (intro hb hb'; (try dsimp only at hb'); (try (exfalso; first | omega | with_reducible exact absurd rfl hb')))))
  all_goals try (refine EW.nm ?_)
  all_goals try ((first | refine EW.eRegL (id := 16) ?_ | refine EW.eReg (id := 16) ?_); refine EW.eLoadA (k := 4) ?_; refine EW.eLoadA (k := 4) ?_; refine EW.eCall Try.call41 (fun w => hNr w) ?_; (first | refine EW.eStoreW (k := 4) ?_ | refine EW.eStore (k := 4) ?_); refine EW.eEnd ?_; (try refine EW.nm ?_))
  all_goals try ((first | refine EW.eRegL (id := 17) ?_ | refine EW.eReg (id := 17) ?_); refine EW.eFieldAddr (k := 1) ?_; refine EW.eLoad1 ?_; refine EW.eMove ?_; (first | refine EW.eIndexAddrS (z := 4) ?_ | refine EW.eIndexAddrG (z := 4) ?_); refine EW.eLoadA (k := 4) ?_; refine EW.eLoadA (k := 4) ?_; refine EW.eNeqA ?_; refine EW.eDraw ?_; (try refine EW.nm ?_))
  all_goals try (first | refine EW.eYes (x := Operand.tmp 88) ?_ | refine EW.eNo (x := Operand.tmp 88) ?_ | (refine EW.eCond (x := Operand.tmp 88) ?_ ?_ <;> (intro hb hb'; (try dsimp only at hb'); (try (exfalso; first | omega | with_reducible exact absurd rfl hb')))))
  all_goals try (refine EW.nm ?_)
  all_goals try ((first | refine EW.eRegL (id := 18) ?_ | refine EW.eReg (id := 18) ?_); refine EW.eAssign ?_; refine EW.eEnd ?_; (try refine EW.nm ?_))
  all_goals try (with_reducible refine EW.parkK ?_)
  all_goals try ((first | refine EW.eRegL (id := 19) ?_ | refine EW.eReg (id := 19) ?_); refine EW.eAdd ?_; refine EW.eMove ?_; refine EW.eEnd ?_; (try refine EW.nm ?_))
  all_goals first | (fail_if_success (with_reducible refine EW.isLater ?_)) | (refine EW.eLaterD (⟨k + 1, by omega⟩) (by dsimp only; omega) (by ((repeat (first | exact EW.subW.nil | refine EW.subW.cons rfl ?_ | refine EW.subW.conv rfl ?_)); (first | done | fail))) hcl12)
  all_goals try (refine EW.nm ?_)
  all_goals try ((first | refine EW.eRegL (id := 20) ?_ | refine EW.eReg (id := 20) ?_); refine EW.eMove ?_; refine EW.eMove ?_)
  all_goals try (refine EW.eGuard (j := 1) (o := ⟨some 92, _, _, _, _, _⟩) ?_ ?_ <;> (intro hb hb'; (try dsimp only at hb'); (try (exfalso; first | omega | with_reducible exact absurd rfl hb'))))
  all_goals try ((first | refine EW.eSkipT (j := 1) ?_ | refine EW.eSkipU (j := 1) ?_ | refine EW.eFieldAddr (k := 1) ?_); (first | refine EW.eSkipT (j := 1) ?_ | refine EW.eSkipU (j := 1) ?_ | refine EW.eLoad1 ?_); (first | refine EW.eSkipT (j := 1) ?_ | refine EW.eSkipU (j := 1) ?_ | refine EW.eFieldAddr (k := 1) ?_); (first | refine EW.eSkipT (j := 1) ?_ | refine EW.eSkipU (j := 1) ?_ | refine EW.eLoad1 ?_); (first | refine EW.eSkipT (j := 1) ?_ | refine EW.eSkipU (j := 1) ?_ | refine EW.eEql ?_); (first | refine EW.ePickT ?_ | refine EW.ePickF ?_); refine EW.eMove ?_)
  all_goals try (refine EW.eGuard (j := 8) (o := ⟨some 99, _, _, _, _, _⟩) ?_ ?_ <;> (intro hb hb'; (try dsimp only at hb'); (try (exfalso; first | omega | with_reducible exact absurd rfl hb'))))
  all_goals try ((first | refine EW.eSkipT (j := 8) ?_ | refine EW.eSkipU (j := 8) ?_ | refine EW.eFieldAddr (k := 1) ?_); (first | refine EW.eSkipT (j := 8) ?_ | refine EW.eSkipU (j := 8) ?_ | refine EW.eLoad1 ?_); (first | refine EW.eSkipT (j := 8) ?_ | refine EW.eSkipU (j := 8) ?_ | refine EW.eFieldAddr (k := 1) ?_); (first | refine EW.eSkipT (j := 8) ?_ | refine EW.eSkipU (j := 8) ?_ | refine EW.eLoad1 ?_); (first | refine EW.eSkipT (j := 8) ?_ | refine EW.eSkipU (j := 8) ?_ | refine EW.eEql ?_); (first | refine EW.ePickT ?_ | refine EW.ePickF ?_); refine EW.eMove ?_)
  all_goals try (refine EW.eGuard (j := 15) (o := ⟨some 106, _, _, _, _, _⟩) ?_ ?_ <;> (intro hb hb'; (try dsimp only at hb'); (try (exfalso; first | omega | with_reducible exact absurd rfl hb'))))
  all_goals try ((first | refine EW.eSkipT (j := 15) ?_ | refine EW.eSkipU (j := 15) ?_ | refine EW.eFieldAddr (k := 1) ?_); (first | refine EW.eSkipT (j := 15) ?_ | refine EW.eSkipU (j := 15) ?_ | refine EW.eLoad1 ?_); (first | refine EW.eSkipT (j := 15) ?_ | refine EW.eSkipU (j := 15) ?_ | refine EW.eLenS ?_ | refine EW.eLenG ?_ | refine EW.eLenN ?_); (first | refine EW.eSkipT (j := 15) ?_ | refine EW.eSkipU (j := 15) ?_ | refine EW.eFieldAddr (k := 1) ?_); (first | refine EW.eSkipT (j := 15) ?_ | refine EW.eSkipU (j := 15) ?_ | refine EW.eLoad1 ?_); (first | refine EW.eSkipT (j := 15) ?_ | refine EW.eSkipU (j := 15) ?_ | refine EW.eLenS ?_ | refine EW.eLenG ?_ | refine EW.eLenN ?_); (first | refine EW.eSkipT (j := 15) ?_ | refine EW.eSkipU (j := 15) ?_ | refine EW.eEql ?_); (first | refine EW.ePickT ?_ | refine EW.ePickF ?_); refine EW.eAssign ?_; refine EW.eEnd ?_; (try refine EW.nm ?_))
  all_goals try (with_reducible refine EW.parkK ?_)
  all_goals try (refine EW.Park.mk ?_)
  all_goals (refine EW.eLeaveN [] hR (by first | exact .inl rfl | exact .inr rfl) (by rfl) (by rfl) ?_ ?_ rfl rfl (by (((repeat (first | exact EW.NL.emp | (refine EW.NL.upd ?_ rfl) | refine EW.NL.drp ?_ | refine EW.NL.hp ?_ | refine EW.NL.argS ?_ | refine EW.NL.mix ?_)); (first | done | fail)))) rfl rfl; rotate_left 1; (· ((repeat (first | exact EW.atE.nil | refine EW.atE.lt rfl ?_ | refine EW.atE.lf ?_ | refine EW.atE.b rfl EW.SameB.refl ?_ | (refine EW.atE.b rfl ?_ ?_; rotate_left 1))))))
  all_goals rfl
end Go.Proofs.Ytflgamohploalaa
