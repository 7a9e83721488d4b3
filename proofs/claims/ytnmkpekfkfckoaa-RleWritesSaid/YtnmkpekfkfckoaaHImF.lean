/- image: Twin, twin, kept; slices.Clone of any pixels. -/
import Derived.Test.YtnmkpekfkfckoaaHImD
import Derived.Test.YtnmkpekfkfckoaaHEwU
namespace Go.Proofs.Ytnmkpekfkfckoaa
set_option linter.unusedSimpArgs false
set_option linter.unusedVariables false
open Go.RowKit EV
open SX (Wr Tv Qu Rm Sh Is conjP eqs_iff eqs_false)
open EW (PlL PlT PlV PlVs LfV Mm Bt Opn GV YT lpOf nums)
set_option maxRecDepth 20000
theorem dtwin (o : Bool) (l : List Px) (hl : l.length ≤ 10000) : CT Try.prog 12 [.c (.g 0 0 l.length l.length 4)] (upd EW.emp (WP o l)) 1 2 (.c (.g 1 0 l.length l.length 4)) (upd (upd EW.emp (WP o l)) [(.l 1, .l true), (.b 1, .b (.w true (pvs l)))]) := by
  refine EW.ctEnter [10, 20, 30, 40, 50, 60, 70, 80, 90, 100, 110, 120, 130, 140, 150, 160, 170, 180, 190, 200, 210, 220, 230, 240, 250, 260, 270, 280, 290, 300, 310, 320, 330, 340, 350, 360, 370, 380, 390, 400, 410, 420, 430, 440, 450, 460, 470, 480, 490, 500, 510, 520, 530, 540, 550, 560, 570, 580, 590, 600] Try.func12 rfl Try.ntmps12 rfl (by (((repeat (first | exact EW.NL.emp | (refine EW.NL.upd ?_ rfl) | refine EW.NL.drp ?_ | refine EW.NL.hp ?_ | refine EW.NL.argS ?_ | refine EW.NL.mix ?_)); (first | done | fail)))) ?_; intro w0 tch ini R hR
  all_goals try (refine EW.nm ?_)
  all_goals try ((first | refine EW.eRegL (id := 0) ?_ | refine EW.eReg (id := 0) ?_); refine EW.eAssign ?_; refine EW.eEnd ?_; (try refine EW.nm ?_))
  all_goals try ((first | refine EW.eRegL (id := 1) ?_ | refine EW.eReg (id := 1) ?_); refine EW.eAssign ?_; refine EW.eEnd ?_; (try refine EW.nm ?_))
  all_goals try ((first | refine EW.eRegL (id := 2) ?_ | refine EW.eReg (id := 2) ?_); refine EW.eMove ?_; refine EW.eMove ?_; (first | refine EW.eAppGW (z := 4) ?_ | refine EW.eAppG (z := 4) ?_ | refine EW.eAppZW (z := 4) ?_ | refine EW.eAppZ (z := 4) ?_ | refine EW.eAppSW (z := 4) ?_ | refine EW.eAppS (z := 4) ?_ | refine EW.eAppNW (z := 4) ?_ | refine EW.eAppN (z := 4) ?_); refine EW.eAssign ?_; refine EW.eEnd ?_; (try refine EW.nm ?_))
  all_goals try (with_reducible refine EW.parkK ?_)
  all_goals try (refine EW.Park.mk ?_)
  all_goals (refine EW.eLeaveN [10] hR (by first | exact .inl rfl | exact .inr rfl) (by rfl) (by rfl) ?_ ?_ rfl rfl (by (((repeat (first | exact EW.NL.emp | (refine EW.NL.upd ?_ rfl) | refine EW.NL.drp ?_ | refine EW.NL.hp ?_ | refine EW.NL.argS ?_ | refine EW.NL.mix ?_)); (first | done | fail)))) rfl rfl; rotate_left 1; (· ((repeat (first | exact EW.atE.nil | refine EW.atE.lt rfl ?_ | refine EW.atE.lf ?_ | refine EW.atE.b rfl EW.SameB.refl ?_ | (refine EW.atE.b rfl ?_ ?_; rotate_left 1))))))
  all_goals rfl
/-- The pixel that stands behind the end of a twin. -/
abbrev p77 : Px := ⟨0, 77, 0, 0⟩
theorem pvs_add (l : List Px) (z o t c : Int) : pvs l ++ [.int .u32 z, .int .i64 o, .int .i64 t, .int .u32 c] = pvs (l ++ [⟨z, o, t, c⟩]) := by simp [pvs, Px.vals]
theorem app_end {l : List Px} {p : Px} : (l ++ [p]).getD l.length Px.zero = p := by
  rw [List.getD_eq_getElem?_getD, List.getElem?_append_right (Nat.le_refl _), Nat.sub_self]; rfl
theorem pvs_head (l t : List Px) : EW.Sub (pvs (l ++ t)) (pvs l) 0 := by
  have := pvs_part (l := l ++ t) (a := 0) (k := l.length) (by simp)
  simpa using this
end Go.Proofs.Ytnmkpekfkfckoaa
