import Derived.Test.YtnmkpekfkfckoaaHPkF
import Derived.Test.YtnmkpekfkfckoaaHCrL
import Derived.Test.YtnmkpekfkfckoaaHRlK
/- Package pack: PackAgain. -/
namespace Go.Proofs.Ytnmkpekfkfckoaa
set_option linter.unusedSimpArgs false
set_option linter.unusedVariables false
open Go.RowKit EV
open SX (Wr Tv Qu Rm Sh Is conjP eqs_iff eqs_false)
open EW (PlL PlT PlV PlVs LfV Mm Bt Opn GV YT lpOf nums)
set_option maxRecDepth 20000
/-- Bytes as a text's. -/
def U (l : List Int) : List UInt8 := l.map fun x => UInt8.ofNat x.toNat
theorem text_nums : ∀ {l : List Int}, By l → nums .u8 l = (U l).map u8V
  | [], _ => rfl
  | x :: l, h => by
    have h1 := text_nums (l := l) (fun y hy => h y (by simp [hy]))
    have h2 := h x (by simp)
    have h3 : Value.int .u8 x = u8V (UInt8.ofNat x.toNat) := by
      unfold u8V
      rw [UInt8.toNat_ofNat']
      congr 1
      omega
    simp only [nums, List.map_cons, U] at h1 ⊢
    rw [h1, h3]
theorem text_all {l : List Int} (h : By l) : (((nums .u8 l).map C.v).drop 0).take l.length = ((U l).map u8V).map C.v := by
  rw [List.drop_zero, List.take_of_length_le (by simp [nums]), text_nums h]
theorem rleftT (bs : List Int) (p n : Nat) : CT Try.prog 89 [.c (.p 0 0)] (upd EW.emp (WR bs p n true)) 2 2 (.c (.v (.int .i64 0))) (upd (upd EW.emp (WR bs p n true)) []) := rleft bs p n true
theorem rleftF (bs : List Int) (p n : Nat) : CT Try.prog 89 [.c (.p 0 0)] (upd EW.emp (WR bs p n false)) 2 2 (.c (.v (.int .i64 n))) (upd (upd EW.emp (WR bs p n false)) []) := rleft bs p n false
theorem rendT (bs : List Int) (p n : Nat) : CT Try.prog 45 [.c (.p 0 0)] (upd EW.emp (WR bs p n true)) 2 2 (.c (.v (.int .i64 50))) (upd (upd EW.emp (WR bs p n true)) []) := rend bs p n true
theorem rendF (bs : List Int) (p n : Nat) (h : n = 0) : CT Try.prog 45 [.c (.p 0 0)] (upd EW.emp (WR bs p n false)) 2 2 (.c (.v (.int .i64 0))) (upd (upd EW.emp (WR bs p n false)) []) := by
  have := rend bs p n false
  rwa [if_neg (by simp; omega)] at this
end Go.Proofs.Ytnmkpekfkfckoaa
/- RleWrites: the walk. -/
namespace Go.Proofs.Ytnmkpekfkfckoaa
set_option linter.unusedSimpArgs false
set_option linter.unusedVariables false
open Go.RowKit Go.ChangeShapes Go.WideShapes EV
open SX (Wr Tv Qu Rm Sh Is conjP eqs_iff eqs_false)
open EW (PlL PlT PlV PlVs LfV Mm Bt Opn GV YT lpOf nums)
set_option maxRecDepth 20000
theorem same13_y (o o' : Bool) (l : List Px) (hl : l.length ≤ 10000) : CT Try.prog 19 [.c (.g 0 0 l.length l.length 4), .c (.g 1 0 l.length l.length 4)] (upd EW.emp (W2 o o' l l)) 2 2 (.c (.v (.bool true))) (upd (upd EW.emp (W2 o o' l l)) []) := by
  have := rsame13 o o' l l hl hl
  rwa [decide_eq_true rfl] at this
theorem seal_by {b : List Int} (h : By b) : By (sealL b) := by
  have hs := sumN_lt b
  refine by_app2 h fun x hx => ?_
  simp only [sealB, List.mem_cons, List.not_mem_nil, or_false] at hx
  rcases hx with rfl | rfl | rfl | rfl <;> omega
theorem seal_len (b : List Int) : (sealL b).length = b.length + 4 := by simp [sealL, sealB]
theorem rgreat_y (o : Bool) (l : List Px) (h : 4200 < l.length) : CT Try.prog 11 [.c (.g 0 0 l.length l.length 4)] (upd EW.emp (WP o l)) 1 1 (.c (.v (.bool true))) (upd (upd EW.emp (WP o l)) []) := by
  refine EW.ctEnter EW.sup1 Try.func11 rfl Try.ntmps11 rfl EW.nlP ?_; intro w0 tch ini R hR
  all_goals try (refine EW.nm ?_)
  all_goals try (refine EW.eReg (id := 0) ?_; refine EW.eAssign ?_; refine EW.eEnd ?_; (try refine EW.nm ?_))
  all_goals try (refine EW.eReg (id := 1) ?_; refine EW.eMove ?_; (first | refine EW.eLenS ?_ | refine EW.eLenG ?_ | refine EW.eLenN ?_); refine EW.eGtr ?_; refine EW.eAssign ?_; refine EW.eEnd ?_; (try refine EW.nm ?_))
  all_goals try (with_reducible refine EW.parkK ?_)
  all_goals try (refine EW.Park.mk ?_)
  all_goals (refine EW.eLeaveN [] hR EW.orP (by rfl) (by rfl) ?_ ?_ rfl rfl EW.nlP rfl rfl; rotate_left 1; (· ((repeat (first | exact EW.atE.nil | refine EW.atE.lt rfl ?_ | refine EW.atE.lf ?_ | refine EW.atE.b rfl EW.SameB.refl ?_ | (refine EW.atE.b rfl ?_ ?_; rotate_left 1))))))
  all_goals rfl
theorem rgreat_n (o : Bool) (l : List Px) (h : l.length ≤ 4200) : CT Try.prog 11 [.c (.g 0 0 l.length l.length 4)] (upd EW.emp (WP o l)) 1 1 (.c (.v (.bool false))) (upd (upd EW.emp (WP o l)) []) := by
  refine EW.ctEnter EW.sup1 Try.func11 rfl Try.ntmps11 rfl EW.nlP ?_; intro w0 tch ini R hR
  all_goals try (refine EW.nm ?_)
  all_goals try (refine EW.eReg (id := 0) ?_; refine EW.eAssign ?_; refine EW.eEnd ?_; (try refine EW.nm ?_))
  all_goals try (refine EW.eReg (id := 1) ?_; refine EW.eMove ?_; (first | refine EW.eLenS ?_ | refine EW.eLenG ?_ | refine EW.eLenN ?_); refine EW.eGtr ?_; refine EW.eAssign ?_; refine EW.eEnd ?_; (try refine EW.nm ?_))
  all_goals try (with_reducible refine EW.parkK ?_)
  all_goals try (refine EW.Park.mk ?_)
  all_goals (refine EW.eLeaveN [] hR EW.orP (by rfl) (by rfl) ?_ ?_ rfl rfl EW.nlP rfl rfl; rotate_left 1; (· ((repeat (first | exact EW.atE.nil | refine EW.atE.lt rfl ?_ | refine EW.atE.lf ?_ | refine EW.atE.b rfl EW.SameB.refl ?_ | (refine EW.atE.b rfl ?_ ?_; rotate_left 1))))))
  all_goals rfl
end Go.Proofs.Ytnmkpekfkfckoaa
