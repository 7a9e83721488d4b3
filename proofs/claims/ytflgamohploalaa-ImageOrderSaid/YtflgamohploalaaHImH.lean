/- image: Paste; the document's. -/
import Derived.Test.YtflgamohploalaaHImG
namespace Go.Proofs.Ytflgamohploalaa
set_option linter.unusedSimpArgs false
set_option linter.unusedVariables false
open Go.RowKit EV
open SX (Wr Tv Qu Rm Sh Is conjP eqs_iff eqs_false)
open EW (PlL PlT PlV PlVs LfV Mm Bt Opn GV YT lpOf nums)
set_option maxRecDepth 20000
theorem pvs_put0 : ∀ (m l : List Px), put0 (pvs m) (pvs l) = pvs (put0 m l)
  | [], l => by cases l <;> rfl
  | x :: xs, [] => rfl
  | x :: xs, y :: l => by
    have := pvs_put0 xs l
    simp only [pvs, List.flatMap_cons, put0] at this ⊢
    simp only [Px.vals, List.cons_append, List.nil_append, put0]
    exact congrArg _ (congrArg _ (congrArg _ (congrArg _ this)))
theorem pvs_putL : ∀ (a : Nat) (m l : List Px), putL (a * 4) (pvs m) (pvs l) = pvs (putL a m l)
  | 0, m, l => by rw [Nat.zero_mul]; exact pvs_put0 m l
  | a + 1, m, [] => by rw [show (a + 1) * 4 = a * 4 + 1 + 1 + 1 + 1 by omega]; rfl
  | a + 1, m, y :: l => by
    have := pvs_putL a m l
    rw [show (a + 1) * 4 = a * 4 + 1 + 1 + 1 + 1 by omega]
    simp only [pvs, List.flatMap_cons, putL] at this ⊢
    simp only [Px.vals, List.cons_append, List.nil_append, putL]
    exact congrArg _ (congrArg _ (congrArg _ (congrArg _ this)))
/-- A span that may be. -/
def spOk (l : List Px) : Prop := l.length ≤ 4096 ∧ ∀ i, i < l.length → mayAt l i
theorem with_ct (o o' : Bool) (xs ys : List Px) (w h : Int) : CT Try.prog 49 [.a (imC 0 w h xs.length), .c (.g 1 0 ys.length ys.length 4)] (upd EW.emp (W2 o o' xs ys)) 2 2 (.a (imC 1 w h ys.length)) (upd (upd EW.emp (W2 o o' xs ys)) []) := by
  refine EW.ctEnter [10, 20, 30, 40, 50, 60, 70, 80, 90, 100, 110, 120, 130, 140, 150, 160, 170, 180, 190, 200, 210, 220, 230, 240, 250, 260, 270, 280, 290, 300, 310, 320, 330, 340, 350, 360, 370, 380, 390, 400, 410, 420, 430, 440, 450, 460, 470, 480, 490, 500, 510, 520, 530, 540, 550, 560, 570, 580, 590, 600] Try.func49 rfl Try.ntmps49 rfl (by (((repeat (first | exact EW.NL.emp | (refine EW.NL.upd ?_ rfl) | refine EW.NL.drp ?_ | refine EW.NL.hp ?_ | refine EW.NL.argS ?_ | refine EW.NL.mix ?_)); (first | done | fail)))) ?_; intro w0 tch ini R hR
  all_goals try (refine EW.nm ?_)
  all_goals try ((first | refine EW.eRegL (id := 0) ?_ | refine EW.eReg (id := 0) ?_); refine EW.eBox ?_; refine EW.eAlloc ?_; refine EW.eEnd ?_; (try refine EW.nm ?_))
  all_goals try ((first | refine EW.eRegL (id := 1) ?_ | refine EW.eReg (id := 1) ?_); refine EW.eFieldAddr (k := 1) ?_; refine EW.eLoad1 ?_; refine EW.eFieldAddr (k := 1) ?_; refine EW.eLoad1 ?_; refine EW.eMove ?_; refine EW.eBuild (place := fun i => [(0, 1), (1, 1), (2, 1)][i]?) ?_; (first | refine EW.eStoreW (k := 3) ?_ | refine EW.eStore (k := 3) ?_); refine EW.eEnd ?_; (try refine EW.nm ?_))
  all_goals try (with_reducible refine EW.parkK ?_)
  all_goals try (refine EW.Park.mk ?_)
  all_goals (refine EW.eLeaveN [] hR (by first | exact .inl rfl | exact .inr rfl) (by rfl) (by rfl) ?_ ?_ rfl rfl (by (((repeat (first | exact EW.NL.emp | (refine EW.NL.upd ?_ rfl) | refine EW.NL.drp ?_ | refine EW.NL.hp ?_ | refine EW.NL.argS ?_ | refine EW.NL.mix ?_)); (first | done | fail)))) rfl rfl; rotate_left 1; (· ((repeat (first | exact EW.atE.nil | refine EW.atE.lt rfl ?_ | refine EW.atE.lf ?_ | refine EW.atE.b rfl EW.SameB.refl ?_ | (refine EW.atE.b rfl ?_ ?_; rotate_left 1))))))
  all_goals rfl
theorem with_ctk (o o' : Bool) (xs ys : List Px) (w h : Int) (k : Nat) (hk : ys.length = k) : CT Try.prog 49 [.a (imC 0 w h xs.length), .c (.g 1 0 k k 4)] (upd EW.emp (W2 o o' xs ys)) 2 2 (.a (imC 1 w h k)) (upd (upd EW.emp (W2 o o' xs ys)) []) := by
  subst hk; exact with_ct o o' xs ys w h
end Go.Proofs.Ytflgamohploalaa
