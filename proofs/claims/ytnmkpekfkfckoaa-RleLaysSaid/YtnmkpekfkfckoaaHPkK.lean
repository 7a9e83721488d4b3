/- Package pack: the reader's Int, Small, Bit. -/
import Derived.Test.YtnmkpekfkfckoaaHPkF
namespace Go.Proofs.Ytnmkpekfkfckoaa
set_option linter.unusedSimpArgs false
set_option linter.unusedVariables false
open Go.RowKit EV
open SX (Wr Tv Qu Rm Sh Is conjP eqs_iff eqs_false)
open EW (PlL PlT PlV PlVs LfV Mm Bt Opn GV YT lpOf nums)
set_option maxRecDepth 20000
theorem rsmall_ok (bs : List Int) (p n m v k : Nat) (hy : By bs) (hn : p + n = bs.length) (hl : bs.length ≤ 1000000) (hm : m < 9223372036854775808) (h : num (bs.drop p) = some (v, k)) (hv : v ≤ m) : CT Try.prog 70 [.c (.p 0 0), .c (.v (.int .i64 m))] (upd EW.emp (WR bs p n false)) 2 2 (.c (.v (.int .i64 v))) (upd (upd EW.emp (WR bs p n false)) [(.b 0, .b (.m true (rcs (p + k) (n - k) false)))]) := by
  have hU := rupto_ok bs p n m v k hy hn hl h hv
  refine EW.ctEnter EW.sup1 Try.func70 rfl Try.ntmps70 rfl EW.nlP ?_; intro w0 tch ini R hR
  all_goals try (refine EW.nm ?_)
  all_goals try (refine EW.eReg (id := 0) ?_; refine EW.eAssign ?_; refine EW.eEnd ?_; (try refine EW.nm ?_))
  all_goals try (refine EW.eReg (id := 1) ?_; refine EW.eMove ?_; refine EW.eLss ?_; refine EW.eEnd ?_; (try refine EW.nm ?_))
  all_goals try (first | refine EW.eYes (x := .tmp 6) ?_ | refine EW.eNo (x := .tmp 6) ?_ | (refine EW.eCond (x := .tmp 6) ?_ ?_ <;> (intro hb hb'; (try dsimp only at hb'); (try (exfalso; first | omega | with_reducible exact absurd rfl hb')))))
  all_goals try (refine EW.nm ?_)
  all_goals try (refine EW.eReg (id := 2) ?_; refine EW.eMove ?_; fail "no contract of (*mullion/pack.Reader).Spoil"; refine EW.eEnd ?_; (try refine EW.nm ?_))
  all_goals try (refine EW.eReg (id := 3) ?_; refine EW.eAssign ?_; refine EW.eEnd ?_; (try refine EW.nm ?_))
  all_goals try (with_reducible refine EW.parkK ?_)
  all_goals try (refine EW.eReg (id := 4) ?_; refine EW.eMove ?_; refine EW.eMove ?_; refine EW.eConv ?_; refine EW.eCallN [0, 1] Try.call88 (hU) ?_; refine EW.eConv ?_; refine EW.eAssign ?_; refine EW.eEnd ?_; (try refine EW.nm ?_))
  all_goals try (with_reducible refine EW.parkK ?_)
  all_goals try (refine EW.Park.mk ?_)
  all_goals (refine EW.eLeaveN [] hR EW.orP (by rfl) (by rfl) ?_ ?_ rfl rfl EW.nlP rfl rfl; rotate_left 1; (· ((repeat (first | exact EW.atE.nil | refine EW.atE.lt rfl ?_ | refine EW.atE.lf ?_ | refine EW.atE.b rfl EW.SameB.refl ?_ | (refine EW.atE.b rfl ?_ ?_; rotate_left 1))))))
  all_goals rfl
theorem rsmall_no (bs : List Int) (p n m : Nat) (hy : By bs) (hn : p + n = bs.length) (hl : bs.length ≤ 1000000) (hm : m < 9223372036854775808) (h : ∀ v k, num (bs.drop p) = some (v, k) → m < v) : CT Try.prog 70 [.c (.p 0 0), .c (.v (.int .i64 m))] (upd EW.emp (WR bs p n false)) 2 2 (.c (.v (.int .i64 0))) (upd (upd EW.emp (WR bs p n false)) [(.b 0, .b (.m true (rcs p n true)))]) := by
  have hU := rupto_no bs p n m hy hn hl h
  refine EW.ctEnter EW.sup1 Try.func70 rfl Try.ntmps70 rfl EW.nlP ?_; intro w0 tch ini R hR
  all_goals try (refine EW.nm ?_)
  all_goals try (refine EW.eReg (id := 0) ?_; refine EW.eAssign ?_; refine EW.eEnd ?_; (try refine EW.nm ?_))
  all_goals try (refine EW.eReg (id := 1) ?_; refine EW.eMove ?_; refine EW.eLss ?_; refine EW.eEnd ?_; (try refine EW.nm ?_))
  all_goals try (first | refine EW.eYes (x := .tmp 6) ?_ | refine EW.eNo (x := .tmp 6) ?_ | (refine EW.eCond (x := .tmp 6) ?_ ?_ <;> (intro hb hb'; (try dsimp only at hb'); (try (exfalso; first | omega | with_reducible exact absurd rfl hb')))))
  all_goals try (refine EW.nm ?_)
  all_goals try (refine EW.eReg (id := 2) ?_; refine EW.eMove ?_; fail "no contract of (*mullion/pack.Reader).Spoil"; refine EW.eEnd ?_; (try refine EW.nm ?_))
  all_goals try (refine EW.eReg (id := 3) ?_; refine EW.eAssign ?_; refine EW.eEnd ?_; (try refine EW.nm ?_))
  all_goals try (with_reducible refine EW.parkK ?_)
  all_goals try (refine EW.eReg (id := 4) ?_; refine EW.eMove ?_; refine EW.eMove ?_; refine EW.eConv ?_; refine EW.eCallN [0, 1] Try.call88 (hU) ?_; refine EW.eConv ?_; refine EW.eAssign ?_; refine EW.eEnd ?_; (try refine EW.nm ?_))
  all_goals try (with_reducible refine EW.parkK ?_)
  all_goals try (refine EW.Park.mk ?_)
  all_goals (refine EW.eLeaveN [] hR EW.orP (by rfl) (by rfl) ?_ ?_ rfl rfl EW.nlP rfl rfl; rotate_left 1; (· ((repeat (first | exact EW.atE.nil | refine EW.atE.lt rfl ?_ | refine EW.atE.lf ?_ | refine EW.atE.b rfl EW.SameB.refl ?_ | (refine EW.atE.b rfl ?_ ?_; rotate_left 1))))))
  all_goals rfl
theorem rsmall_lost (bs : List Int) (p n m : Nat) (hm : m < 9223372036854775808) : CT Try.prog 70 [.c (.p 0 0), .c (.v (.int .i64 m))] (upd EW.emp (WR bs p n true)) 2 2 (.c (.v (.int .i64 0))) (upd (upd EW.emp (WR bs p n true)) []) := by
  have hU := rupto_lost bs p n m
  refine EW.ctEnter EW.sup1 Try.func70 rfl Try.ntmps70 rfl EW.nlP ?_; intro w0 tch ini R hR
  all_goals try (refine EW.nm ?_)
  all_goals try (refine EW.eReg (id := 0) ?_; refine EW.eAssign ?_; refine EW.eEnd ?_; (try refine EW.nm ?_))
  all_goals try (refine EW.eReg (id := 1) ?_; refine EW.eMove ?_; refine EW.eLss ?_; refine EW.eEnd ?_; (try refine EW.nm ?_))
  all_goals try (first | refine EW.eYes (x := .tmp 6) ?_ | refine EW.eNo (x := .tmp 6) ?_ | (refine EW.eCond (x := .tmp 6) ?_ ?_ <;> (intro hb hb'; (try dsimp only at hb'); (try (exfalso; first | omega | with_reducible exact absurd rfl hb')))))
  all_goals try (refine EW.nm ?_)
  all_goals try (refine EW.eReg (id := 2) ?_; refine EW.eMove ?_; fail "no contract of (*mullion/pack.Reader).Spoil"; refine EW.eEnd ?_; (try refine EW.nm ?_))
  all_goals try (refine EW.eReg (id := 3) ?_; refine EW.eAssign ?_; refine EW.eEnd ?_; (try refine EW.nm ?_))
  all_goals try (with_reducible refine EW.parkK ?_)
  all_goals try (refine EW.eReg (id := 4) ?_; refine EW.eMove ?_; refine EW.eMove ?_; refine EW.eConv ?_; refine EW.eCallN [0, 1] Try.call88 (hU) ?_; refine EW.eConv ?_; refine EW.eAssign ?_; refine EW.eEnd ?_; (try refine EW.nm ?_))
  all_goals try (with_reducible refine EW.parkK ?_)
  all_goals try (refine EW.Park.mk ?_)
  all_goals (refine EW.eLeaveN [] hR EW.orP (by rfl) (by rfl) ?_ ?_ rfl rfl EW.nlP rfl rfl; rotate_left 1; (· ((repeat (first | exact EW.atE.nil | refine EW.atE.lt rfl ?_ | refine EW.atE.lf ?_ | refine EW.atE.b rfl EW.SameB.refl ?_ | (refine EW.atE.b rfl ?_ ?_; rotate_left 1))))))
  all_goals rfl
end Go.Proofs.Ytnmkpekfkfckoaa
