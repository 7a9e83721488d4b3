/- Package pixel: Cmp, Near, Of; the document's Of. -/
import Derived.Test.YtnmkpekfkfckoaaHPx1
import Derived.Test.YtnmkpekfkfckoaaHZE
namespace Go.Proofs.Ytnmkpekfkfckoaa
set_option linter.unusedSimpArgs false
set_option linter.unusedVariables false
open Go.RowKit EV
open SX (Wr Tv Qu Rm Sh Is conjP eqs_iff eqs_false)
open EW (PlL PlT PlV PlVs LfV Mm Bt Opn GV)
set_option maxRecDepth 20000
abbrev W4 (a b c d : Int) : Ws := [(.l 0, .l true), (.b 0, .b (.m true [.v (.int .i64 a), .v (.int .i64 b), .v (.int .i64 c), .v (.int .i64 d)]))]
theorem or4_ct (a b c d : Int) : CT Try.prog 103 [.c (.s 0 0 4 4)] (upd EW.emp (W4 a b c d)) 1 1 (.c (.v (.int .i64 (or4 a b c d)))) (upd (upd EW.emp (W4 a b c d)) []) := by
  unfold or4
  refine EW.ctEnter EW.sup1 Try.func103 rfl Try.ntmps103 rfl EW.nlP ?_; intro w0 tch ini R hR
  all_goals try (refine EW.nm ?_)
  all_goals try (refine EW.eReg (id := 0) ?_; refine EW.eAssign ?_; refine EW.eEnd ?_; (try refine EW.nm ?_))
  all_goals try (refine EW.eReg (id := 1) ?_; refine EW.eAssign ?_; refine EW.eEnd ?_; (try refine EW.nm ?_))
  all_goals try (refine EW.eReg (id := 2) ?_; refine EW.eMove ?_; (first | refine EW.eLenS ?_ | refine EW.eLenG ?_ | refine EW.eLenN ?_); refine EW.eMove ?_; refine EW.eEnd ?_; (try refine EW.nm ?_))
  all_goals try (refine EW.eUnroll 5 ?_)
  all_goals try (refine EW.nm ?_)
  iterate 5 (
    all_goals try (refine EW.eReg (id := 3) ?_; refine EW.eLss ?_; refine EW.eEnd ?_; (try refine EW.nm ?_))
    all_goals try (first | refine EW.eYes (x := .tmp 9) ?_ | refine EW.eNo (x := .tmp 9) ?_ | (refine EW.eCond (x := .tmp 9) ?_ ?_ <;> (intro hb hb'; (try dsimp only at hb'); (try (exfalso; first | omega | with_reducible exact absurd rfl hb')))))
    all_goals try (refine EW.nm ?_)
    all_goals try (refine EW.eReg (id := 4) ?_; (first | refine EW.eIndexAddrS (z := 1) ?_ | refine EW.eIndexAddrG (z := 1) ?_); refine EW.eLoad1 ?_; refine EW.eAssign ?_; refine EW.eEnd ?_; (try refine EW.nm ?_))
    all_goals try (refine EW.eReg (id := 5) ?_; refine EW.eMove ?_; refine EW.eMove ?_; refine EW.eNeq ?_; refine EW.eEnd ?_; (try refine EW.nm ?_))
    all_goals try (first | refine EW.eYes (x := .tmp 14) ?_ | refine EW.eNo (x := .tmp 14) ?_ | (refine EW.eCond (x := .tmp 14) ?_ ?_ <;> (intro hb hb'; (try dsimp only at hb'); (try (exfalso; first | omega | with_reducible exact absurd rfl hb')))))
    all_goals try (refine EW.nm ?_)
    all_goals try (refine EW.eReg (id := 6) ?_; refine EW.eMove ?_; refine EW.eAssign ?_; refine EW.eEnd ?_; (try refine EW.nm ?_))
    all_goals try (with_reducible refine EW.parkK ?_)
    all_goals try (refine EW.eReg (id := 7) ?_; refine EW.eAdd ?_; refine EW.eMove ?_; refine EW.eEnd ?_; (try refine EW.nm ?_)))
  all_goals try (refine EW.eReg (id := 8) ?_; refine EW.eMove ?_; refine EW.eAssign ?_; refine EW.eEnd ?_; (try refine EW.nm ?_))
  all_goals try (with_reducible refine EW.parkK ?_)
  all_goals try (refine EW.Park.mk ?_)
  all_goals (refine EW.eLeaveN [] hR EW.orP (by rfl) (by rfl) ?_ ?_ rfl rfl EW.nlP rfl rfl; rotate_left 1; (· ((repeat (first | exact EW.atE.nil | refine EW.atE.lt rfl ?_ | refine EW.atE.lf ?_ | refine EW.atE.b rfl EW.SameB.refl ?_ | (refine EW.atE.b rfl ?_ ?_; rotate_left 1))))))
  all_goals simp_all [EW.Vren, EW.Cren]
theorem pcmp (a b : Px) (w : World) : Calls Try.prog 95 #[a.val, b.val] w fun e w' => e = .returned (.int .i64 (a.cmp b)) ∧ Below w.heap.size w w' := by
  obtain ⟨z, o, t, c⟩ := a
  obtain ⟨z', o', t', c'⟩ := b
  unfold Px.cmp
  refine EW.eEnter Try.func95 rfl Try.ntmps95 ?_
  all_goals try (refine EW.nm ?_)
  all_goals try (refine EW.eReg (id := 0) ?_; refine EW.eBox ?_; refine EW.eBox ?_; refine EW.eAssign ?_; refine EW.eEnd ?_; (try refine EW.nm ?_))
  all_goals try (refine EW.eReg (id := 1) ?_; refine EW.eFieldAddr (k := 1) ?_; refine EW.eLoad1 ?_; refine EW.eFieldAddr (k := 1) ?_; refine EW.eLoad1 ?_; refine EW.eCall Try.call104 (fun w => cmp32 _ _ w) ?_; refine EW.eFieldAddr (k := 1) ?_; refine EW.eLoad1 ?_; refine EW.eFieldAddr (k := 1) ?_; refine EW.eLoad1 ?_; refine EW.eCall Try.call105 (fun w => cmp64 _ _ w) ?_; refine EW.eFieldAddr (k := 1) ?_; refine EW.eLoad1 ?_; refine EW.eFieldAddr (k := 1) ?_; refine EW.eLoad1 ?_; refine EW.eCall Try.call105 (fun w => cmp64 _ _ w) ?_; refine EW.eFieldAddr (k := 1) ?_; refine EW.eLoad1 ?_; refine EW.eFieldAddr (k := 1) ?_; refine EW.eLoad1 ?_; refine EW.eCall Try.call104 (fun w => cmp32 _ _ w) ?_; refine EW.eBuildSlice (k := 1) ?_; refine EW.eCallN [30] Try.call103 (or4_ct _ _ _ _) ?_; refine EW.eAssign ?_; refine EW.eDraw ?_; (try refine EW.nm ?_))
  all_goals try (with_reducible refine EW.parkK ?_)
  all_goals try (refine EW.Park.mk ?_)
  all_goals (refine EW.eLeaveP ?_; intro w' hW; refine ⟨?_, hW⟩)
  all_goals rfl
def Px.near (a b : Px) : Px := if b.cmp a < 0 then b else a
theorem pnear (a b : Px) (w : World) : Calls Try.prog 82 #[a.val, b.val] w fun e w' => e = .returned (a.near b).val ∧ Below w.heap.size w w' := by
  unfold Px.near
  obtain ⟨z, o, t, c⟩ := a
  obtain ⟨z', o', t', c'⟩ := b
  refine EW.eEnter Try.func82 rfl Try.ntmps82 ?_
  all_goals try (refine EW.nm ?_)
  all_goals try (refine EW.eReg (id := 0) ?_; refine EW.eBox ?_; refine EW.eBox ?_; refine EW.eAlloc ?_; refine EW.eEnd ?_; (try refine EW.nm ?_))
  all_goals try (refine EW.eReg (id := 1) ?_; refine EW.eLoadA (k := 4) ?_; refine EW.eLoadA (k := 4) ?_; refine EW.eCall Try.call95 (fun w => pcmp ⟨_, _, _, _⟩ ⟨_, _, _, _⟩ w) ?_; refine EW.eLss ?_; refine EW.eEnd ?_; (try refine EW.nm ?_))
  all_goals try (first | refine EW.eYes (x := .tmp 8) ?_ | refine EW.eNo (x := .tmp 8) ?_ | (refine EW.eCond (x := .tmp 8) ?_ ?_ <;> (intro hb hb'; (try dsimp only at hb'); (try (exfalso; first | omega | with_reducible exact absurd rfl hb')))))
  all_goals try (refine EW.nm ?_)
  all_goals try (refine EW.eReg (id := 2) ?_; refine EW.eLoadA (k := 4) ?_; (first | refine EW.eStoreW (k := 4) ?_ | refine EW.eStore (k := 4) ?_); refine EW.eEnd ?_; (try refine EW.nm ?_))
  all_goals try (with_reducible refine EW.parkK ?_)
  all_goals try (refine EW.eReg (id := 3) ?_; refine EW.eLoadA (k := 4) ?_; (first | refine EW.eStoreW (k := 4) ?_ | refine EW.eStore (k := 4) ?_); refine EW.eEnd ?_; (try refine EW.nm ?_))
  all_goals try (with_reducible refine EW.parkK ?_)
  all_goals try (refine EW.Park.mk ?_)
  all_goals (refine EW.eLeaveP ?_; intro w' hW; refine ⟨?_, hW⟩)
  all_goals first | rw [if_pos hb'] | rw [if_neg (by omega)]
def Px.zero : Px := ⟨0, 0, 0, 0⟩
theorem pcheck_is (p : Px) (r : Int) (w : World) (h : (if p.may then 0 else 130) = r) : Calls Try.prog 62 #[p.val] w fun e w' => e = .returned (.int .i64 r) ∧ Below w.heap.size w w' := h ▸ pcheck p w
theorem rmay_is (p : Px) (r : Bool) (w : World) (h : decide p.may = r) : Calls Try.prog 63 #[p.val] w fun e w' => e = .returned (.bool r) ∧ Below w.heap.size w w' := h ▸ rmay p w
end Go.Proofs.Ytnmkpekfkfckoaa
