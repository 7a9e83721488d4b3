/- rle: empty, slices.IndexFunc, set, Runs. -/
import Derived.Test.YtnmkpekfkfckoaaHImI
import Derived.Test.YtnmkpekfkfckoaaHRnP
namespace Go.Proofs.Ytnmkpekfkfckoaa
set_option linter.unusedSectionVars false
set_option linter.unusedSimpArgs false
set_option linter.unusedVariables false
open Go.RowKit EV
open SX (Wr Tv Qu Rm Sh Is conjP eqs_iff eqs_false)
open EW (PlL PlT PlV PlVs LfV Mm Bt Opn GV YT lpOf nums)
set_option maxRecDepth 20000
theorem empC_y (p : Px) (h : p.emp) (w : World) : Calls Try.prog 61 #[p.val] w fun e w' => e = .returned (.bool true) ∧ Below w.heap.size w w' := by
  obtain ⟨z, o, t, c⟩ := p
  unfold Px.emp at h
  dsimp only at h
  subst h
  refine EW.eEnter Try.func61 rfl Try.ntmps61 ?_
  all_goals try (refine EW.nm ?_)
  all_goals try (refine EW.eReg (id := 0) ?_; refine EW.eBox ?_; refine EW.eAssign ?_; refine EW.eEnd ?_; (try refine EW.nm ?_))
  all_goals try (refine EW.eReg (id := 1) ?_; refine EW.eFieldAddr (k := 1) ?_; refine EW.eLoad1 ?_; refine EW.eEql ?_; refine EW.eAssign ?_; refine EW.eEnd ?_; (try refine EW.nm ?_))
  all_goals try (with_reducible refine EW.parkK ?_)
  all_goals try (refine EW.Park.mk ?_)
  all_goals (refine EW.eLeaveP ?_; intro w' hW; refine ⟨?_, hW⟩)
  all_goals rfl
theorem empC_n (p : Px) (h : ¬ p.emp) (w : World) : Calls Try.prog 61 #[p.val] w fun e w' => e = .returned (.bool false) ∧ Below w.heap.size w w' := by
  obtain ⟨z, o, t, c⟩ := p
  unfold Px.emp at h
  dsimp only at h
  refine EW.eEnter Try.func61 rfl Try.ntmps61 ?_
  all_goals try (refine EW.nm ?_)
  all_goals try (refine EW.eReg (id := 0) ?_; refine EW.eBox ?_; refine EW.eAssign ?_; refine EW.eEnd ?_; (try refine EW.nm ?_))
  all_goals try (refine EW.eReg (id := 1) ?_; refine EW.eFieldAddr (k := 1) ?_; refine EW.eLoad1 ?_; refine EW.eEql ?_; refine EW.eAssign ?_; refine EW.eEnd ?_; (try refine EW.nm ?_))
  all_goals try (with_reducible refine EW.parkK ?_)
  all_goals try (refine EW.Park.mk ?_)
  all_goals (refine EW.eLeaveP ?_; intro w' hW; refine ⟨?_, hW⟩)
  all_goals first | rfl | (refine congrArg (fun b => Ending.returned (.bool b)) ?_; simp; omega)
theorem emp_y (p : Px) (h : p.emp) : CT Try.prog 61 [.a (pcs p)] (upd EW.emp []) 0 0 (.c (.v (.bool true))) (upd (upd EW.emp []) []) := by
  obtain ⟨z, o, t, c⟩ := p
  unfold Px.emp at h
  dsimp only at h
  subst h
  refine EW.ctEnter EW.sup1 Try.func61 rfl Try.ntmps61 rfl EW.nlP ?_; intro w0 tch ini R hR
  all_goals try (refine EW.nm ?_)
  all_goals try (refine EW.eReg (id := 0) ?_; refine EW.eBox ?_; refine EW.eAssign ?_; refine EW.eEnd ?_; (try refine EW.nm ?_))
  all_goals try (refine EW.eReg (id := 1) ?_; refine EW.eFieldAddr (k := 1) ?_; refine EW.eLoad1 ?_; refine EW.eEql ?_; refine EW.eAssign ?_; refine EW.eEnd ?_; (try refine EW.nm ?_))
  all_goals try (with_reducible refine EW.parkK ?_)
  all_goals try (refine EW.Park.mk ?_)
  all_goals (refine EW.eLeaveN [] hR EW.orP (by rfl) (by rfl) ?_ ?_ rfl rfl EW.nlP rfl rfl; rotate_left 1; (· ((repeat (first | exact EW.atE.nil | refine EW.atE.lt rfl ?_ | refine EW.atE.lf ?_ | refine EW.atE.b rfl EW.SameB.refl ?_ | (refine EW.atE.b rfl ?_ ?_; rotate_left 1))))))
  all_goals rfl
theorem emp_n (p : Px) (h : ¬ p.emp) : CT Try.prog 61 [.a (pcs p)] (upd EW.emp []) 0 0 (.c (.v (.bool false))) (upd (upd EW.emp []) []) := by
  obtain ⟨z, o, t, c⟩ := p
  unfold Px.emp at h
  dsimp only at h
  refine EW.ctEnter EW.sup1 Try.func61 rfl Try.ntmps61 rfl EW.nlP ?_; intro w0 tch ini R hR
  all_goals try (refine EW.nm ?_)
  all_goals try (refine EW.eReg (id := 0) ?_; refine EW.eBox ?_; refine EW.eAssign ?_; refine EW.eEnd ?_; (try refine EW.nm ?_))
  all_goals try (refine EW.eReg (id := 1) ?_; refine EW.eFieldAddr (k := 1) ?_; refine EW.eLoad1 ?_; refine EW.eEql ?_; refine EW.eAssign ?_; refine EW.eEnd ?_; (try refine EW.nm ?_))
  all_goals try (with_reducible refine EW.parkK ?_)
  all_goals try (refine EW.Park.mk ?_)
  all_goals (refine EW.eLeaveN [] hR EW.orP (by rfl) (by rfl) ?_ ?_ rfl rfl EW.nlP rfl rfl; rotate_left 1; (· ((repeat (first | exact EW.atE.nil | refine EW.atE.lt rfl ?_ | refine EW.atE.lf ?_ | refine EW.atE.b rfl EW.SameB.refl ?_ | (refine EW.atE.b rfl ?_ ?_; rotate_left 1))))))
  all_goals first | rfl | (refine congrArg (fun b => V.c (C.v (Value.bool b))) ?_; simp; omega)
theorem set_y (p : Px) (h : p.emp) : CT Try.prog 60 [.a (pcs p)] (upd EW.emp []) 0 0 (.c (.v (.bool false))) (upd (upd EW.emp []) []) := by
  have hc := empC_y p h
  clear h
  obtain ⟨z, o, t, c⟩ := p
  refine EW.ctEnter EW.sup1 Try.func60 rfl Try.ntmps60 rfl EW.nlP ?_; intro w0 tch ini R hR
  all_goals try (refine EW.nm ?_)
  all_goals try (refine EW.eReg (id := 0) ?_; refine EW.eBox ?_; refine EW.eAssign ?_; refine EW.eEnd ?_; (try refine EW.nm ?_))
  all_goals try (refine EW.eReg (id := 1) ?_; refine EW.eLoadA (k := 4) ?_; refine EW.eCall Try.call61 (fun w => hc w) ?_; refine EW.eNot ?_; refine EW.eAssign ?_; refine EW.eEnd ?_; (try refine EW.nm ?_))
  all_goals try (with_reducible refine EW.parkK ?_)
  all_goals try (refine EW.Park.mk ?_)
  all_goals (refine EW.eLeaveN [] hR EW.orP (by rfl) (by rfl) ?_ ?_ rfl rfl EW.nlP rfl rfl; rotate_left 1; (· ((repeat (first | exact EW.atE.nil | refine EW.atE.lt rfl ?_ | refine EW.atE.lf ?_ | refine EW.atE.b rfl EW.SameB.refl ?_ | (refine EW.atE.b rfl ?_ ?_; rotate_left 1))))))
  all_goals rfl
theorem set_n (p : Px) (h : ¬ p.emp) : CT Try.prog 60 [.a (pcs p)] (upd EW.emp []) 0 0 (.c (.v (.bool true))) (upd (upd EW.emp []) []) := by
  have hc := empC_n p h
  clear h
  obtain ⟨z, o, t, c⟩ := p
  refine EW.ctEnter EW.sup1 Try.func60 rfl Try.ntmps60 rfl EW.nlP ?_; intro w0 tch ini R hR
  all_goals try (refine EW.nm ?_)
  all_goals try (refine EW.eReg (id := 0) ?_; refine EW.eBox ?_; refine EW.eAssign ?_; refine EW.eEnd ?_; (try refine EW.nm ?_))
  all_goals try (refine EW.eReg (id := 1) ?_; refine EW.eLoadA (k := 4) ?_; refine EW.eCall Try.call61 (fun w => hc w) ?_; refine EW.eNot ?_; refine EW.eAssign ?_; refine EW.eEnd ?_; (try refine EW.nm ?_))
  all_goals try (with_reducible refine EW.parkK ?_)
  all_goals try (refine EW.Park.mk ?_)
  all_goals (refine EW.eLeaveN [] hR EW.orP (by rfl) (by rfl) ?_ ?_ rfl rfl EW.nlP rfl rfl; rotate_left 1; (· ((repeat (first | exact EW.atE.nil | refine EW.atE.lt rfl ?_ | refine EW.atE.lf ?_ | refine EW.atE.b rfl EW.SameB.refl ?_ | (refine EW.atE.b rfl ?_ ?_; rotate_left 1))))))
  all_goals rfl
section
variable (o : Bool) (l : List Px) (hl : l.length ≤ 10000)
include hl
theorem ixE_none (hs : ∀ i, i < l.length → (l.getD i Px.zero).emp) : CT Try.prog 59 [.c (.g 0 0 l.length l.length 4), .c (.f 60 [])] (upd EW.emp (WP o l)) 1 1 (.c (.v (.int .i64 (-1)))) (upd (upd EW.emp (WP o l)) []) := by
  refine EW.ctEnter EW.sup1 Try.func59 rfl Try.ntmps59 rfl EW.nlP ?_; intro w0 tch ini R hR
  all_goals try (refine EW.nm ?_)
  all_goals try (refine EW.eReg (id := 0) ?_; refine EW.eAssign ?_; refine EW.eEnd ?_; (try refine EW.nm ?_))
  all_goals try (refine EW.eReg (id := 1) ?_; refine EW.eMove ?_; (first | refine EW.eLenS ?_ | refine EW.eLenG ?_ | refine EW.eLenN ?_); refine EW.eMove ?_; refine EW.eEnd ?_; (try refine EW.nm ?_))
  all_goals first | (fail_if_success (refine EW.eUnroll 1 ?_)) | (refine EW.eLoopD [4, 5, 8, 9, 10, 11, 12, 13, 14, 15, 16, 17, 18] 1000000 (fun j : {i : Nat // i ≤ l.length} => [(.t 8, .v (.c (.v (.int .i64 j.1))))]) (fun j => l.length - j.1) (⟨0, by omega⟩) (by ((repeat (first | exact EW.subW.nil | refine EW.subW.cons rfl ?_ | refine EW.subW.conv rfl ?_)); (first | done | fail))) ?_; rintro hcl2 ⟨i, hi⟩; (try dsimp only))
  all_goals try (refine EW.nm ?_)
  all_goals try (refine EW.eReg (id := 2) ?_; refine EW.eLss ?_; refine EW.eEnd ?_; (try refine EW.nm ?_))
  all_goals try (first | refine EW.eYes (x := .tmp 9) ?_ | refine EW.eNo (x := .tmp 9) ?_ | (refine EW.eCond (x := .tmp 9) ?_ ?_ <;> (intro hb hb'; (try dsimp only at hb'); (try (exfalso; first | omega | with_reducible exact absurd rfl hb')))))
  all_goals try (refine EW.nm ?_)
  all_goals (try ((try dsimp only at hi); have hsi := hs i (by omega)))
  all_goals try (refine EW.eReg (id := 3) ?_; refine EW.eMove ?_; refine EW.eAssign ?_; refine EW.eEnd ?_; (try refine EW.nm ?_))
  all_goals try (refine EW.eReg (id := 4) ?_; refine EW.eMove ?_; refine EW.eMove ?_; refine EW.eMove ?_; (first | refine EW.eIndexAddrS (z := 4) ?_ | refine EW.eIndexAddrG (z := 4) ?_); refine EW.eLoadA (k := 4) ?_; (first | (refine EW.eCallN [] Try.call60 (set_y (l.getD i Px.zero) hsi) ?_)); refine EW.eEnd ?_; (try refine EW.nm ?_))
  all_goals try (first | refine EW.eYes (x := .tmp 16) ?_ | refine EW.eNo (x := .tmp 16) ?_ | (refine EW.eCond (x := .tmp 16) ?_ ?_ <;> (intro hb hb'; (try dsimp only at hb'); (try (exfalso; first | omega | with_reducible exact absurd rfl hb')))))
  all_goals try (refine EW.nm ?_)
  all_goals try (refine EW.eReg (id := 5) ?_; refine EW.eMove ?_; refine EW.eAssign ?_; refine EW.eEnd ?_; (try refine EW.nm ?_))
  all_goals try (with_reducible refine EW.parkK ?_)
  all_goals try (refine EW.eReg (id := 6) ?_; refine EW.eAdd ?_; refine EW.eMove ?_; refine EW.eEnd ?_; (try refine EW.nm ?_))
  all_goals first | (fail_if_success (with_reducible refine EW.isLater ?_)) | (refine EW.eLaterD (⟨i + 1, by omega⟩) (by dsimp only; omega) (by ((repeat (first | exact EW.subW.nil | refine EW.subW.cons rfl ?_ | refine EW.subW.conv rfl ?_)); (first | done | fail))) hcl2)
  all_goals try (refine EW.nm ?_)
  all_goals try (refine EW.eReg (id := 7) ?_; refine EW.eAssign ?_; refine EW.eEnd ?_; (try refine EW.nm ?_))
  all_goals try (with_reducible refine EW.parkK ?_)
  all_goals try (refine EW.Park.mk ?_)
  all_goals (refine EW.eLeaveN [] hR EW.orP (by rfl) (by rfl) ?_ ?_ rfl rfl EW.nlP rfl rfl; rotate_left 1; (· ((repeat (first | exact EW.atE.nil | refine EW.atE.lt rfl ?_ | refine EW.atE.lf ?_ | refine EW.atE.b rfl EW.SameB.refl ?_ | (refine EW.atE.b rfl ?_ ?_; rotate_left 1))))))
  all_goals rfl
theorem ixE_at (t : Nat) (ht : t < l.length) (hs : ∀ i, i < t → (l.getD i Px.zero).emp) (hno : ¬ (l.getD t Px.zero).emp) : CT Try.prog 59 [.c (.g 0 0 l.length l.length 4), .c (.f 60 [])] (upd EW.emp (WP o l)) 1 1 (.c (.v (.int .i64 t))) (upd (upd EW.emp (WP o l)) []) := by
  refine EW.ctEnter EW.sup1 Try.func59 rfl Try.ntmps59 rfl EW.nlP ?_; intro w0 tch ini R hR
  all_goals try (refine EW.nm ?_)
  all_goals try (refine EW.eReg (id := 0) ?_; refine EW.eAssign ?_; refine EW.eEnd ?_; (try refine EW.nm ?_))
  all_goals try (refine EW.eReg (id := 1) ?_; refine EW.eMove ?_; (first | refine EW.eLenS ?_ | refine EW.eLenG ?_ | refine EW.eLenN ?_); refine EW.eMove ?_; refine EW.eEnd ?_; (try refine EW.nm ?_))
  all_goals first | (fail_if_success (refine EW.eUnroll 1 ?_)) | (refine EW.eLoopD [4, 5, 8, 9, 10, 11, 12, 13, 14, 15, 16, 17, 18] 1000000 (fun j : {i : Nat // i ≤ t} => [(.t 8, .v (.c (.v (.int .i64 j.1))))]) (fun j => t - j.1) (⟨0, by omega⟩) (by ((repeat (first | exact EW.subW.nil | refine EW.subW.cons rfl ?_ | refine EW.subW.conv rfl ?_)); (first | done | fail))) ?_; rintro hcl2 ⟨i, hi⟩; (try dsimp only))
  all_goals try (refine EW.nm ?_)
  all_goals try (refine EW.eReg (id := 2) ?_; refine EW.eLss ?_; refine EW.eEnd ?_; (try refine EW.nm ?_))
  all_goals try (first | refine EW.eYes (x := .tmp 9) ?_ | refine EW.eNo (x := .tmp 9) ?_ | (refine EW.eCond (x := .tmp 9) ?_ ?_ <;> (intro hb hb'; (try dsimp only at hb'); (try (exfalso; first | omega | with_reducible exact absurd rfl hb')))))
  all_goals try (refine EW.nm ?_)
  all_goals (try ((try dsimp only at hi); have hiq : i < t ∨ t = i := (by omega); rcases hiq with hit | hit; (have hsi := hs i hit); rotate_left; subst hit; rotate_left))
  all_goals try (refine EW.eReg (id := 3) ?_; refine EW.eMove ?_; refine EW.eAssign ?_; refine EW.eEnd ?_; (try refine EW.nm ?_))
  all_goals try (refine EW.eReg (id := 4) ?_; refine EW.eMove ?_; refine EW.eMove ?_; refine EW.eMove ?_; (first | refine EW.eIndexAddrS (z := 4) ?_ | refine EW.eIndexAddrG (z := 4) ?_); refine EW.eLoadA (k := 4) ?_; (first | (refine EW.eCallN [] Try.call60 (set_y (l.getD i Px.zero) hsi) ?_) | (refine EW.eCallN [] Try.call60 (set_n (l.getD t Px.zero) hno) ?_)); refine EW.eEnd ?_; (try refine EW.nm ?_))
  all_goals try (first | refine EW.eYes (x := .tmp 16) ?_ | refine EW.eNo (x := .tmp 16) ?_ | (refine EW.eCond (x := .tmp 16) ?_ ?_ <;> (intro hb hb'; (try dsimp only at hb'); (try (exfalso; first | omega | with_reducible exact absurd rfl hb')))))
  all_goals try (refine EW.nm ?_)
  all_goals try (refine EW.eReg (id := 5) ?_; refine EW.eMove ?_; refine EW.eAssign ?_; refine EW.eEnd ?_; (try refine EW.nm ?_))
  all_goals try (with_reducible refine EW.parkK ?_)
  all_goals try (refine EW.eReg (id := 6) ?_; refine EW.eAdd ?_; refine EW.eMove ?_; refine EW.eEnd ?_; (try refine EW.nm ?_))
  all_goals first | (fail_if_success (with_reducible refine EW.isLater ?_)) | (refine EW.eLaterD (⟨i + 1, by omega⟩) (by dsimp only; omega) (by ((repeat (first | exact EW.subW.nil | refine EW.subW.cons rfl ?_ | refine EW.subW.conv rfl ?_)); (first | done | fail))) hcl2)
  all_goals try (refine EW.nm ?_)
  all_goals try (refine EW.eReg (id := 7) ?_; refine EW.eAssign ?_; refine EW.eEnd ?_; (try refine EW.nm ?_))
  all_goals try (with_reducible refine EW.parkK ?_)
  all_goals try (refine EW.Park.mk ?_)
  all_goals (refine EW.eLeaveN [] hR EW.orP (by rfl) (by rfl) ?_ ?_ rfl rfl EW.nlP rfl rfl; rotate_left 1; (· ((repeat (first | exact EW.atE.nil | refine EW.atE.lt rfl ?_ | refine EW.atE.lf ?_ | refine EW.atE.b rfl EW.SameB.refl ?_ | (refine EW.atE.b rfl ?_ ?_; rotate_left 1))))))
  all_goals rfl
theorem ixS_none (hs : ∀ i, i < l.length → ¬ (l.getD i Px.zero).emp) : CT Try.prog 59 [.c (.g 0 0 l.length l.length 4), .c (.f 61 [])] (upd EW.emp (WP o l)) 1 1 (.c (.v (.int .i64 (-1)))) (upd (upd EW.emp (WP o l)) []) := by
  refine EW.ctEnter EW.sup1 Try.func59 rfl Try.ntmps59 rfl EW.nlP ?_; intro w0 tch ini R hR
  all_goals try (refine EW.nm ?_)
  all_goals try (refine EW.eReg (id := 0) ?_; refine EW.eAssign ?_; refine EW.eEnd ?_; (try refine EW.nm ?_))
  all_goals try (refine EW.eReg (id := 1) ?_; refine EW.eMove ?_; (first | refine EW.eLenS ?_ | refine EW.eLenG ?_ | refine EW.eLenN ?_); refine EW.eMove ?_; refine EW.eEnd ?_; (try refine EW.nm ?_))
  all_goals first | (fail_if_success (refine EW.eUnroll 1 ?_)) | (refine EW.eLoopD [4, 5, 8, 9, 10, 11, 12, 13, 14, 15, 16, 17, 18] 1000000 (fun j : {i : Nat // i ≤ l.length} => [(.t 8, .v (.c (.v (.int .i64 j.1))))]) (fun j => l.length - j.1) (⟨0, by omega⟩) (by ((repeat (first | exact EW.subW.nil | refine EW.subW.cons rfl ?_ | refine EW.subW.conv rfl ?_)); (first | done | fail))) ?_; rintro hcl2 ⟨i, hi⟩; (try dsimp only))
  all_goals try (refine EW.nm ?_)
  all_goals try (refine EW.eReg (id := 2) ?_; refine EW.eLss ?_; refine EW.eEnd ?_; (try refine EW.nm ?_))
  all_goals try (first | refine EW.eYes (x := .tmp 9) ?_ | refine EW.eNo (x := .tmp 9) ?_ | (refine EW.eCond (x := .tmp 9) ?_ ?_ <;> (intro hb hb'; (try dsimp only at hb'); (try (exfalso; first | omega | with_reducible exact absurd rfl hb')))))
  all_goals try (refine EW.nm ?_)
  all_goals (try ((try dsimp only at hi); have hsi := hs i (by omega)))
  all_goals try (refine EW.eReg (id := 3) ?_; refine EW.eMove ?_; refine EW.eAssign ?_; refine EW.eEnd ?_; (try refine EW.nm ?_))
  all_goals try (refine EW.eReg (id := 4) ?_; refine EW.eMove ?_; refine EW.eMove ?_; refine EW.eMove ?_; (first | refine EW.eIndexAddrS (z := 4) ?_ | refine EW.eIndexAddrG (z := 4) ?_); refine EW.eLoadA (k := 4) ?_; (first | (refine EW.eCallN [] Try.call61 (emp_n (l.getD i Px.zero) hsi) ?_)); refine EW.eEnd ?_; (try refine EW.nm ?_))
  all_goals try (first | refine EW.eYes (x := .tmp 16) ?_ | refine EW.eNo (x := .tmp 16) ?_ | (refine EW.eCond (x := .tmp 16) ?_ ?_ <;> (intro hb hb'; (try dsimp only at hb'); (try (exfalso; first | omega | with_reducible exact absurd rfl hb')))))
  all_goals try (refine EW.nm ?_)
  all_goals try (refine EW.eReg (id := 5) ?_; refine EW.eMove ?_; refine EW.eAssign ?_; refine EW.eEnd ?_; (try refine EW.nm ?_))
  all_goals try (with_reducible refine EW.parkK ?_)
  all_goals try (refine EW.eReg (id := 6) ?_; refine EW.eAdd ?_; refine EW.eMove ?_; refine EW.eEnd ?_; (try refine EW.nm ?_))
  all_goals first | (fail_if_success (with_reducible refine EW.isLater ?_)) | (refine EW.eLaterD (⟨i + 1, by omega⟩) (by dsimp only; omega) (by ((repeat (first | exact EW.subW.nil | refine EW.subW.cons rfl ?_ | refine EW.subW.conv rfl ?_)); (first | done | fail))) hcl2)
  all_goals try (refine EW.nm ?_)
  all_goals try (refine EW.eReg (id := 7) ?_; refine EW.eAssign ?_; refine EW.eEnd ?_; (try refine EW.nm ?_))
  all_goals try (with_reducible refine EW.parkK ?_)
  all_goals try (refine EW.Park.mk ?_)
  all_goals (refine EW.eLeaveN [] hR EW.orP (by rfl) (by rfl) ?_ ?_ rfl rfl EW.nlP rfl rfl; rotate_left 1; (· ((repeat (first | exact EW.atE.nil | refine EW.atE.lt rfl ?_ | refine EW.atE.lf ?_ | refine EW.atE.b rfl EW.SameB.refl ?_ | (refine EW.atE.b rfl ?_ ?_; rotate_left 1))))))
  all_goals rfl
theorem ixS_at (t : Nat) (ht : t < l.length) (hs : ∀ i, i < t → ¬ (l.getD i Px.zero).emp) (hno : (l.getD t Px.zero).emp) : CT Try.prog 59 [.c (.g 0 0 l.length l.length 4), .c (.f 61 [])] (upd EW.emp (WP o l)) 1 1 (.c (.v (.int .i64 t))) (upd (upd EW.emp (WP o l)) []) := by
  refine EW.ctEnter EW.sup1 Try.func59 rfl Try.ntmps59 rfl EW.nlP ?_; intro w0 tch ini R hR
  all_goals try (refine EW.nm ?_)
  all_goals try (refine EW.eReg (id := 0) ?_; refine EW.eAssign ?_; refine EW.eEnd ?_; (try refine EW.nm ?_))
  all_goals try (refine EW.eReg (id := 1) ?_; refine EW.eMove ?_; (first | refine EW.eLenS ?_ | refine EW.eLenG ?_ | refine EW.eLenN ?_); refine EW.eMove ?_; refine EW.eEnd ?_; (try refine EW.nm ?_))
  all_goals first | (fail_if_success (refine EW.eUnroll 1 ?_)) | (refine EW.eLoopD [4, 5, 8, 9, 10, 11, 12, 13, 14, 15, 16, 17, 18] 1000000 (fun j : {i : Nat // i ≤ t} => [(.t 8, .v (.c (.v (.int .i64 j.1))))]) (fun j => t - j.1) (⟨0, by omega⟩) (by ((repeat (first | exact EW.subW.nil | refine EW.subW.cons rfl ?_ | refine EW.subW.conv rfl ?_)); (first | done | fail))) ?_; rintro hcl2 ⟨i, hi⟩; (try dsimp only))
  all_goals try (refine EW.nm ?_)
  all_goals try (refine EW.eReg (id := 2) ?_; refine EW.eLss ?_; refine EW.eEnd ?_; (try refine EW.nm ?_))
  all_goals try (first | refine EW.eYes (x := .tmp 9) ?_ | refine EW.eNo (x := .tmp 9) ?_ | (refine EW.eCond (x := .tmp 9) ?_ ?_ <;> (intro hb hb'; (try dsimp only at hb'); (try (exfalso; first | omega | with_reducible exact absurd rfl hb')))))
  all_goals try (refine EW.nm ?_)
  all_goals (try ((try dsimp only at hi); have hiq : i < t ∨ t = i := (by omega); rcases hiq with hit | hit; (have hsi := hs i hit); rotate_left; subst hit; rotate_left))
  all_goals try (refine EW.eReg (id := 3) ?_; refine EW.eMove ?_; refine EW.eAssign ?_; refine EW.eEnd ?_; (try refine EW.nm ?_))
  all_goals try (refine EW.eReg (id := 4) ?_; refine EW.eMove ?_; refine EW.eMove ?_; refine EW.eMove ?_; (first | refine EW.eIndexAddrS (z := 4) ?_ | refine EW.eIndexAddrG (z := 4) ?_); refine EW.eLoadA (k := 4) ?_; (first | (refine EW.eCallN [] Try.call61 (emp_n (l.getD i Px.zero) hsi) ?_) | (refine EW.eCallN [] Try.call61 (emp_y (l.getD t Px.zero) hno) ?_)); refine EW.eEnd ?_; (try refine EW.nm ?_))
  all_goals try (first | refine EW.eYes (x := .tmp 16) ?_ | refine EW.eNo (x := .tmp 16) ?_ | (refine EW.eCond (x := .tmp 16) ?_ ?_ <;> (intro hb hb'; (try dsimp only at hb'); (try (exfalso; first | omega | with_reducible exact absurd rfl hb')))))
  all_goals try (refine EW.nm ?_)
  all_goals try (refine EW.eReg (id := 5) ?_; refine EW.eMove ?_; refine EW.eAssign ?_; refine EW.eEnd ?_; (try refine EW.nm ?_))
  all_goals try (with_reducible refine EW.parkK ?_)
  all_goals try (refine EW.eReg (id := 6) ?_; refine EW.eAdd ?_; refine EW.eMove ?_; refine EW.eEnd ?_; (try refine EW.nm ?_))
  all_goals first | (fail_if_success (with_reducible refine EW.isLater ?_)) | (refine EW.eLaterD (⟨i + 1, by omega⟩) (by dsimp only; omega) (by ((repeat (first | exact EW.subW.nil | refine EW.subW.cons rfl ?_ | refine EW.subW.conv rfl ?_)); (first | done | fail))) hcl2)
  all_goals try (refine EW.nm ?_)
  all_goals try (refine EW.eReg (id := 7) ?_; refine EW.eAssign ?_; refine EW.eEnd ?_; (try refine EW.nm ?_))
  all_goals try (with_reducible refine EW.parkK ?_)
  all_goals try (refine EW.Park.mk ?_)
  all_goals (refine EW.eLeaveN [] hR EW.orP (by rfl) (by rfl) ?_ ?_ rfl rfl EW.nlP rfl rfl; rotate_left 1; (· ((repeat (first | exact EW.atE.nil | refine EW.atE.lt rfl ?_ | refine EW.atE.lf ?_ | refine EW.atE.b rfl EW.SameB.refl ?_ | (refine EW.atE.b rfl ?_ ?_; rotate_left 1))))))
  all_goals rfl
end
theorem pvs_tail {l : List Px} {a : Nat} (h : a ≤ l.length) : EW.Sub (pvs l) (pvs (l.drop a)) (a * 4) := by
  have := pvs_part (l := l) (a := a) (k := l.length - a) (by omega)
  rwa [List.take_of_length_le (by rw [List.length_drop]; omega)] at this
end Go.Proofs.Ytnmkpekfkfckoaa
