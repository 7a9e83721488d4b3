/- rle: Size; the document's Encode. -/
import Derived.Test.YtnmkpekfkfckoaaHRlI
import Derived.Test.YtnmkpekfkfckoaaHRlE
namespace Go.Proofs.Ytnmkpekfkfckoaa
set_option linter.unusedSimpArgs false
set_option linter.unusedVariables false
open Go.RowKit EV
open SX (Wr Tv Qu Rm Sh Is conjP eqs_iff eqs_false)
open EW (PlL PlT PlV PlVs LfV Mm Bt Opn GV YT lpOf nums)
set_option maxRecDepth 20000
theorem dsame_e (o : Bool) (l : List Px) (a : Nat) (h : a ≤ l.length) (hl : l.length ≤ 10000) : CT Try.prog 39 [.c (.g 0 0 l.length l.length 4), .c (.v (.int .i64 (a : Int))), .c (.v (.bool true))] (upd EW.emp (WP o l)) 1 1 (.c (.v (.int .i64 (skipE (l.drop a) : Nat)))) (upd (upd EW.emp (WP o l)) []) := by
  have hdl : (l.drop a).length = l.length - a := List.length_drop
  have hin := skipE_in (l.drop a)
  have hle := skipE_le (l.drop a)
  have hat := skipE_at (l.drop a)
  simp only [drop_getD] at hin hat
  rw [hdl] at hle hat
  generalize skipE (l.drop a) = t at *
  clear hdl
  refine EW.ctEnter EW.sup1 Try.func39 rfl Try.ntmps39 rfl EW.nlP ?_; intro w0 tch ini R hR
  all_goals try (refine EW.nm ?_)
  all_goals try (refine EW.eReg (id := 0) ?_; refine EW.eAssign ?_; refine EW.eEnd ?_; (try refine EW.nm ?_))
  all_goals try (refine EW.eReg (id := 1) ?_; refine EW.eAssign ?_; refine EW.eEnd ?_; (try refine EW.nm ?_))
  all_goals first | (fail_if_success (refine EW.eUnroll 1 ?_)) | (refine EW.eLoopD [7, 8, 9, 10, 11, 12, 13, 14, 15, 16, 17, 18, 19, 20, 21, 22, 23, 24, 25, 26, 27] 1000000 (fun j : {i : Nat // i ≤ t} => [(.t 7, .v (.c (.v (.int .i64 j.1))))]) (fun j => t - j.1) (⟨0, by omega⟩) (by ((repeat (first | exact EW.subW.nil | refine EW.subW.cons rfl ?_ | refine EW.subW.conv rfl ?_)); (first | done | fail))) ?_; rintro hcl2 ⟨i, hi⟩; (try dsimp only))
  all_goals try (refine EW.nm ?_)
  all_goals (try ((try dsimp only at hi); have hai : Wr .i64 ((a : Int) + (i : Int)) ((a + i : Nat) : Int) := (by rw [show (a : Int) + (i : Int) = ((a + i : Nat) : Int) by omega]; exact Wr.i64 (by omega)); have hiq : i < t ∨ t = i := (by omega); rcases hiq with hit | hit; (have hem : (l.getD (a + i) Px.zero).z = 16777216 := hin i hit); rotate_left; subst hit; rcases Nat.lt_or_ge (a + t) l.length with hal | hal; (have hem : ¬ (l.getD (a + t) Px.zero).z = 16777216 := hat (by omega)); rotate_left; rotate_left))
  all_goals try (refine EW.eReg (id := 2) ?_; refine EW.eMove ?_; refine EW.eMove ?_; refine EW.eAdd ?_ (hr' := hai); refine EW.eMove ?_; (first | refine EW.eLenS ?_ | refine EW.eLenG ?_ | refine EW.eLenN ?_); refine EW.eLss ?_; refine EW.eMove ?_)
  all_goals try (refine EW.eGuard (j := 6) (o := ⟨some 15, _, _, _, _, _⟩) ?_ ?_ <;> (intro hb hb'; (try dsimp only at hb'); (try (exfalso; first | omega | with_reducible exact absurd rfl hb'))))
  all_goals try ((first | refine EW.eSkipT (j := 6) ?_ | refine EW.eSkipU (j := 6) ?_ | refine EW.eMove ?_); (first | refine EW.eSkipT (j := 6) ?_ | refine EW.eSkipU (j := 6) ?_ | refine EW.eMove ?_); (first | refine EW.eSkipT (j := 6) ?_ | refine EW.eSkipU (j := 6) ?_ | refine EW.eMove ?_); (first | refine EW.eSkipT (j := 6) ?_ | refine EW.eSkipU (j := 6) ?_ | refine EW.eAdd ?_ (hr' := hai)); (first | refine EW.eSkipT (j := 6) ?_ | refine EW.eSkipU (j := 6) ?_ | refine EW.eIndexAddrS (z := 4) ?_ | refine EW.eIndexAddrG (z := 4) ?_); (first | refine EW.eSkipT (j := 6) ?_ | refine EW.eSkipU (j := 6) ?_ | refine EW.eFieldAddr (k := 1) ?_); (first | refine EW.eSkipT (j := 6) ?_ | refine EW.eSkipU (j := 6) ?_ | refine EW.eLoad1 ?_); (first | refine EW.eSkipT (j := 6) ?_ | refine EW.eSkipU (j := 6) ?_ | refine EW.eEql ?_); (first | refine EW.eSkipT (j := 6) ?_ | refine EW.eSkipU (j := 6) ?_ | refine EW.eMove ?_); (first | refine EW.eSkipT (j := 6) ?_ | refine EW.eSkipU (j := 6) ?_ | refine EW.eEqlB ?_); (first | refine EW.ePickT ?_ | refine EW.ePickF ?_); refine EW.eEnd ?_; (try refine EW.nm ?_))
  all_goals try (first | refine EW.eYes (x := .tmp 25) ?_ | refine EW.eNo (x := .tmp 25) ?_ | (refine EW.eCond (x := .tmp 25) ?_ ?_ <;> (intro hb hb'; (try dsimp only at hb'); (try (exfalso; first | omega | with_reducible exact absurd rfl hb')))))
  all_goals try (refine EW.nm ?_)
  all_goals try (refine EW.eReg (id := 3) ?_; refine EW.eMove ?_; refine EW.eAdd ?_; refine EW.eAssign ?_; refine EW.eEnd ?_; (try refine EW.nm ?_))
  all_goals first | (fail_if_success (with_reducible refine EW.isLater ?_)) | (refine EW.eLaterD (⟨i + 1, by omega⟩) (by dsimp only; omega) (by ((repeat (first | exact EW.subW.nil | refine EW.subW.cons rfl ?_ | refine EW.subW.conv rfl ?_)); (first | done | fail))) hcl2)
  all_goals try (refine EW.nm ?_)
  all_goals try (refine EW.eReg (id := 4) ?_; refine EW.eMove ?_; refine EW.eAssign ?_; refine EW.eEnd ?_; (try refine EW.nm ?_))
  all_goals try (with_reducible refine EW.parkK ?_)
  all_goals try (refine EW.Park.mk ?_)
  all_goals (refine EW.eLeaveN [] hR EW.orP (by rfl) (by rfl) ?_ ?_ rfl rfl EW.nlP rfl rfl; rotate_left 1; (· ((repeat (first | exact EW.atE.nil | refine EW.atE.lt rfl ?_ | refine EW.atE.lf ?_ | refine EW.atE.b rfl EW.SameB.refl ?_ | (refine EW.atE.b rfl ?_ ?_; rotate_left 1))))))
  all_goals rfl
theorem dsame_s (o : Bool) (l : List Px) (a : Nat) (h : a ≤ l.length) (hl : l.length ≤ 10000) : CT Try.prog 39 [.c (.g 0 0 l.length l.length 4), .c (.v (.int .i64 (a : Int))), .c (.v (.bool false))] (upd EW.emp (WP o l)) 1 1 (.c (.v (.int .i64 (skipS (l.drop a) : Nat)))) (upd (upd EW.emp (WP o l)) []) := by
  have hdl : (l.drop a).length = l.length - a := List.length_drop
  have hin := skipS_in (l.drop a)
  have hle := skipS_le (l.drop a)
  have hat := skipS_at (l.drop a)
  simp only [drop_getD] at hin hat
  rw [hdl] at hle hat
  generalize skipS (l.drop a) = t at *
  clear hdl
  refine EW.ctEnter EW.sup1 Try.func39 rfl Try.ntmps39 rfl EW.nlP ?_; intro w0 tch ini R hR
  all_goals try (refine EW.nm ?_)
  all_goals try (refine EW.eReg (id := 0) ?_; refine EW.eAssign ?_; refine EW.eEnd ?_; (try refine EW.nm ?_))
  all_goals try (refine EW.eReg (id := 1) ?_; refine EW.eAssign ?_; refine EW.eEnd ?_; (try refine EW.nm ?_))
  all_goals first | (fail_if_success (refine EW.eUnroll 1 ?_)) | (refine EW.eLoopD [7, 8, 9, 10, 11, 12, 13, 14, 15, 16, 17, 18, 19, 20, 21, 22, 23, 24, 25, 26, 27] 1000000 (fun j : {i : Nat // i ≤ t} => [(.t 7, .v (.c (.v (.int .i64 j.1))))]) (fun j => t - j.1) (⟨0, by omega⟩) (by ((repeat (first | exact EW.subW.nil | refine EW.subW.cons rfl ?_ | refine EW.subW.conv rfl ?_)); (first | done | fail))) ?_; rintro hcl2 ⟨i, hi⟩; (try dsimp only))
  all_goals try (refine EW.nm ?_)
  all_goals (try ((try dsimp only at hi); have hai : Wr .i64 ((a : Int) + (i : Int)) ((a + i : Nat) : Int) := (by rw [show (a : Int) + (i : Int) = ((a + i : Nat) : Int) by omega]; exact Wr.i64 (by omega)); have hiq : i < t ∨ t = i := (by omega); rcases hiq with hit | hit; (have hem : ¬ (l.getD (a + i) Px.zero).z = 16777216 := hin i hit); rotate_left; subst hit; rcases Nat.lt_or_ge (a + t) l.length with hal | hal; (have hem : (l.getD (a + t) Px.zero).z = 16777216 := hat (by omega)); rotate_left; rotate_left))
  all_goals try (refine EW.eReg (id := 2) ?_; refine EW.eMove ?_; refine EW.eMove ?_; refine EW.eAdd ?_ (hr' := hai); refine EW.eMove ?_; (first | refine EW.eLenS ?_ | refine EW.eLenG ?_ | refine EW.eLenN ?_); refine EW.eLss ?_; refine EW.eMove ?_)
  all_goals try (refine EW.eGuard (j := 6) (o := ⟨some 15, _, _, _, _, _⟩) ?_ ?_ <;> (intro hb hb'; (try dsimp only at hb'); (try (exfalso; first | omega | with_reducible exact absurd rfl hb'))))
  all_goals try ((first | refine EW.eSkipT (j := 6) ?_ | refine EW.eSkipU (j := 6) ?_ | refine EW.eMove ?_); (first | refine EW.eSkipT (j := 6) ?_ | refine EW.eSkipU (j := 6) ?_ | refine EW.eMove ?_); (first | refine EW.eSkipT (j := 6) ?_ | refine EW.eSkipU (j := 6) ?_ | refine EW.eMove ?_); (first | refine EW.eSkipT (j := 6) ?_ | refine EW.eSkipU (j := 6) ?_ | refine EW.eAdd ?_ (hr' := hai)); (first | refine EW.eSkipT (j := 6) ?_ | refine EW.eSkipU (j := 6) ?_ | refine EW.eIndexAddrS (z := 4) ?_ | refine EW.eIndexAddrG (z := 4) ?_); (first | refine EW.eSkipT (j := 6) ?_ | refine EW.eSkipU (j := 6) ?_ | refine EW.eFieldAddr (k := 1) ?_); (first | refine EW.eSkipT (j := 6) ?_ | refine EW.eSkipU (j := 6) ?_ | refine EW.eLoad1 ?_); (first | refine EW.eSkipT (j := 6) ?_ | refine EW.eSkipU (j := 6) ?_ | refine EW.eEql ?_); (first | refine EW.eSkipT (j := 6) ?_ | refine EW.eSkipU (j := 6) ?_ | refine EW.eMove ?_); (first | refine EW.eSkipT (j := 6) ?_ | refine EW.eSkipU (j := 6) ?_ | refine EW.eEqlB ?_); (first | refine EW.ePickT ?_ | refine EW.ePickF ?_); refine EW.eEnd ?_; (try refine EW.nm ?_))
  all_goals try (first | refine EW.eYes (x := .tmp 25) ?_ | refine EW.eNo (x := .tmp 25) ?_ | (refine EW.eCond (x := .tmp 25) ?_ ?_ <;> (intro hb hb'; (try dsimp only at hb'); (try (exfalso; first | omega | with_reducible exact absurd rfl hb')))))
  all_goals try (refine EW.nm ?_)
  all_goals try (refine EW.eReg (id := 3) ?_; refine EW.eMove ?_; refine EW.eAdd ?_; refine EW.eAssign ?_; refine EW.eEnd ?_; (try refine EW.nm ?_))
  all_goals first | (fail_if_success (with_reducible refine EW.isLater ?_)) | (refine EW.eLaterD (⟨i + 1, by omega⟩) (by dsimp only; omega) (by ((repeat (first | exact EW.subW.nil | refine EW.subW.cons rfl ?_ | refine EW.subW.conv rfl ?_)); (first | done | fail))) hcl2)
  all_goals try (refine EW.nm ?_)
  all_goals try (refine EW.eReg (id := 4) ?_; refine EW.eMove ?_; refine EW.eAssign ?_; refine EW.eEnd ?_; (try refine EW.nm ?_))
  all_goals try (with_reducible refine EW.parkK ?_)
  all_goals try (refine EW.Park.mk ?_)
  all_goals (refine EW.eLeaveN [] hR EW.orP (by rfl) (by rfl) ?_ ?_ rfl rfl EW.nlP rfl rfl; rotate_left 1; (· ((repeat (first | exact EW.atE.nil | refine EW.atE.lt rfl ?_ | refine EW.atE.lf ?_ | refine EW.atE.b rfl EW.SameB.refl ?_ | (refine EW.atE.b rfl ?_ ?_; rotate_left 1))))))
  all_goals rfl
theorem denc_bad (o : Bool) (l : List Px) (hl : l.length ≤ 10000) (h : ¬ spOk l) : EncR 14 o l [] 140 := by
  have hO := span_n o l hl h
  clear h
  refine EW.ctEnter EW.sup1 Try.func14 rfl Try.ntmps14 rfl EW.nlP ?_; intro w0 tch ini R hR
  all_goals try (refine EW.nm ?_)
  all_goals try (refine EW.eReg (id := 0) ?_; refine EW.eAssign ?_; refine EW.eAssign ?_; refine EW.eEnd ?_; (try refine EW.nm ?_))
  all_goals try (refine EW.eReg (id := 1) ?_; refine EW.eMove ?_; refine EW.eCallN [0] Try.call37 (hO) ?_; refine EW.eAssign ?_; refine EW.eEnd ?_; (try refine EW.nm ?_))
  all_goals try (refine EW.eReg (id := 2) ?_; refine EW.eMove ?_; refine EW.eNot ?_; refine EW.eEnd ?_; (try refine EW.nm ?_))
  all_goals try (first | refine EW.eYes (x := .tmp 12) ?_ | refine EW.eNo (x := .tmp 12) ?_ | (refine EW.eCond (x := .tmp 12) ?_ ?_ <;> (intro hb hb'; (try dsimp only at hb'); (try (exfalso; first | omega | with_reducible exact absurd rfl hb')))))
  all_goals try (refine EW.nm ?_)
  all_goals try (refine EW.eReg (id := 3) ?_; refine EW.eAssign ?_; refine EW.eAssign ?_; refine EW.eEnd ?_; (try refine EW.nm ?_))
  all_goals try (refine EW.eNilGK 2 5 1 ?_)
  all_goals try (with_reducible refine EW.parkK ?_)
  all_goals try (refine EW.eReg (id := 4) ?_; refine EW.eBuild (place := fun i => [(0, 1), (1, 1)][i]?) ?_; refine EW.eBox ?_; refine EW.eAssign ?_; refine EW.eEnd ?_; (try refine EW.nm ?_))
  all_goals try (refine EW.eReg (id := 5) ?_; refine EW.eMove ?_; refine EW.eMove ?_; (first | refine EW.eLenS ?_ | refine EW.eLenG ?_ | refine EW.eLenN ?_); fail "no contract of (*mullion/mullionref05.Writer).Small"; refine EW.eEnd ?_; (try refine EW.nm ?_))
  all_goals try (refine EW.eReg (id := 6) ?_; refine EW.eAssign ?_; refine EW.eEnd ?_; (try refine EW.nm ?_))
  all_goals try (refine EW.eUnroll 6 ?_)
  all_goals try (refine EW.nm ?_)
  iterate 6 (
    all_goals try (refine EW.eReg (id := 7) ?_; refine EW.eMove ?_; refine EW.eMove ?_; (first | refine EW.eLenS ?_ | refine EW.eLenG ?_ | refine EW.eLenN ?_); refine EW.eLss ?_; refine EW.eEnd ?_; (try refine EW.nm ?_))
    all_goals try (first | refine EW.eYes (x := .tmp 22) ?_ | refine EW.eNo (x := .tmp 22) ?_ | (refine EW.eCond (x := .tmp 22) ?_ ?_ <;> (intro hb hb'; (try dsimp only at hb'); (try (exfalso; first | omega | with_reducible exact absurd rfl hb')))))
    all_goals try (refine EW.nm ?_)
    all_goals try (refine EW.eReg (id := 8) ?_; refine EW.eMove ?_; refine EW.eMove ?_; fail "no contract of mullion/mullionref16.same"; refine EW.eAssign ?_; refine EW.eEnd ?_; (try refine EW.nm ?_))
    all_goals try (refine EW.eReg (id := 9) ?_; refine EW.eMove ?_; refine EW.eMove ?_; refine EW.eMove ?_; (first | refine EW.eLenS ?_ | refine EW.eLenG ?_ | refine EW.eLenN ?_); refine EW.eMove ?_; refine EW.eSub ?_; fail "no contract of (*mullion/mullionref05.Writer).Small"; refine EW.eEnd ?_; (try refine EW.nm ?_))
    all_goals try (refine EW.eReg (id := 10) ?_; refine EW.eMove ?_; refine EW.eMove ?_; refine EW.eAdd ?_; refine EW.eAssign ?_; refine EW.eEnd ?_; (try refine EW.nm ?_))
    all_goals try (refine EW.eReg (id := 11) ?_; refine EW.eMove ?_; refine EW.eMove ?_; (first | refine EW.eLenS ?_ | refine EW.eLenG ?_ | refine EW.eLenN ?_); refine EW.eEql ?_; refine EW.eEnd ?_; (try refine EW.nm ?_))
    all_goals try (first | refine EW.eYes (x := .tmp 39) ?_ | refine EW.eNo (x := .tmp 39) ?_ | (refine EW.eCond (x := .tmp 39) ?_ ?_ <;> (intro hb hb'; (try dsimp only at hb'); (try (exfalso; first | omega | with_reducible exact absurd rfl hb')))))
    all_goals try (refine EW.nm ?_)
    all_goals try (refine EW.eReg (id := 12) ?_; refine EW.eMove ?_; refine EW.eMove ?_; fail "no contract of mullion/mullionref16.same"; refine EW.eAssign ?_; refine EW.eEnd ?_; (try refine EW.nm ?_))
    all_goals try (refine EW.eReg (id := 13) ?_; refine EW.eMove ?_; refine EW.eMove ?_; refine EW.eMove ?_; (first | refine EW.eLenS ?_ | refine EW.eLenG ?_ | refine EW.eLenN ?_); refine EW.eMove ?_; refine EW.eSub ?_; fail "no contract of (*mullion/mullionref05.Writer).Small"; refine EW.eEnd ?_; (try refine EW.nm ?_))
    all_goals try (refine EW.eReg (id := 14) ?_; refine EW.eAssign ?_; refine EW.eEnd ?_; (try refine EW.nm ?_))
    all_goals try (refine EW.eUnroll 6 ?_)
    all_goals try (refine EW.nm ?_)
    iterate 6 (
      all_goals try (refine EW.eReg (id := 15) ?_; refine EW.eMove ?_; refine EW.eMove ?_; refine EW.eLss ?_; refine EW.eEnd ?_; (try refine EW.nm ?_))
      all_goals try (first | refine EW.eYes (x := .tmp 52) ?_ | refine EW.eNo (x := .tmp 52) ?_ | (refine EW.eCond (x := .tmp 52) ?_ ?_ <;> (intro hb hb'; (try dsimp only at hb'); (try (exfalso; first | omega | with_reducible exact absurd rfl hb')))))
      all_goals try (refine EW.nm ?_)
      all_goals try (refine EW.eReg (id := 17) ?_; refine EW.eMove ?_; refine EW.eMove ?_; refine EW.eMove ?_; refine EW.eMove ?_; refine EW.eAdd ?_; (first | refine EW.eIndexAddrS (z := 4) ?_ | refine EW.eIndexAddrG (z := 4) ?_); refine EW.eLoadA (k := 4) ?_; fail "no contract of mullion/mullionref13.Write"; refine EW.eEnd ?_; (try refine EW.nm ?_))
      all_goals try (refine EW.eReg (id := 16) ?_; refine EW.eMove ?_; refine EW.eAdd ?_; refine EW.eAssign ?_; refine EW.eEnd ?_; (try refine EW.nm ?_)))
    all_goals try (refine EW.eReg (id := 18) ?_; refine EW.eMove ?_; refine EW.eMove ?_; refine EW.eAdd ?_; refine EW.eAssign ?_; refine EW.eEnd ?_; (try refine EW.nm ?_)))
  all_goals try (refine EW.eReg (id := 19) ?_; refine EW.eMove ?_; (first | refine EW.eNil ?_ | refine EW.eNilF ?_ | refine EW.eNilY ?_ | refine EW.eNilP ?_); refine EW.eFieldAddr (k := 1) ?_; refine EW.eLoad1 ?_; fail "no contract of mullion/mullionref04.Seal"; refine EW.eAssign ?_; refine EW.eAssign ?_; refine EW.eEnd ?_; (try refine EW.nm ?_))
  all_goals try (with_reducible refine EW.parkK ?_)
  all_goals try (refine EW.Park.mk ?_)
  all_goals (refine EW.eLeaveN [5] hR EW.orP (by rfl) (by rfl) ?_ ?_ rfl rfl EW.nlP rfl rfl; rotate_left 1; (· ((repeat (first | exact EW.atE.nil | refine EW.atE.lt rfl ?_ | refine EW.atE.lf ?_ | refine EW.atE.b rfl EW.SameB.refl ?_ | (refine EW.atE.b rfl ?_ ?_; rotate_left 1))))))
  all_goals rfl
end Go.Proofs.Ytnmkpekfkfckoaa
